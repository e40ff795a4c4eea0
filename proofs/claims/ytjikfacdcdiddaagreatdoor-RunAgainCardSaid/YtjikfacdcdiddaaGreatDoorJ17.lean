/- Package run: ObjectOf, OuterOf, KindOf; calls on the machine's heap. -/
import Derived.Test.YtjikfacdcdiddaaGreatDoorJ16
set_option linter.unusedSimpArgs false
set_option maxRecDepth 100000
set_option maxHeartbeats 20000000
set_option linter.unusedVariables false
namespace Go.Proofs.YtjikfacdcdiddaaGreatDoor
open Go Go.RowKit
section
variable {ρ:Nat->Option Role}{w:World}{hb ho:Nat}{L:HL}{H:LHeap}
theorem Z65(h:HeapAt ρ w hb ho L H)(n:Int) :
 Calls Tryz.prog 121 #[.pointer (some ⟨hb,ho,none⟩),vI n] w λe w'=>e=.returned (vI (H.objectOf n))∧w'=w:=by
 unfold LHeap.objectOf;rcases hob:H.scope? n with _|o
 .have HC:=lh (T5 h n hob);clear h hob;go_enter Tryz.func121,Tryz.ntmps121
  exact KA
 .obtain⟨m,rfl,g⟩:=LHeap.scope?_some hob;have HC:=lh (SK h m (getElem?_lt g));have hc:vC w (L.sb m) 1 (vI o.object):=by have :=(h.scp m o g).1;simp[vC,World.cell?,this]
  clear h hob g;go_enter Tryz.func121,Tryz.ntmps121
  exact KA
theorem Zew(h:HeapAt ρ w hb ho L H)(n:Int) :
 Calls Tryz.prog 156 #[.pointer (some ⟨hb,ho,none⟩),vI n] w λe w'=>e=.returned (vI (H.outerOf n))∧w'=w:=by
 unfold LHeap.outerOf;rcases hob:H.scope? n with _|o
 .have HC:=lh (T5 h n hob);clear h hob;go_enter Tryz.func156,Tryz.ntmps156
  exact KA
 .obtain⟨m,rfl,g⟩:=LHeap.scope?_some hob;have HC:=lh (SK h m (getElem?_lt g));have hc:vC w (L.sb m) 0 (vI o.outer):=by have :=(h.scp m o g).1;simp[vC,World.cell?,this]
  clear h hob g;go_enter Tryz.func156,Tryz.ntmps156
  exact KA
theorem Zix(h:HeapAt ρ w hb ho L H)(n:Int)(name:ByteArray) :
 Calls Tryz.prog 157 #[.pointer (some ⟨hb,ho,none⟩),vI n,.string name] w λe w'=>e=.returned (vI (H.kindOf n name))∧Below w.heap.size w w':=by
 rcases hob:H.scope? n with _|s
 .have HC:=lh (T5 h n hob);have e:H.kindOf n name= -1:=by simp[LHeap.kindOf,hob]
  rw[e];clear h hob e;go_enter Tryz.func157,Tryz.ntmps157
  exact Vd
 .obtain⟨m,rfl,u⟩:=LHeap.scope?_some hob;have HC:=lh (SK h m (getElem?_lt u));have hc:vC w (L.sb m) 1 (vI s.object):=by have :=(h.scp m s u).1;simp[vC,World.cell?,this]
  by_cases aV:s.object<0
  .have y:=lh (λw1 (X:Below w.heap.size w w1)=>WP (h.below X) m s u name);have hn0:decide (0<=s.object)=false:=by simp;omega
   rcases hk:s.idx name with _|k
   .have e:H.kindOf m name= -1:=by simp only[LHeap.kindOf,hob,if_neg (Int.not_le.2 aV),hk,Option.bind_none]
    rw[e];rw[hk]at y;simp only[R']at y;generalize s.object=J at *;clear h hob e u hk;go_enter Tryz.func157,Tryz.ntmps157
    go_wp2_with fail
    refine HC.o.mono ?_;rintro e w1⟨rfl,rfl⟩;go_wp2_with fail
    refine(y.o _ (Y2 _ _)).mono ?_;rintro e w1⟨rfl,o⟩;have E:=lh o;clear o;go_wp2;go_ret;exact⟨rfl,E.o⟩
   .obtain⟨b,F,_⟩:=LScope.idx_some hk;have e:H.kindOf m name=b.kind:=by simp only[LHeap.kindOf,hob,if_neg (Int.not_le.2 aV),hk,Option.bind_some,F]
    rw[e];have I:=(h.scp m s u).2;rcases Z4 I with⟨hv,hz⟩|⟨g,c,hv,Y,Z,cY⟩;·have:=getElem?_lt F;omega
    have O:=Md (f:=LBind.cells) (m:=6) (λ_=>rfl) I (g:=g) Pv (i:=k) (j:=4) F rfl;rw[hk,hv]at y;simp only[R',Value.ownBlock,Option.map_some]at y;generalize s.object=J at *;generalize b.kind=kd at *;have HR:=lh O;clear h hob e u hk F I hv Y Z O;go_enter Tryz.func157,Tryz.ntmps157
    go_wp2_with fail
    refine HC.o.mono ?_;rintro e w1⟨rfl,rfl⟩;go_wp2_with fail
    refine(y.o _ (Y2 _ _)).mono ?_;rintro e w1⟨rfl,o⟩;have E:=lh o;clear o;go_wp2_with fail
    refine(y.o _ E.o).mono ?_;rintro e w2⟨rfl,o⟩;have U:=zT E o;have hr:w2.cell? ⟨g,k*6+4,none⟩=some (vI kd):=(U.o.cell (p:=⟨g,k*6+4,none⟩) cY).trans HR.o;clear o;go_wp2;go_ret;exact⟨rfl,U.o⟩
  .have e:H.kindOf m name= -1:=by simp only[LHeap.kindOf,hob,if_pos (Int.not_lt.1 aV)]
   rw[e];have hn0:decide (0<=s.object)=true:=Pe
   generalize s.object=J at *;clear h hob e u;go_enter Tryz.func157,Tryz.ntmps157
   exact Vd
end
def Does(C:RCtx)(M:MRep)(w:World)(s':MSt)(w':World):Prop:=∃M',MAt C M' w' s'∧MFr M M' w w'
section
variable {C:RCtx}{M M' sA:MRep}{w w' dQ:World}{s s':MSt}
theorem MFr.cell(f:MFr M M' w w'){b o:Nat}(hb:b<w.heap.size)(hn:¬M.has b):w'.cell? ⟨b,o,none⟩=w.cell? ⟨b,o,none⟩:=Yb (f.block b hb hn)
theorem MFr.does(f:MFr M M' w w')(h:Does C M' w' s' dQ):Does C M w s' dQ:=by
 obtain⟨M1,g,m⟩:=h;exact⟨M1,g,f.trans m⟩
theorem MAt.does(h:MAt C M w s)(g:Below w.heap.size w w'):Does C M w s w':=⟨M,h.below g,.of_below g⟩
theorem Does.step{ρ':Nat->Option Role}{o:HL}{m:LHeap}(h:MAt C M w s)(g:HeapAt ρ' w' C.mb 0 o m)(f:Fr M.ρ ρ' C.mb 0 w w'):Does C M w (s.setH m) w':=⟨_,h.heapStep g f⟩
variable (h:MAt C M w s){d:Nat}(hI:Inv s d)
include h
theorem T6(n:Int)(name:ByteArray):Calls Tryz.prog 18 #[vP C.mb,vI n,.string name] w λe w'=>e=.returned (.bool (s.H.has n name))∧Below w.heap.size w w':=Tg h.heap n name
theorem Zx2(n:Int)(name:ByteArray):Calls Tryz.prog 117 #[vP C.mb,vI n,.string name] w λe w'=>e=.returned (.tuple #[(s.H.read n name).1.agg,df (s.H.read n name).2])∧Below w.heap.size w w':=Zor h.heap n name
theorem AaC(n:Int)(name:ByteArray):Calls Tryz.prog 40 #[vP C.mb,vI n,.string name] w λe w'=>e=.returned (.tuple #[((s.H.get n name).getD LVal.zero).agg,.bool (s.H.get n name).isSome])∧Below w.heap.size w w':=Zev h.heap n name
theorem Zv3(n:Int):Calls Tryz.prog 52 #[vP C.mb,vI n] w λe w'=>e=.returned (vI (s.H.code n))∧w'=w:=Zgw h.heap n
theorem Zxg(n:Int)(name:ByteArray):Calls Tryz.prog 138 #[vP C.mb,vI n,.string name] w λe w'=>e=.returned (.bool (s.H.drop n name).2)∧Does C M w (s.setH (s.H.drop n name).1) w':=
 (Zn9 h.heap n name).mono λe w' ⟨he,ρ',m,g,f⟩=>⟨he,.step h g f⟩
theorem Aau(n:Int)(name:ByteArray):Calls Tryz.prog 139 #[vP C.mb,vI n,.string name] w λe w'=>e=.returned (.bool (s.H.cut n name).2)∧Does C M w (s.setH (s.H.cut n name).1) w':=
 (Zjg h.heap n name).mono λe w' ⟨he,ρ',m,g,f⟩=>⟨he,.step h g f⟩
theorem Zp8(n:Int)(name:ByteArray)(v:LVal):Calls Tryz.prog 79 #[vP C.mb,vI n,.string name,v.agg] w λe w'=>e=.returned (df (s.H.start n name v).2)∧Does C M w (s.setH (s.H.start n name v).1) w':=
 (Zmh h.heap n name v).mono λe w' ⟨he,ρ',m,g,f⟩=>⟨he,.step h g f⟩
include hI
theorem yB(n:Int)(name:ByteArray)(v:LVal)(fixed:Bool):Calls Tryz.prog 14 #[vP C.mb,vI n,.string name,v.agg,.bool fixed] w λe w'=>e=.returned (df (s.H.put n name v fixed).2)∧Does C M w (s.put n name v fixed) w':=
 (Zk0 h.heap n name v fixed hI.lens.2.1).mono λe w' ⟨he,ρ',m,g,f⟩=>⟨he,.step h g f⟩
theorem X0(n:Int)(name:ByteArray)(v:LVal):Calls Tryz.prog 122 #[vP C.mb,vI n,.string name,v.agg] w λe w'=>e=.returned (df (s.H.write n name v).2)∧Does C M w (s.write n name v) w':=
 (Zkx h.heap n name v hI.lens.2.1).mono λe w' ⟨he,ρ',m,g,f⟩=>⟨he,.step h g f⟩
theorem TN(n:Int)(name:ByteArray)(kind:Int)(v:LVal):Calls Tryz.prog 43 #[vP C.mb,vI n,.string name,vI kind,v.agg] w λe w'=>e=.returned (df (s.H.declare n name kind v).2)∧Does C M w (s.declare n name kind v) w':=
 (Za0 h.heap n name kind v hI.lens.1).mono λe w' ⟨he,ρ',m,g,f⟩=>⟨he,.step h g f⟩
theorem Yw(code:Int):Calls Tryz.prog 13 #[vP C.mb,vI code] w λe w'=>e=.returned (vI s.nextO)∧Does C M w (s.object code) w':=
 (Z86 h.heap code (by have:=hI.lens.2.2.2.1;omega)).mono λe w' ⟨he,ρ',m,g,f⟩=>⟨he,.step h g f⟩
theorem TE(outer object owner:Int):Calls Tryz.prog 15 #[vP C.mb,vI outer,vI object,vI owner] w λe w'=>e=.returned (vI s.next)∧Does C M w (s.opens outer object owner) w':=
 (Znl h outer object owner hI.lens.2.2.1 hI.lens.2.2.2.2.1).mono λe w' ⟨he,M',g,m⟩=>⟨he,M',g,m⟩
end
structure Lo(C:RCtx)(M:MRep)(wE w:World)(b:Nat)(c:Array Value)(T:TypeId):Prop where
 blk:w.heap[b]?=some (.cells c T (0,0))
 free:¬M.has b
 late:wE.heap.size<=b
 old:C.w0.heap.size<=wE.heap.size
section
variable {C:RCtx}{M M' sA:MRep}{w w' dQ wE:World}{s s':MSt}{b:Nat}{c:Array Value}{T:TypeId}
theorem Lo.lt(h:Lo C M wE w b c T):b<w.heap.size:=(Y1.1 h.blk).1
theorem Lo.fr(h:Lo C M wE w b c T)(f:MFr M M' w w'):Lo C M' wE w' b c T:=⟨(f.block b h.lt h.free).trans h.blk,f.free b h.lt h.free,h.late,h.old⟩
theorem Lo.cell(h:Lo C M wE w b c T){i:Nat}{x:Value}(hx:c[i]?=some x):w.cell? ⟨b,i,none⟩=some x:=by simp[vC,World.cell?,h.blk,hx]
theorem Lo.fz(h:Lo C M wE w b c T)(i:Nat):w.frozen? ⟨b,i,none⟩=false:=by simp[World.frozen?,h.blk]
theorem Lo.bel(h:Lo C M wE w b c T)(g:Below w.heap.size w w'):Lo C M wE w' b c T:=h.fr (.of_below g)
theorem Lo.new(h:MAt C M w s)(g:wE.heap.size<=w.heap.size)(m:C.w0.heap.size<=wE.heap.size)(c:Array Value)(T:TypeId):Lo C M wE (w.alloc (.cells c T)) w.heap.size c T:=⟨heap_alloc_new w _,h.fresh (Y0 _),g,m⟩
theorem Lo.six{x y z:Value}(h:Lo C M wE w b #[x,y,z] T):vC w b 0 x∧vC w b 1 y∧vC w b 2 z∧w.frozen? ⟨b,0,none⟩=false∧w.frozen? ⟨b,1,none⟩=false∧w.frozen? ⟨b,2,none⟩=false:=
 ⟨h.cell rfl,h.cell rfl,h.cell rfl,h.fz 0,h.fz 1,h.fz 2⟩
theorem Lo.two{x y:Value}(h:Lo C M wE w b #[x,y] T):vC w b 0 x∧vC w b 1 y:=⟨h.cell rfl,h.cell rfl⟩
theorem Lo.put(h:Lo C M wE w b c T)(m:MAt C M w s)(g:MFr sA M wE w)(o:T≠42)(p:T≠22)(i:Nat)(x:Value) :
 MAt C M (w.setCell ⟨b,i,none⟩ x) s∧MFr sA M wE (w.setCell ⟨b,i,none⟩ x)∧Lo C M wE (w.setCell ⟨b,i,none⟩ x) b (c.setIfInBounds i x) T:=by
 have hs:(w.setCell ⟨b,i,none⟩ x).heap.size=w.heap.size:=PF
 have hk:∀k,k≠b->(w.setCell ⟨b,i,none⟩ x).heap[k]?=w.heap[k]?:=λk hk=>Y8 _ _ _ _ hk;refine⟨m.local h.blk o p h.free (Y4 h.old h.late),⟨g.os,g.tape,g.output,by rw[hs];exact g.size,λk u hf=>(hk k (by have:=h.late;omega)).trans (g.block k u hf),g.free⟩,⟨?_,h.free,h.late,h.old⟩⟩;have:=h.blk;simp[World.setCell,Array.getElem?_modify,this]
theorem Lo.beside{b':Nat}{c':Array Value}{T':TypeId}(h:Lo C M wE w b c T)(g:b≠b')(i:Nat)(x:Value):Lo C M wE (w.setCell ⟨b',i,none⟩ x) b c T:=
 ⟨(Y8 _ _ _ _ g).trans h.blk,h.free,h.late,h.old⟩
end
def qy(b:Nat):Value:=.iface 71 (vP b)
def LVal.arr(v:LVal):Array Value:=#[vI v.kind,vI v.n,.string v.s]
def lD(v:LVal):Obj:=.cells v.arr 76 (0,0)
def ak(C:RCtx)(M:MRep)(w:World):Er->Value->Prop
 | .stop,v=>v=oj C.eb
 | .thr x,v=>∃b,v=qy b∧w.heap[b]?=some (lD x)∧¬M.has b
section
variable {C:RCtx}{M M' sA:MRep}{w w' dQ wE:World}{s s':MSt}
theorem ak.fr{e:Er}{v:Value}(h:ak C M w e v)(f:MFr M M' w w'):ak C M' w' e v:=by
 cases e with
 |stop=>exact h
 | thr x =>
   obtain⟨b,o,g,m⟩:=h;have hl:=(Y1.1 g).1;exact⟨b,o,(f.block b hl m).trans g,f.free b hl m⟩
theorem ak.ne{e:Er}{v:Value}(h:ak C M w e v):∃t p,v=.iface t (.pointer p)∧p≠none:=by
 cases e with
 |stop=>exact⟨_,_,h,by simp⟩
 | thr x =>
   obtain⟨b,g,_⟩:=h;exact⟨_,_,g,by simp⟩
theorem Lo.ret{b:Nat}{x y z x' y' z':Value}(h:Lo C M wE w b #[x,y,z] 55)(u:MAt C M w s)(E:MFr sA M wE w) :
 MAt C M (((w.setCell ⟨b,0,none⟩ x').setCell ⟨b,1,none⟩ y').setCell ⟨b,2,none⟩ z') s∧MFr sA M wE (((w.setCell ⟨b,0,none⟩ x').setCell ⟨b,1,none⟩ y').setCell ⟨b,2,none⟩ z')∧
  ∀m ev,ak C M w m ev->ak C M (((w.setCell ⟨b,0,none⟩ x').setCell ⟨b,1,none⟩ y').setCell ⟨b,2,none⟩ z') m ev:=by
 obtain⟨F,a2,a3⟩:=h.put u E Pa Pa 0 x';obtain⟨b1,b2,b3⟩:=a3.put F a2 Pa Pa 1 y';obtain⟨c1,c2,c3⟩:=b3.put b1 b2 Pa Pa 2 z';refine⟨c1,c2,λm ev he=>?_⟩;cases m with
 |stop=>exact he
 | thr v =>
   obtain⟨g,I,o,J⟩:=he;have p:g≠b:=λe=>by
    rw[e,h.blk]at o;unfold lD at o;simp at o
   exact⟨g,I,(Y8 _ _ _ _ p).trans ((Y8 _ _ _ _ p).trans ((Y8 _ _ _ _ p).trans o)),J⟩
theorem Zlt(w:World)(t:ByteArray):Calls Tryz.prog 82 #[.string t] w λe w'=>∃b,e=.returned (qy b)∧Below w.heap.size w w'∧w.heap.size<=b∧w'.heap[b]?=some (lD (.say t)):=by
 have hs:=Y' w t;simp only[LVal.agg]at hs;have o:=lh hs;clear hs;go_enter Tryz.func82,Tryz.ntmps82
 go_wp2_with fail
 refine o.o.mono ?_;rintro e w1⟨rfl,m⟩;have g:=lh m;clear m;go_wp2;go_ret;exact⟨w1.heap.size,rfl,g.o.alloc g.o.size _,g.o.size,heap_alloc_new w1 _⟩
theorem KB(h:MAt C M w s)(t:ByteArray):Calls Tryz.prog 82 #[.string t] w λe w'=>∃v,e=.returned v∧ak C M w' (.thr (.say t)) v∧Below w.heap.size w w':=
 (Zlt w t).mono λe w' ⟨b,g,m,o,p⟩=>⟨_,g,⟨b,rfl,p,h.fresh o⟩,m⟩
end
def al(C:RCtx)(M:MRep)(w:World)(r:MSt×Except Er LVal)(e:Ending)(w':World):Prop:=
 ∃ M', MAt C M' w' r.1 ∧ MFr M M' w w' ∧ match r.2 with
   | .ok v=>e=.returned (.tuple #[v.agg,.nilIface])
   | .error x=>∃(v:LVal) (ev:Value),e=.returned (.tuple #[v.agg,ev])∧ak C M' w' x ev
def Aam(C:RCtx)(M:MRep)(w:World)(r:MSt×Except Er Unit)(e:Ending)(w':World):Prop:=
 ∃ M', MAt C M' w' r.1 ∧ MFr M M' w w' ∧ match r.2 with
   | .ok _=>e=.returned .nilIface
   | .error x=>∃ev:Value,e=.returned ev∧ak C M' w' x ev
def iz(C:RCtx)(M:MRep)(w:World)(r:MSt×Except Er (Bool×LVal))(e:Ending)(w':World):Prop:=
 ∃ M', MAt C M' w' r.1 ∧ MFr M M' w w' ∧ match r.2 with
   | .ok v=>e=.returned (.tuple #[.bool v.1,v.2.agg,.nilIface])
   | .error x=>∃(b:Bool) (v:LVal) (ev:Value),e=.returned (.tuple #[.bool b,v.agg,ev])∧ak C M' w' x ev
def Frm.agg(fr:Frm):Value:=.agg #[.bool fr.strict,vI fr.vars]
def Zrl:Obj:=.cells #[vI 0,vI 0,.string ⟨#[]⟩] 55 (0,0)
section
variable {C:RCtx}{M M':MRep}{w w':World}{s s':MSt}{B:Nat}{a:ATree}
theorem Z1(w:World)(o:Obj):Below w.heap.size w (w.alloc o):=(Y2 _ _).alloc (Y0 _) o
theorem Zey(h:MAt C M w s)(n:Int):Calls Tryz.prog 128 #[vI n] w λe w'=>al C M w (Tv n s) e w':=by
 have u:=Z1 w Zrl;have HL:=lh (Lo.new (wE:=w) h (Y0 _) h.old.size #[vI 0,vI 0,.string ⟨#[]⟩] 55);have Y:=lh (KB (h.below u) Sp);have ho:=Zju (w.alloc Zrl) n;simp only[LVal.agg]at ho;have Z:=lh ho;have E:=lh (h.below u);have F:=lh u;unfold Zrl at Y Z E F;clear u h ho;unfold Tv;by_cases hn:1000000000<n∨n< -1000000000
 .rw[Y5 hn];have hd:decide (1000000000<n)=true∨decide (1000000000<n)=false∧decide (n< -1000000000)=true:=by
   by_cases h1:1000000000<n;·exact .inl (decide_eq_true h1)
   .exact .inr ⟨decide_eq_false h1,decide_eq_true O'⟩
  have HN:=lh hn;clear hn;rcases hd with hd|⟨hd,Hq⟩
  all_goals
   go_enter Tryz.func128,Tryz.ntmps128
   go_wp2_with fail
   refine Y.o.mono ?_;rintro e w1⟨ev,rfl,hE,g⟩;have m:=HL.o.bel g;obtain⟨I,J,O,z0,z1,z2⟩:=m.six;obtain⟨o,p,y⟩:=m.ret (x':=(vI 0)) (y':=(vI 0)) (z':=.string ⟨#[]⟩) (E.o.below g) ((MFr.of_below F.o).trans (.of_below g));have HE:=lh (y _ _ hE);have U:=lh o;have X:=lh p;clear hE m o p y g;go_wp2;refine bodyPost_ret (v:=.tuple #[LVal.zero.agg,ev]) ?_ rfl ?_;·simp[results,Tryz.results128,go_sem,I,J,O,LVal.agg,LVal.zero]
   .exact⟨M,U.o,X.o,LVal.zero,ev,rfl,HE.o⟩
 .rw[Y3 hn];have hd:decide (1000000000<n)=false:=decide_eq_false O';have Hq:decide (n< -1000000000)=false:=decide_eq_false O';go_enter Tryz.func128,Tryz.ntmps128
  go_wp2_with fail
  refine Z.o.mono ?_;rintro e w1⟨rfl,g⟩;have m:=HL.o.bel g;obtain⟨I,J,O,z0,z1,z2⟩:=m.six;obtain⟨o,p,y⟩:=m.ret (x':=(vI 3)) (y':=(vI n)) (z':=.string ⟨#[]⟩) (E.o.below g) ((MFr.of_below F.o).trans (.of_below g));have U:=lh o;have X:=lh p;clear m o p y g;go_wp2;refine bodyPost_ret (v:=.tuple #[(LVal.num n).agg,.nilIface]) ?_ rfl ?_;·simp[results,Tryz.results128,go_sem,I,J,O,LVal.agg,LVal.num]
  .exact⟨M,U.o,X.o,rfl⟩
theorem Zkh(h:MAt C M w s)(v:LVal)(g:0<=v.kind)(h5:v.kind<=5):Calls Tryz.prog 129 #[vP C.mb,v.agg] w λe w'=>e=.returned (.string (SX s.H v))∧Below w.heap.size w w':=by
 obtain⟨k,n,t⟩:=v;simp only at g h5;simp only[LVal.agg];have hB:=Z1 w (.cells #[vI k,vI n,.string t] 55);have HC:=lh (Zv3 ((h.below hB).drew) n);have HB:=lh hB;clear hB h;have x0:∀w:World,(Instr.index 216 (.agg #[.string ⟨#[117,110,100,101,102,105,110,101,100]⟩,.string ⟨#[111,98,106,101,99,116]⟩,.string ⟨#[98,111,111,108,101,97,110]⟩,.string ⟨#[110,117,109,98,101,114]⟩,.string ⟨#[115,116,114,105,110,103]⟩,.string ⟨#[111,98,106,101,99,116]⟩]) (vI 0)).run Tryz.prog w=.ok (.string UO) w:=λ_=>by kernel_rfl
 have u:∀w:World,(Instr.index 216 (.agg #[.string ⟨#[117,110,100,101,102,105,110,101,100]⟩,.string ⟨#[111,98,106,101,99,116]⟩,.string ⟨#[98,111,111,108,101,97,110]⟩,.string ⟨#[110,117,109,98,101,114]⟩,.string ⟨#[115,116,114,105,110,103]⟩,.string ⟨#[111,98,106,101,99,116]⟩]) (vI 1)).run Tryz.prog w=.ok (.string Z9r) w:=λ_=>by kernel_rfl
 have y:∀w:World,(Instr.index 216 (.agg #[.string ⟨#[117,110,100,101,102,105,110,101,100]⟩,.string ⟨#[111,98,106,101,99,116]⟩,.string ⟨#[98,111,111,108,101,97,110]⟩,.string ⟨#[110,117,109,98,101,114]⟩,.string ⟨#[115,116,114,105,110,103]⟩,.string ⟨#[111,98,106,101,99,116]⟩]) (vI 2)).run Tryz.prog w=.ok (.string Zcu) w:=λ_=>by kernel_rfl
 have E:∀w:World,(Instr.index 216 (.agg #[.string ⟨#[117,110,100,101,102,105,110,101,100]⟩,.string ⟨#[111,98,106,101,99,116]⟩,.string ⟨#[98,111,111,108,101,97,110]⟩,.string ⟨#[110,117,109,98,101,114]⟩,.string ⟨#[115,116,114,105,110,103]⟩,.string ⟨#[111,98,106,101,99,116]⟩]) (vI 3)).run Tryz.prog w=.ok (.string Zgq) w:=λ_=>by kernel_rfl
 have F:∀w:World,(Instr.index 216 (.agg #[.string ⟨#[117,110,100,101,102,105,110,101,100]⟩,.string ⟨#[111,98,106,101,99,116]⟩,.string ⟨#[98,111,111,108,101,97,110]⟩,.string ⟨#[110,117,109,98,101,114]⟩,.string ⟨#[115,116,114,105,110,103]⟩,.string ⟨#[111,98,106,101,99,116]⟩]) (vI 4)).run Tryz.prog w=.ok (.string Zgt) w:=λ_=>by kernel_rfl
 have I:∀w:World,(Instr.index 216 (.agg #[.string ⟨#[117,110,100,101,102,105,110,101,100]⟩,.string ⟨#[111,98,106,101,99,116]⟩,.string ⟨#[98,111,111,108,101,97,110]⟩,.string ⟨#[110,117,109,98,101,114]⟩,.string ⟨#[115,116,114,105,110,103]⟩,.string ⟨#[111,98,106,101,99,116]⟩]) (vI 5)).run Tryz.prog w=.ok (.string Z9r) w:=λ_=>by kernel_rfl
 by_cases h5:k=5
 .subst h5;by_cases hc:s.H.code n=0
  .have hd:(s.H.code n !=0)=false:=by simp[hc]
   have e:SX s.H ⟨5,n,t⟩=Z9r:=by simp[SX,hc]
   exact Yv
  .have hd:(s.H.code n !=0)=true:=by simp[hc]
   have e:SX s.H ⟨5,n,t⟩=Za8:=by simp[SX,hc]
   exact Yv
 .have b5:(k==5)=false:=by simp[h5]
  obtain⟨r,hr⟩:=zX (SX s.H ⟨k,n,t⟩)
  rw[<-hr];have m:=lh hr;have p:=lh (show 0<=k∧k<=4 by omega);clear g h5 hr;go_enter Tryz.func129,Tryz.ntmps129
  go_wp2_with fail
  refine Z8 [0,2,4,6,8,10,12,14,16] [9,10,11] (λW=>vC W w.heap.size 0 (vI k)∧vC W w.heap.size 1 (vI n)) ⟨World.cell?_alloc_new _ _ _ 0,World.cell?_alloc_new _ _ _ 1⟩ λ_=>?_;refine dW ?_
  iterate 9
   refine dV ?_
  refine Z0 ?_;have g:=p.o;have hr:=m.o;rcases(show k=0∨k=1∨k=2∨k=3∨k=4 by omega)with rfl|rfl|rfl|rfl|rfl
  all_goals
   clear p m b5;simp only[SX]at hr;simp at hr;subst hr;go_wp2;go_ret;exact⟨rfl,HB.o.drew⟩
theorem Zbb(h:MAt C M w s){d:Nat}(hI:Inv s d)(sc:Int)(name:ByteArray):Calls Tryz.prog 159 #[vP C.mb,vI sc,.string name] w λe w'=>e=.returned (.tuple #[])∧Does C M w (s.loose sc name) w':=by
 have p:=lh (T6 h sc name);unfold MSt.loose;by_cases m:s.H.has sc name=true
 .rw[Y5 m];rw[m]at p;have E:=lh h;clear h hI m;go_enter Tryz.func159,Tryz.ntmps159
  go_wp2_with fail
  refine p.o.mono ?_;rintro e w1⟨rfl,g⟩;have HB:=lh g;clear g;go_wp2;exact bodyPost_ret (v:=.tuple #[]) (by simp[results,Tryz.results159,go_sem]) rfl ⟨rfl,E.o.does HB.o⟩
 .rw[Y3 m];rw[Bool.not_eq_true]at m;rw[m]at p;obtain⟨o,ho⟩:=zX (s.H.objectOf sc)
  rw[<-ho];have y:=lh (λw1 (g:Below w.heap.size w w1)=>Z65 (h.below g).heap sc);rw[<-ho]at y;have F:=lh (λw1 (g:Below w.heap.size w w1)=>yB (h.below g) hI o name LVal.zero false);have I:=lh (λw1 (g:Below w.heap.size w w1)=>TN (h.below g) hI sc name 4 LVal.zero);clear h hI m ho;by_cases u:0<=o
  .rw[Y5 u];have hd:decide (0<=o)=true:=decide_eq_true u;go_enter Tryz.func159,Tryz.ntmps159
   go_wp2_with fail
   refine p.o.mono ?_;rintro e w1⟨rfl,g⟩;have HB:=lh g;clear g;go_wp2_with fail
   refine(y.o w1 HB.o).mono ?_;rintro e w2⟨rfl,rfl⟩;go_wp2_with fail
   refine(F.o w2 HB.o).mono ?_;exact Zvs
  .rw[Y3 u];have hd:decide (0<=o)=false:=decide_eq_false u;go_enter Tryz.func159,Tryz.ntmps159
   go_wp2_with fail
   refine p.o.mono ?_;rintro e w1⟨rfl,g⟩;have HB:=lh g;clear g;go_wp2_with fail
   refine(y.o w1 HB.o).mono ?_;rintro e w2⟨rfl,rfl⟩;go_wp2_with fail
   refine(I.o w2 HB.o).mono ?_;exact Zvs
theorem Zh7(N:Nat->Int)(o:TreeAt w B a)(hn:a.kids.length<1099511627776)(name:ByteArray) :
 Calls Tryz.prog 158 #[a.ptr,.string name] w λe w'=>e=.returned (.bool ((a.nt N).lets.any λk=>Zg k.text name))∧Below w.heap.size w w':=by
 have HL:=lh (Va w B a o hn);rw[YB];obtain⟨P,hP⟩:=zX (a.kids.filter wH)
 rw[<-hP]at HL ⊢;refine Znz ?_;intro oV;have E:=lh o;obtain⟨R,g⟩:=zX ((P.map (ATree.nt N)).any λk=>Zg k.text name)
 rw[<-g];have O:=lh g;clear o hP g;unfold ATree.ptr at HL ⊢;go_enter Tryz.func158,Tryz.ntmps158
 go_wp2_with fail
 refine HL.o.mono ?_;rintro e w2⟨v2,rfl,m,p⟩;obtain⟨p2,jP,rfl,U,fZ,F⟩:=m.slice;refine Ht ?_;intro q cT ng;rw[<-cT]at U m ⊢;have X:=lh m;have Y:=lh F;have d7:=lh cT;have I:=lh p;have Z:=lh (E.o.bel p);clear m p F cT HL E;go_wp2_with fail
 go_loopw [10] (λi wr=>∃(k:Nat),k<=q∧i=(vI k)∧wr=w2∧Hid (R=((P.drop k).map (ATree.nt N)).any λk=>Zg k.text name)) (λi _=>q-(intOf i).toNat)
 case atStart=>exact⟨0,Yh _,rfl,rfl,O⟩
 case round=>
  obtain⟨k,hk,rfl,rfl,u⟩:=hrel;by_cases bV:k<q
  .obtain⟨x,hx⟩:∃x,P[k]? =some x:=⟨_,Y6 Pr⟩
   obtain⟨g0,hp⟩:=Y.o k x hx;subst hp;have J:=oV.o x (Yd hx);have cx:=X.o.cell rfl hx;have c1:=(Z.o.kid J).c1;have y:=lh (show R=(Zg x.text name||((P.drop (k+1)).map (ATree.nt N)).any λk=>Zg k.text name) by
    obtain⟨hl,he⟩:=List.getElem?_eq_some_iff.1 hx;rw[u.o,List.drop_eq_getElem_cons hl,he,List.map_cons,List.any_cons,Zz])
   clear J hx u;by_cases hs:Zg x.text name=true
   .have g:R=true:=by rw[y.o,hs];rfl
    have hb:(x.text.toList==name.toList)=true:=by rw[RV,hs]
    subst g;go_wp2;go_ret;exact⟨rfl,I.o⟩
   .rw[Bool.not_eq_true]at hs;have hb:(x.text.toList==name.toList)=false:=by rw[RV,hs]
    have xd:=lh (show R=((P.drop (k+1)).map (ATree.nt N)).any λk=>Zg k.text name by rw[y.o,hs];rfl);clear y;go_wp2;go_roundw
    case rel=>exact⟨k+1,by omega,by go_num,trivial,xd⟩
    case measure=>simp[intOf];omega
  .have aR:k=q:=by omega
   subst aR;have g:R=false:=by rw[u.o,List.drop_eq_nil_of_le Pz];rfl
   subst g;go_wp2;go_ret;exact⟨rfl,I.o⟩
end
def o4(C:RCtx)(M:MRep)(w:World)(r:MSt×Except Er LVal)(w':World)(M':MRep)(k n:Int)(t:ByteArray)(ev:Value):Prop:=
 MAt C M' w' r.1∧MFr M M' w w'∧match r.2 with
  | .ok v=>v=⟨k,n,t⟩∧ev=.nilIface
  | .error x=>ak C M' w' x ev
def mc(C:RCtx)(M:MRep)(w:World)(r:MSt×Except Er (Bool×LVal))(w':World)(M':MRep)(b:Bool)(k n:Int)(t:ByteArray)(ev:Value):Prop:=
 MAt C M' w' r.1∧MFr M M' w w'∧match r.2 with
  | .ok v=>v=(b,⟨k,n,t⟩)∧ev=.nilIface
  | .error x=>ak C M' w' x ev
def ag(k n:Int)(t:ByteArray):Value:=.agg #[vI k,vI n,.string t]
def vO(k n:Int)(t:ByteArray):Obj:=.cells #[vI k,vI n,.string t] 55 (0,0)
def pV(C:RCtx)(wE:World)(M:MRep)(w:World)(r:MSt×Except Er LVal)(W:World)(p:Nat)(M':MRep)(k n:Int)(t:ByteArray)(ev:Value):Prop:=
 o4 C M w r W M' k n t ev∧Lo C M' w W p #[vI k,vI n,.string t] 55
def Hx(C:RCtx)(wE:World)(M:MRep)(w:World)(r:MSt×Except Er (Bool×LVal))(W:World)(p:Nat)(M':MRep)(b:Bool)(k n:Int)(t:ByteArray)(ev:Value):Prop:=
 mc C M w r W M' b k n t ev∧Lo C M' w W p #[vI k,vI n,.string t] 55
section
variable {C:RCtx}{M M':MRep}{w w' W wE:World}{s s':MSt}{B:Nat}{a:ATree}{k n:Int}{t:ByteArray}{ev:Value}{b:Bool}
theorem Calls.vres{f:Nat}{args:Array Value}{r:MSt×Except Er LVal}(h:Calls Tryz.prog f args w λe w'=>al C M w r e w') :
 Calls Tryz.prog f args w λe w'=>∃M' k n t ev,e=.returned (.tuple #[ag k n t,ev])∧o4 C M w r w' M' k n t ev:=by
 refine h.mono ?_;rintro e w'⟨M',m,o,g⟩;rcases hr:r.2 with x|v
 .rw[hr]at g;obtain⟨⟨k,n,t⟩,ev,rfl,p⟩:=g;exact⟨M',k,n,t,ev,rfl,m,o,by rw[hr];exact p⟩
 .rw[hr]at g;obtain⟨k,n,t⟩:=v;exact⟨M',k,n,t,.nilIface,g,m,o,by rw[hr];exact⟨rfl,rfl⟩⟩
theorem Calls.dres{f:Nat}{args:Array Value}{r:MSt×Except Er (Bool×LVal)}(h:Calls Tryz.prog f args w λe w'=>iz C M w r e w') :
 Calls Tryz.prog f args w λe w'=>∃M' b k n t ev,e=.returned (.tuple #[.bool b,ag k n t,ev])∧mc C M w r w' M' b k n t ev:=by
 refine h.mono ?_;rintro e w'⟨M',m,o,g⟩;rcases hr:r.2 with x|v
 .rw[hr]at g;obtain⟨b,⟨k,n,t⟩,ev,rfl,p⟩:=g;exact⟨M',b,k,n,t,ev,rfl,m,o,by rw[hr];exact p⟩
 .rw[hr]at g;obtain⟨b,k,n,t⟩:=v;exact⟨M',b,k,n,t,.nilIface,g,m,o,by rw[hr];exact⟨rfl,rfl⟩⟩
theorem ak.bel{x:Er}(h:ak C M w x ev)(g:Below w.heap.size w w'):ak C M w' x ev:=h.fr (.of_below g)
theorem o4.bel{r:MSt×Except Er LVal}(h:o4 C M w r w' M' k n t ev)(hB:Below w'.heap.size w' W):o4 C M w r W M' k n t ev:=by
 exact Ztj
theorem mc.bel{r:MSt×Except Er (Bool×LVal)}(h:mc C M w r w' M' b k n t ev)(hB:Below w'.heap.size w' W):mc C M w r W M' b k n t ev:=by
 exact Ztj
theorem o4.pre{r:MSt×Except Er LVal}(g:Below W.heap.size W w)(h:o4 C M w r w' M' k n t ev):o4 C M W r w' M' k n t ev:=⟨h.1,(MFr.of_below g).trans h.2.1,h.2.2⟩
theorem mc.pre{r:MSt×Except Er (Bool×LVal)}(g:Below W.heap.size W w)(h:mc C M w r w' M' b k n t ev):mc C M W r w' M' b k n t ev:=⟨h.1,(MFr.of_below g).trans h.2.1,h.2.2⟩
theorem o4.boxA{r:MSt×Except Er LVal}(h:o4 C M w r w' M' k n t ev)(g:wE.heap.size<=w.heap.size)(m:C.w0.heap.size<=wE.heap.size) :
 pV C wE M w r (w'.alloc (vO k n t)) w'.heap.size M' k n t ev:=
 ⟨h.bel (Z1 _ _),Lo.new h.1 h.2.1.size (Y4 m g) _ _⟩
theorem mc.boxA{r:MSt×Except Er (Bool×LVal)}(h:mc C M w r w' M' b k n t ev)(g:wE.heap.size<=w.heap.size)(m:C.w0.heap.size<=wE.heap.size) :
 Hx C wE M w r (w'.alloc (vO k n t)) w'.heap.size M' b k n t ev:=
 ⟨h.bel (Z1 _ _),Lo.new h.1 h.2.1.size (Y4 m g) _ _⟩
theorem Zes{w:World}{b i:Nat}{c:Array Value}{T:TypeId}{x:Value}(h:w.heap[b]?=some (.cells c T (0,0))):(w.setCell ⟨b,i,none⟩ x).heap[b]?=some (.cells (c.setIfInBounds i x) T (0,0)):=by
 simp[World.setCell,Array.getElem?_modify,h]
theorem Lo.fill{p:Nat}{x y z x' y' z':Value}{M0:MRep}(h:Lo C M wE w p #[x,y,z] 55)(E:MAt C M w s)(m:MFr M0 M W w)(hp:W.heap.size<=p) :
 MAt C M (((w.setCell ⟨p,0,none⟩ x').setCell ⟨p,1,none⟩ y').setCell ⟨p,2,none⟩ z') s∧MFr M0 M W (((w.setCell ⟨p,0,none⟩ x').setCell ⟨p,1,none⟩ y').setCell ⟨p,2,none⟩ z')∧
  Lo C M wE (((w.setCell ⟨p,0,none⟩ x').setCell ⟨p,1,none⟩ y').setCell ⟨p,2,none⟩ z') p #[x',y',z'] 55∧
  ∀o ev,ak C M w o ev->ak C M (((w.setCell ⟨p,0,none⟩ x').setCell ⟨p,1,none⟩ y').setCell ⟨p,2,none⟩ z') o ev:=by
 have U:MFr M M w w:=.refl M w;obtain⟨X,Y⟩:=zX w
 have Z:Lo C M W w p #[x,y,z] 55∨True:=.inr trivial;obtain⟨F,a3⟩:MAt C M (w.setCell ⟨p,0,none⟩ x') s∧Lo C M wE (w.setCell ⟨p,0,none⟩ x') p #[x',y,z] 55:=by
  exact⟨E.local h.blk Pa Pa h.free (Y4 h.old h.late),⟨Zes h.blk,h.free,h.late,h.old⟩⟩
 obtain⟨b1,b3⟩:MAt C M ((w.setCell ⟨p,0,none⟩ x').setCell ⟨p,1,none⟩ y') s∧Lo C M wE ((w.setCell ⟨p,0,none⟩ x').setCell ⟨p,1,none⟩ y') p #[x',y',z] 55:=by
  exact⟨F.local a3.blk Pa Pa a3.free (Y4 h.old h.late),⟨Zes a3.blk,h.free,h.late,h.old⟩⟩
 obtain⟨c1,c3⟩:MAt C M (((w.setCell ⟨p,0,none⟩ x').setCell ⟨p,1,none⟩ y').setCell ⟨p,2,none⟩ z') s∧Lo C M wE (((w.setCell ⟨p,0,none⟩ x').setCell ⟨p,1,none⟩ y').setCell ⟨p,2,none⟩ z') p #[x',y',z'] 55:=by
  exact⟨b1.local b3.blk Pa Pa b3.free (Y4 h.old h.late),⟨Zes b3.blk,h.free,h.late,h.old⟩⟩
 have hs:(((w.setCell ⟨p,0,none⟩ x').setCell ⟨p,1,none⟩ y').setCell ⟨p,2,none⟩ z').heap.size=w.heap.size:=PF
 have hk:∀q,q≠p->(((w.setCell ⟨p,0,none⟩ x').setCell ⟨p,1,none⟩ y').setCell ⟨p,2,none⟩ z').heap[q]?=w.heap[q]?:=λq hq=>
  (Y8 _ _ _ _ hq).trans ((Y8 _ _ _ _ hq).trans (Y8 _ _ _ _ hq))
 refine⟨c1,⟨m.os,m.tape,m.output,by rw[hs];exact m.size,λq hq hf=>(hk q O').trans (m.block q hq hf),m.free⟩,c3,λo ev he=>?_⟩;cases o with
 |stop=>exact he
 | thr v =>
   obtain⟨g,I,u,J⟩:=he;have O:g≠p:=λe=>by
    rw[e,h.blk]at u;unfold lD at u;simp at u
   exact⟨g,I,(hk g O).trans u,J⟩
theorem o4.boxB{r:MSt×Except Er LVal}{k0 n0:Int}{t0:ByteArray}(h:o4 C M (w.alloc (vO k0 n0 t0)).drew r w' M' k n t ev)(hM:MAt C M w s)(hE:wE.heap.size<=w.heap.size)(hO:C.w0.heap.size<=wE.heap.size) :
 pV C wE M w r (((w'.setCell ⟨w.heap.size,0,none⟩ (vI k)).setCell ⟨w.heap.size,1,none⟩ (vI n)).setCell ⟨w.heap.size,2,none⟩ (.string t)) w.heap.size M' k n t ev:=by
 exact Yu
theorem mc.boxB{r:MSt×Except Er (Bool×LVal)}{k0 n0:Int}{t0:ByteArray}(h:mc C M (w.alloc (vO k0 n0 t0)).drew r w' M' b k n t ev)(hM:MAt C M w s)(hE:wE.heap.size<=w.heap.size)(hO:C.w0.heap.size<=wE.heap.size) :
 Hx C wE M w r (((w'.setCell ⟨w.heap.size,0,none⟩ (vI k)).setCell ⟨w.heap.size,1,none⟩ (vI n)).setCell ⟨w.heap.size,2,none⟩ (.string t)) w.heap.size M' b k n t ev:=by
 exact Yu
end
section
variable {P:Program}{ah:Array Oper}{md:Region.Mode}{Q:Exit->Act->World->Prop}{S:World->Prop}{t:Nat}
theorem Zt{i j:Nat}{g m:Pl3}{b:Bool}{a:Act}{w:World}(h:v7 P md ah Q S t (.go i g) b a w∧v7 P md ah Q S t (.go j m) b a w):v7 P md ah Q S t (.two i g j m) b a w:=h
end
section
variable {C:RCtx}{M M':MRep}{w w' W wE:World}{s s':MSt}{B:Nat}{a:ATree}{k n:Int}{t:ByteArray}{ev:Value}{b:Bool}
theorem o4.lo{r:MSt×Except Er LVal}{k0 n0:Int}{t0:ByteArray}(h:o4 C M (w.alloc (vO k0 n0 t0)).drew r w' M' k n t ev)(hM:MAt C M w s)(hE:wE.heap.size<=w.heap.size)(hO:C.w0.heap.size<=wE.heap.size) :
 Lo C M' wE w' w.heap.size #[vI k0,vI n0,.string t0] 55:=by
 exact VN
theorem mc.lo{r:MSt×Except Er (Bool×LVal)}{k0 n0:Int}{t0:ByteArray}(h:mc C M (w.alloc (vO k0 n0 t0)).drew r w' M' b k n t ev)(hM:MAt C M w s)(hE:wE.heap.size<=w.heap.size)(hO:C.w0.heap.size<=wE.heap.size) :
 Lo C M' wE w' w.heap.size #[vI k0,vI n0,.string t0] 55:=by
 exact VN
theorem Ze(w:World):Below w.heap.size w w.drew:=(Y2 _ _).drew
theorem TreeAt.row(u:TreeAt w B a)(hf:a.free M)(hn:a.kids≠[]):∃m o,vC w a.b 3 (.slice (some ⟨m,0,none⟩) a.kids.length o)∧a.kids.length<=o∧o<=9223372036854775807∧
 (∀(i:Nat) (x:ATree),a.kids[i]?=some x->w.cell? ⟨m,i,none⟩=some (vP x.b))∧m<w.heap.size∧¬M.has m:=by
 have p:=u.rowOf;rcases Z4 p with⟨_,F⟩|⟨m,o,y,I,E,J⟩;·exact absurd (List.length_eq_zero_iff.1 F) hn
 have c3:=u.c3;rw[y]at c3 p;unfold maxLen at E;refine⟨m,o,c3,I,E,λi x hx=>Zn (x:=x.ptr) p (g:=m) rfl Rh,J,hf m ?_⟩;have e:=y;revert e;cases a with
 | mk b v k t n l =>
   intro e;simp only[ATree.v,ATree.kids]at e;subst e;simp[ATree.blocks,Value.ownBlock]
theorem ATree.free.blk(hf:a.free M):¬M.has a.b:=hf a.b (Zx1 a)
def frO(fr:Frm):Obj:=.cells #[.bool fr.strict,vI fr.vars] 63 (0,0)
theorem Ztg(h:MAt C M w s)(fr:Frm):Below w.heap.size w (w.alloc (frO fr))∧Lo C M w (w.alloc (frO fr)) w.heap.size #[.bool fr.strict,vI fr.vars] 63:=
 ⟨Z1 _ _,Lo.new h (Y0 _) h.old.size _ _⟩
theorem Zld(h:MAt C M w s)(fr:Frm):Below w.heap.size w ((w.alloc (frO fr)).alloc (vO 0 0 ⟨#[]⟩))∧Lo C M w ((w.alloc (frO fr)).alloc (vO 0 0 ⟨#[]⟩)) w.heap.size #[.bool fr.strict,vI fr.vars] 63∧
 Lo C M w ((w.alloc (frO fr)).alloc (vO 0 0 ⟨#[]⟩)) (w.heap.size+1) #[vI 0,vI 0,.string ⟨#[]⟩] 55:=by
 obtain⟨h1,h2⟩:=Ztg h fr;have hs:(w.alloc (frO fr)).heap.size=w.heap.size+1:=World.size_alloc _ _;exact Zui
theorem Zpb(h:MAt C M w s)(fr:Frm):Below w.heap.size w (((w.alloc (frO fr)).alloc (vO 0 0 ⟨#[]⟩)).alloc (vO 0 0 ⟨#[]⟩))∧Lo C M w (((w.alloc (frO fr)).alloc (vO 0 0 ⟨#[]⟩)).alloc (vO 0 0 ⟨#[]⟩)) w.heap.size #[.bool fr.strict,vI fr.vars] 63∧
 Lo C M w (((w.alloc (frO fr)).alloc (vO 0 0 ⟨#[]⟩)).alloc (vO 0 0 ⟨#[]⟩)) (w.heap.size+1) #[vI 0,vI 0,.string ⟨#[]⟩] 55∧
 Lo C M w (((w.alloc (frO fr)).alloc (vO 0 0 ⟨#[]⟩)).alloc (vO 0 0 ⟨#[]⟩)) (w.heap.size+1+1) #[vI 0,vI 0,.string ⟨#[]⟩] 55:=by
 obtain⟨g,o,p⟩:=Zld h fr;have hs:((w.alloc (frO fr)).alloc (vO 0 0 ⟨#[]⟩)).heap.size=w.heap.size+1+1:=Pg
 have m:=Lo.new (wE:=w) (h.below g) O' h.old.size #[vI 0,vI 0,.string ⟨#[]⟩] 55;rw[hs]at m;exact⟨g.trans ((Z1 _ _).mono g.size),o.bel (Z1 _ _),p.bel (Z1 _ _),m⟩
theorem al.err{W g:World}{M1:MRep}{s1:MSt}{rb:Nat}{x0 m z0:Value}{x:Er}(hL:Lo C M w g rb #[x0,m,z0] 55)(hz:Below w.heap.size w g)(hM:MAt C M1 W s1)(hF:MFr M M1 g W)(he:ak C M1 W x ev) :
 al C M w (s1,.error x) (.returned (.tuple #[.agg #[vI k,vI n,.string t],ev])) (((W.setCell ⟨rb,0,none⟩ (vI k)).setCell ⟨rb,1,none⟩ (vI n)).setCell ⟨rb,2,none⟩ (.string t)):=by
 refine Zsg ?_;intro g1 g2 g3;exact⟨M1,g1,g2,⟨k,n,t⟩,ev,rfl,g3 _ _ he⟩
theorem al.fine{W g:World}{M1:MRep}{s1:MSt}{rb:Nat}{x0 m z0:Value}(hL:Lo C M w g rb #[x0,m,z0] 55)(hz:Below w.heap.size w g)(hM:MAt C M1 W s1)(hF:MFr M M1 g W) :
 al C M w (s1,.ok ⟨k,n,t⟩) (.returned (.tuple #[.agg #[vI k,vI n,.string t],.nilIface])) (((W.setCell ⟨rb,0,none⟩ (vI k)).setCell ⟨rb,1,none⟩ (vI n)).setCell ⟨rb,2,none⟩ (.string t)):=by
 exact Zwg
theorem iz.err{W g:World}{M1:MRep}{s1:MSt}{rb:Nat}{x0 m z0:Value}{x:Er}(hL:Lo C M w g rb #[x0,m,z0] 55)(hz:Below w.heap.size w g)(hM:MAt C M1 W s1)(hF:MFr M M1 g W)(he:ak C M1 W x ev) :
 iz C M w (s1,.error x) (.returned (.tuple #[.bool b,.agg #[vI k,vI n,.string t],ev])) (((W.setCell ⟨rb,0,none⟩ (vI k)).setCell ⟨rb,1,none⟩ (vI n)).setCell ⟨rb,2,none⟩ (.string t)):=by
 refine Zsg ?_;intro g1 g2 g3;exact⟨M1,g1,g2,b,⟨k,n,t⟩,ev,rfl,g3 _ _ he⟩
theorem iz.fine{W g:World}{M1:MRep}{s1:MSt}{rb:Nat}{x0 m z0:Value}(hL:Lo C M w g rb #[x0,m,z0] 55)(hz:Below w.heap.size w g)(hM:MAt C M1 W s1)(hF:MFr M M1 g W) :
 iz C M w (s1,.ok (b,⟨k,n,t⟩)) (.returned (.tuple #[.bool b,.agg #[vI k,vI n,.string t],.nilIface])) (((W.setCell ⟨rb,0,none⟩ (vI k)).setCell ⟨rb,1,none⟩ (vI n)).setCell ⟨rb,2,none⟩ (.string t)):=by
 exact Zwg
end
theorem L4{A B:Prop}{H R:World->Nat->MRep->Int->Int->ByteArray->Value->Prop}(m:Hid (∀W p M k n t ev,H W p M k n t ev->R W p M k n t ev)->A)(o:Hid (∀W p M k n t ev,H W p M k n t ev->R W p M k n t ev)->B)
 (g:∀W p M k n t ev,H W p M k n t ev->R W p M k n t ev):A∧B:=⟨m (lh g),o (lh g)⟩
theorem WG{A B:Prop}{H R:World->Nat->MRep->Bool->Int->Int->ByteArray->Value->Prop}(m:Hid (∀W p M b k n t ev,H W p M b k n t ev->R W p M b k n t ev)->A)(o:Hid (∀W p M b k n t ev,H W p M b k n t ev->R W p M b k n t ev)->B)
 (g:∀W p M b k n t ev,H W p M b k n t ev->R W p M b k n t ev):A∧B:=⟨m (lh g),o (lh g)⟩
def xH(C:RCtx)(V:VF)(b:Int):Prop:=∀(w:World) (M:MRep) (s:MSt) (a:ATree) (B:Nat) (sc:Int) (fr:Frm) (d:Nat),MAt C M w s->Inv s d->FAt s sc fr->b<=s.steps->s.steps<=20000->
 (a.nt C.N).wf .v->(a.nt C.N).tree.many<=1500->TreeAt w B a->a.free M->
 Calls Tryz.prog 77 #[vP C.mb,a.ptr,vI sc,.agg #[.bool fr.strict,vI fr.vars]] w λe w'=>al C M w (V (a.nt C.N) sc fr s) e w'
def Dl(C:RCtx)(D:DF)(b:Int):Prop:=∀(w:World) (M:MRep) (s:MSt) (a:ATree) (B:Nat) (sc:Int) (fr:Frm) (d:Nat),MAt C M w s->Inv s d->FAt s sc fr->b<=s.steps->s.steps<=20000->
 (a.nt C.N).wf .s->(a.nt C.N).tree.many<=1500->TreeAt w B a->a.free M->
 Calls Tryz.prog 45 #[vP C.mb,a.ptr,vI sc,.agg #[.bool fr.strict,vI fr.vars]] w λe w'=>iz C M w (D (a.nt C.N) sc fr s) e w'
theorem lM{G' G:Prop}(h:G')(i:Hid G'->G:=by
 intro HQ_
 repeat
  first
   |(refine X4 ?_ Po Po (λw'=>?_) ?_;rotate_left;(go_simp;first|done|with_reducible rfl);simp only[Act.put,zA,zB,zC])
   |(refine Z7g ?_ Po Pb Po (λw' lS=>?_) ?_;rotate_left;((repeat(have GU:=lS.1;replace lS:=lS.2));go_simp;first|done|with_reducible rfl);simp only[Act.put,zA,zB,zC])
 exact HQ_.o):G:=i (lh h)
theorem ep{G' G:Prop}(h:G')(i:Hid G'->G:=by
 intro HQ_;try simp only[Sr,List.filterMap_cons,List.filterMap_nil,List.getElem?_toArray,List.getElem?_cons_zero,List.getElem?_cons_succ,Option.map_some]
 repeat
  first
   |(refine Z9s ?_ Po (λw' lS=>?_) ?_;rotate_left;((repeat(have GU:=lS.1;replace lS:=lS.2));go_simp;first|done|with_reducible rfl);simp only[Act.put,zA,zB,zC])
   |(refine Zf3 Po ?_;simp only[Act.put,zA,zB,zC])
 exact HQ_.o):G:=i (lh h)
theorem mH{H X:(Act->World->Prop)->Prop}{G:Prop}(h:∀K,H K->X K)(i:Hid (∀K,H K->X K)->G:=by
 intro HQ_;refine Zmr Po Po Po (λK hK=>?_);simp only[List.getElem_toArray,List.getElem_cons_succ,List.getElem_cons_zero];unfold Oper.wp execOp;go_simp;exact HQ_.o K hK):G:=i (lh h)
theorem AR{H X:(Act->World->Prop)->Prop}{G:Prop}(h:∀K,H K->X K)(i:Hid (∀K,H K->X K)->G:=by
 intro HQ_;refine Zik Po Po Po (λK hK=>?_);simp only[List.getElem_toArray,List.getElem_cons_succ,List.getElem_cons_zero];unfold Oper.wp execOp;go_simp;exact HQ_.o K hK):G:=i (lh h)
theorem RD{a b c d G:Prop}(hs:Hid a)(hc:Hid b)(he:c)(ho:d)(i:Hid a->Hid b->c->d->G:=by
 intro HS HC HE HO ci;refine mH (λK hK=>?_);refine(HC.o _ (Ze _)).mono ?_;rintro e w1⟨M1,k,n,t,ev,rfl,hr⟩;have bA:=hr.pre (Ze _);refine hK _ _ (HS.o _ _ bA.2.1) ?_;have gA:=lh bA;clear bA hr hK K;simp only[ag];try simp only[Act.put,zA,zB,zC]
 refine lM ?_;repeat(refine mH (λK hK=>?_);refine hK _ _ (HS.o _ _ (gA.o.2.1.trans (.of_below (Z1 _ _)))) ?_;clear hK K;try simp only[Act.put,zA,zB,zC])
 repeat(refine AR (λK hK=>?_);refine hK _ _ ?_;clear hK K)
 refine D2 ?_;have hv:=gA.o.boxA HE HO;unfold vO at hv;generalize w1.alloc (.cells #[vI k,vI n,.string t] 55)=Wg at hv ⊢;generalize w1.heap.size=p2 at hv ⊢;exact ci.o Wg p2 M1 k n t ev hv):G:=i hs hc he ho
theorem Hu{a b c d m G:Prop}(hs:Hid a)(hc:Hid b)(hm:Hid m)(he:c)(ho:d)(i:Hid a->Hid b->Hid m->c->d->G:=by
 intro HS HC HM HE HO ci;refine Uh ?_;intro w1 M1 k n t ev q0 q1 q2 y0 y1 y2 cJ fK;repeat(refine mH (λK hK=>?_);refine hK _ _ cJ.o ?_;clear hK K;try simp only[Act.put,zA,zB,zC])
 repeat(refine AR (λK hK=>?_);refine hK _ _ ?_;clear hK K)
 refine D2 ?_;clear q0 q1 q2 y0 y1 y2;have hv:=fK.o;clear fK;generalize((w1.setCell ⟨z.heap.size,0,none⟩ (vI k)).setCell ⟨z.heap.size,1,none⟩ (vI n)).setCell ⟨z.heap.size,2,none⟩ (.string t)=Wg at hv ⊢;generalize z.heap.size=p2 at hv ⊢;exact ci.o Wg p2 M1 k n t ev hv):G:=i hs hc hm he ho
theorem Zwl{a b c d m G:Prop}(hs:Hid a)(hc:Hid b)(hm:Hid m)(he:c)(ho:d)(i:Hid a->Hid b->Hid m->c->d->G:=by
 intro HS HC HM HE HO ci;refine Uh ?_;intro w1 M1 k n t ev q0 q1 q2 y0 y1 y2 cJ fK;repeat(refine mH (λK hK=>?_);refine hK _ _ cJ.o ?_;clear hK K;try simp only[Act.put,zA,zB,zC])
 repeat(refine AR (λK hK=>?_);refine hK _ _ ?_;clear hK K)
 refine D2 ?_;clear q0 q1 q2 y0 y1 y2;have hv:=fK.o;clear fK;generalize((w1.setCell ⟨W0.heap.size,0,none⟩ (vI k)).setCell ⟨W0.heap.size,1,none⟩ (vI n)).setCell ⟨W0.heap.size,2,none⟩ (.string t)=Wg at hv ⊢;generalize W0.heap.size=p2 at hv ⊢;exact ci.o Wg p2 M1 k n t ev hv):G:=i hs hc hm he ho
theorem Zuf{a b c d m G:Prop}(hs:Hid a)(hc:Hid b)(hm:Hid m)(he:c)(ho:d)(i:Hid a->Hid b->Hid m->c->d->G:=by
 intro HS HC HM HE HO ci;refine Uh ?_;intro w1 M1 k n t ev q0 q1 q2 y0 y1 y2 cJ fK;repeat(refine mH (λK hK=>?_);refine hK _ _ cJ.o ?_;clear hK K;try simp only[Act.put,zA,zB,zC])
 repeat(refine AR (λK hK=>?_);refine hK _ _ ?_;clear hK K)
 refine D2 ?_;clear q0 q1 q2 y0 y1 y2;have hv:=fK.o;clear fK;generalize((w1.setCell ⟨W1.heap.size,0,none⟩ (vI k)).setCell ⟨W1.heap.size,1,none⟩ (vI n)).setCell ⟨W1.heap.size,2,none⟩ (.string t)=Wg at hv ⊢;generalize W1.heap.size=p2 at hv ⊢;exact ci.o Wg p2 M1 k n t ev hv):G:=i hs hc hm he ho
theorem Zto{a b c d m G:Prop}(hs:Hid a)(hc:Hid b)(hm:Hid m)(he:c)(ho:d)(i:Hid a->Hid b->Hid m->c->d->G:=by
 intro HS HC HM HE HO ci;refine Uh ?_;intro w1 M1 k n t ev q0 q1 q2 y0 y1 y2 cJ fK;repeat(refine mH (λK hK=>?_);refine hK _ _ cJ.o ?_;clear hK K;try simp only[Act.put,zA,zB,zC])
 repeat(refine AR (λK hK=>?_);refine hK _ _ ?_;clear hK K)
 refine D2 ?_;clear q0 q1 q2 y0 y1 y2;have hv:=fK.o;clear fK;generalize((w1.setCell ⟨wr.heap.size,0,none⟩ (vI k)).setCell ⟨wr.heap.size,1,none⟩ (vI n)).setCell ⟨wr.heap.size,2,none⟩ (.string t)=Wg at hv ⊢;generalize wr.heap.size=p2 at hv ⊢;exact ci.o Wg p2 M1 k n t ev hv):G:=i hs hc hm he ho
theorem ZZ{a b c d G:Prop}(hs:Hid a)(hc:Hid b)(he:c)(ho:d)(i:Hid a->Hid b->c->d->G:=by
 intro HS HC HE HO ci;refine mH (λK hK=>?_);refine(HC.o _ (Ze _)).mono ?_;rintro e w1⟨M1,b,k,n,t,ev,rfl,hr⟩;have bA:=hr.pre (Ze _);refine hK _ _ (HS.o _ _ bA.2.1) ?_;have gA:=lh bA;clear bA hr hK K;simp only[ag];try simp only[Act.put,zA,zB,zC]
 refine lM ?_;repeat(refine mH (λK hK=>?_);refine hK _ _ (HS.o _ _ (gA.o.2.1.trans (.of_below (Z1 _ _)))) ?_;clear hK K;try simp only[Act.put,zA,zB,zC])
 repeat(refine AR (λK hK=>?_);refine hK _ _ ?_;clear hK K)
 refine D2 ?_;have hv:=gA.o.boxA HE HO;unfold vO at hv;generalize w1.alloc (.cells #[vI k,vI n,.string t] 55)=Wg at hv ⊢;generalize w1.heap.size=p2 at hv ⊢;exact ci.o Wg p2 M1 b k n t ev hv):G:=i hs hc he ho
theorem Aat{a b c d m G:Prop}(hs:Hid a)(hc:Hid b)(hm:Hid m)(he:c)(ho:d)(i:Hid a->Hid b->Hid m->c->d->G:=by
 intro HS HC HM HE HO ci;refine TB ?_;intro w1 M1 b k n t ev q0 q1 q2 y0 y1 y2 cJ fK;repeat(refine mH (λK hK=>?_);refine hK _ _ cJ.o ?_;clear hK K;try simp only[Act.put,zA,zB,zC])
 repeat(refine AR (λK hK=>?_);refine hK _ _ ?_;clear hK K)
 refine D2 ?_;clear q0 q1 q2 y0 y1 y2;have hv:=fK.o;clear fK;generalize((w1.setCell ⟨z.heap.size,0,none⟩ (vI k)).setCell ⟨z.heap.size,1,none⟩ (vI n)).setCell ⟨z.heap.size,2,none⟩ (.string t)=Wg at hv ⊢;generalize z.heap.size=p2 at hv ⊢;exact ci.o Wg p2 M1 b k n t ev hv):G:=i hs hc hm he ho
theorem Zx0{a b c d m G:Prop}(hs:Hid a)(hc:Hid b)(hm:Hid m)(he:c)(ho:d)(i:Hid a->Hid b->Hid m->c->d->G:=by
 intro HS HC HM HE HO ci;refine TB ?_;intro w1 M1 b k n t ev q0 q1 q2 y0 y1 y2 cJ fK;repeat(refine mH (λK hK=>?_);refine hK _ _ cJ.o ?_;clear hK K;try simp only[Act.put,zA,zB,zC])
 repeat(refine AR (λK hK=>?_);refine hK _ _ ?_;clear hK K)
 refine D2 ?_;clear q0 q1 q2 y0 y1 y2;have hv:=fK.o;clear fK;generalize((w1.setCell ⟨W2.heap.size,0,none⟩ (vI k)).setCell ⟨W2.heap.size,1,none⟩ (vI n)).setCell ⟨W2.heap.size,2,none⟩ (.string t)=Wg at hv ⊢;generalize W2.heap.size=p2 at hv ⊢;exact ci.o Wg p2 M1 b k n t ev hv):G:=i hs hc hm he ho
theorem Zw7{a b c d m G:Prop}(hs:Hid a)(hc:Hid b)(hm:Hid m)(he:c)(ho:d)(i:Hid a->Hid b->Hid m->c->d->G:=by
 intro HS HC HM HE HO ci;refine TB ?_;intro w1 M1 b k n t ev q0 q1 q2 y0 y1 y2 cJ fK;repeat(refine mH (λK hK=>?_);refine hK _ _ cJ.o ?_;clear hK K;try simp only[Act.put,zA,zB,zC])
 repeat(refine AR (λK hK=>?_);refine hK _ _ ?_;clear hK K)
 refine D2 ?_;clear q0 q1 q2 y0 y1 y2;have hv:=fK.o;clear fK;generalize((w1.setCell ⟨z1.heap.size,0,none⟩ (vI k)).setCell ⟨z1.heap.size,1,none⟩ (vI n)).setCell ⟨z1.heap.size,2,none⟩ (.string t)=Wg at hv ⊢;generalize z1.heap.size=p2 at hv ⊢;exact ci.o Wg p2 M1 b k n t ev hv):G:=i hs hc hm he ho
theorem Aax{a b c d m G:Prop}(hs:Hid a)(hc:Hid b)(hm:Hid m)(he:c)(ho:d)(i:Hid a->Hid b->Hid m->c->d->G:=by
 intro HS HC HM HE HO ci;refine TB ?_;intro w1 M1 b k n t ev q0 q1 q2 y0 y1 y2 cJ fK;repeat(refine mH (λK hK=>?_);refine hK _ _ cJ.o ?_;clear hK K;try simp only[Act.put,zA,zB,zC])
 repeat(refine AR (λK hK=>?_);refine hK _ _ ?_;clear hK K)
 refine D2 ?_;clear q0 q1 q2 y0 y1 y2;have hv:=fK.o;clear fK;generalize((w1.setCell ⟨W.heap.size,0,none⟩ (vI k)).setCell ⟨W.heap.size,1,none⟩ (vI n)).setCell ⟨W.heap.size,2,none⟩ (.string t)=Wg at hv ⊢;generalize W.heap.size=p2 at hv ⊢;exact ci.o Wg p2 M1 b k n t ev hv):G:=i hs hc hm he ho
def words(x:LVal):List Value:=[vI x.kind,vI x.n,.string x.s]
section
variable {C:RCtx}{M M' M0:MRep}{w w' w1 w2 wE W:World}{s s':MSt}{B:Nat}{a:ATree}
theorem MAt.grown(h:MAt C M w s){row:Option Nat}(m:w.grownBy w' row)(hr:∀b,row=some b->(∃c T f,w.heap[b]?=some (.cells c T f)∧T≠42∧T≠22)∧¬M.has b∧C.w0.heap.size<=b):MAt C M w' s:=by
 have hk:∀k,M.has k->w'.heap[k]?=w.heap[k]?:=λk E=>m.block k (h.lt E) λe=>(hr k e.symm).2.1 E;exact
 { heap := h.heap.keep m.size fun k hr => hk k (.inl hr)
   cell:=λo x hx=>(Yb (hk _ h.mbHas)).trans (h.cell o x hx)
   rcell:=λi hi=>(Yb (hk _ h.mbHas)).trans (h.rcell i hi)
   fz:=λo=>(Yn (hk _ h.mbHas)).trans (h.fz o)
   rows:=λi hi=>Z2 (h.rows i hi) λg y=>hk g (.inr ⟨i,hi,y⟩)
   rfree:=λi hi g y=>⟨(h.rfree i hi g y).1,Y7 (h.rfree i hi g y).2 m.size⟩
   rdist:=h.rdist
   clos:=h.clos
   trees:=λx hx=>⟨(h.trees x hx).1.keepB λk p=>m.block k ((h.trees x hx).1.has k p).2 λe=>by
    obtain⟨⟨c,T,f,I,J,O⟩,-,-⟩:=hr k e.symm;obtain⟨c',T',U,F,u⟩:=(h.trees x hx).1.typed k p;rw[I]at F;cases F;rcases u with u|u;·exact J u
    .exact O u,(h.trees x hx).2⟩
   old:=⟨m.os.trans h.old.os,m.tape.trans h.old.tape,m.output.trans h.old.output,Y4 h.old.size m.size,λk p=>(m.block k (Y7 p h.old.size) λe=>absurd (hr k e.symm).2.2 O').trans (h.old.block k p)⟩
   far:=h.far}
structure VRow(C:RCtx)(M:MRep)(wE w:World)(v:Value)(vs:List LVal):Prop where
 row:w.ownsRow wE.heap.size 55 3 v vs.length (vs.flatMap words)
 free:∀g,v.ownBlock=some g->¬M.has g
 old:C.w0.heap.size<=wE.heap.size
theorem VRow.fr{v:Value}{vs:List LVal}(h:VRow C M wE w v vs)(f:MFr M M' w w'):VRow C M' wE w' v vs:=
 ⟨Z2 h.row λg m=>f.block g (Y9 h.row g m).2 (h.free g m),λg m=>f.free g (Y9 h.row g m).2 (h.free g m),h.old⟩
theorem VRow.late{v:Value}{vs:List LVal}(h:VRow C M wE w v vs):∀g,v.ownBlock=some g->wE.heap.size<=g:=λg m=>(Y9 h.row g m).1
theorem VRow.nil(m:C.w0.heap.size<=wE.heap.size):VRow C M wE w (.slice none 0 0) []:=
 ⟨⟨rfl,.inl ⟨rfl,rfl⟩⟩,λg o=>(by cases o),m⟩
theorem VRow.push{v:Value}{vs:List LVal}{x:LVal}{g cap:Nat}(h:VRow C M wE w v vs)(y:MAt C M w s)(E:MFr M0 M wE w)(p:Below w.heap.size w w1)(m:w1.grownBy w2 v.ownBlock)
 (F:w2.ownsRow wE.heap.size 55 3 (.slice (some ⟨g,0,none⟩) (vs.length+1) cap) (vs.length+1) (vs.flatMap words++words x))(u:v.ownBlock=some g∨w.heap.size<=g) :
 MAt C M w2 s∧MFr M0 M wE w2∧VRow C M wE w2 (.slice (some ⟨g,0,none⟩) (vs.length+1) cap) (vs++[x])∧(∀b c T,Lo C M wE w b c T->v.ownBlock≠some b->Lo C M wE w2 b c T):=by
 have G:=h.fr (MFr.of_below p);have I:=y.below p;have o:=E.trans (MFr.of_below (M:=M) p);have hr:∀b,v.ownBlock=some b->(∃c T f,w1.heap[b]?=some (.cells c T f)∧T≠42∧T≠22)∧¬M.has b∧C.w0.heap.size<=b:=λb hb=>by
  refine⟨?_,h.free b hb,Y4 h.old (h.late b hb)⟩;rcases G.row.2 with⟨rfl,_⟩|⟨Y,Z,iQ,rfl,_,J,_⟩;·cases hb
  .cases hb;exact⟨_,_,_,J,by decide,by decide⟩
 have O:=I.grown m hr;refine⟨O,⟨m.os.trans o.os,m.tape.trans o.tape,m.output.trans o.output,Y4 o.size m.size,λk hk U=>(m.block k (Y7 hk o.size) λe=>by have:=h.late k e.symm;omega).trans (o.block k hk U),o.free⟩,⟨by simpa using F,λb hb=>?_,h.old⟩,λb c T hl X=>⟨(m.block b (Y7 hl.lt p.size) λe=>X e.symm).trans ((p.block b hl.lt).trans hl.blk),hl.free,hl.late,hl.old⟩⟩;cases hb;rcases u with u|u;·exact h.free g u
 .exact y.fresh u
theorem Z93:∀(vs:List LVal) {i:Nat} {x:LVal},vs[i]?=some x->∀j,j<3->(vs.flatMap words)[3*i+j]?=(words x)[j]?
 | [],_,_,hx,_,_=>by cases hx
 | y :: l, 0, x, hx, j, g => by
   cases hx;rw[List.flatMap_cons,List.getElem?_append_left (by simp[words];omega)];simp
 | y :: l, i + 1, x, hx, j, g => by
   rw[List.flatMap_cons,List.getElem?_append_right (by simp[words];omega),show 3*(i+1)+j-(words y).length=3*i+j by simp[words];omega];exact Z93 l hx j g
theorem VRow.cells{v:Value}{vs:List LVal}(h:VRow C M wE w v vs):(v=.slice none 0 0∧vs=[])∨∃g cap,v=.slice (some ⟨g,0,none⟩) vs.length cap∧vs.length<=cap∧cap<=maxLen∧g<w.heap.size∧
 ∀(i:Nat) (x:LVal),vs[i]?=some x->w.cell? ⟨g,3*i,none⟩=some (vI x.kind)∧w.cell? ⟨g,3*i+1,none⟩=some (vI x.n)∧w.cell? ⟨g,3*i+2,none⟩=some (.string x.s):=by
 have m:=h.row;rcases h.row.2 with⟨rfl,o⟩|⟨g,cap,I,rfl,_,p,u,y,_⟩;·exact .inl ⟨rfl,List.eq_nil_of_length_eq_zero o⟩
 .refine .inr ⟨g,cap,rfl,u,y,(Y1.1 p).1,λi x hx=>?_⟩;have hi:=(List.getElem?_eq_some_iff.1 hx).1;have o:=(m.cellAt (3*i) O').trans (Z93 vs hx 0 O');have E:=(m.cellAt (3*i+1) O').trans (Z93 vs hx 1 O');have F:=(m.cellAt (3*i+2) O').trans (Z93 vs hx 2 O');exact⟨o,E,F⟩
end
def Cb:List Nat->Code->Code
 | [],c=>c
 |i::p,.seq a b=>Cb p (if i=0 then a else b)
 |i::p,.cond _ a b=>Cb p (if i=0 then a else b)
 |_::p,.block _ c=>Cb p c
 |_::p,.loop c=>Cb p c
 |_::p,.scope c=>Cb p c
 |_::_,_=>.skip
def WS(x:Nat->Value):List (Nat×Value)->Prop
 | []=>True
 |(i,v)::l=>x i=v∧WS x l
structure FrA(n:Nat)(T:List (Nat×Value))(D:List Deferred)(a:Act):Prop where
 size:a.tmps.size=n
 val:WS (λi=>a.tmps.getD i undef) T
 defs:a.defers=D
theorem Wv{T:List (Nat×Value)}{D:List Deferred}{a:Act}(h:FrA 193 T D a):∃x:Nat->Value,a=⟨#[x 0,x 1,x 2,x 3,x 4,x 5,x 6,x 7,x 8,x 9,x 10,x 11,x 12,x 13,x 14,x 15,x 16,x 17,x 18,x 19,x 20,x 21,x 22,x 23,x 24,x 25,x 26,x 27,x 28,x 29,x 30,x 31,x 32,x 33,x 34,x 35,x 36,x 37,x 38,x 39,x 40,x 41,x 42,x 43,x 44,x 45,x 46,x 47,x 48,x 49,x 50,x 51,x 52,x 53,x 54,x 55,x 56,x 57,x 58,x 59,x 60,x 61,x 62,x 63,x 64,x 65,x 66,x 67,x 68,x 69,x 70,x 71,x 72,x 73,x 74,x 75,x 76,x 77,x 78,x 79,x 80,x 81,x 82,x 83,x 84,x 85,x 86,x 87,x 88,x 89,x 90,x 91,x 92,x 93,x 94,x 95,x 96,x 97,x 98,x 99,x 100,x 101,x 102,x 103,x 104,x 105,x 106,x 107,x 108,x 109,x 110,x 111,x 112,x 113,x 114,x 115,x 116,x 117,x 118,x 119,x 120,x 121,x 122,x 123,x 124,x 125,x 126,x 127,x 128,x 129,x 130,x 131,x 132,x 133,x 134,x 135,x 136,x 137,x 138,x 139,x 140,x 141,x 142,x 143,x 144,x 145,x 146,x 147,x 148,x 149,x 150,x 151,x 152,x 153,x 154,x 155,x 156,x 157,x 158,x 159,x 160,x 161,x 162,x 163,x 164,x 165,x 166,x 167,x 168,x 169,x 170,x 171,x 172,x 173,x 174,x 175,x 176,x 177,x 178,x 179,x 180,x 181,x 182,x 183,x 184,x 185,x 186,x 187,x 188,x 189,x 190,x 191,x 192],D⟩∧WS x T:=by
 obtain⟨t,dd⟩:=a;obtain⟨g,m,h3⟩:=h;refine⟨λi=>t.getD i undef,?_,m⟩;have e:t=((List.range 193).map λi=>t.getD i undef).toArray:=by
  have g:t.size=193:=g;apply Array.ext;·simp[g]
  .intro i o p;simp at p;simp[o]
 exact Tx
theorem Wo{T:List (Nat×Value)}{D:List Deferred}{a:Act}(h:FrA 201 T D a):∃x:Nat->Value,a=⟨#[x 0,x 1,x 2,x 3,x 4,x 5,x 6,x 7,x 8,x 9,x 10,x 11,x 12,x 13,x 14,x 15,x 16,x 17,x 18,x 19,x 20,x 21,x 22,x 23,x 24,x 25,x 26,x 27,x 28,x 29,x 30,x 31,x 32,x 33,x 34,x 35,x 36,x 37,x 38,x 39,x 40,x 41,x 42,x 43,x 44,x 45,x 46,x 47,x 48,x 49,x 50,x 51,x 52,x 53,x 54,x 55,x 56,x 57,x 58,x 59,x 60,x 61,x 62,x 63,x 64,x 65,x 66,x 67,x 68,x 69,x 70,x 71,x 72,x 73,x 74,x 75,x 76,x 77,x 78,x 79,x 80,x 81,x 82,x 83,x 84,x 85,x 86,x 87,x 88,x 89,x 90,x 91,x 92,x 93,x 94,x 95,x 96,x 97,x 98,x 99,x 100,x 101,x 102,x 103,x 104,x 105,x 106,x 107,x 108,x 109,x 110,x 111,x 112,x 113,x 114,x 115,x 116,x 117,x 118,x 119,x 120,x 121,x 122,x 123,x 124,x 125,x 126,x 127,x 128,x 129,x 130,x 131,x 132,x 133,x 134,x 135,x 136,x 137,x 138,x 139,x 140,x 141,x 142,x 143,x 144,x 145,x 146,x 147,x 148,x 149,x 150,x 151,x 152,x 153,x 154,x 155,x 156,x 157,x 158,x 159,x 160,x 161,x 162,x 163,x 164,x 165,x 166,x 167,x 168,x 169,x 170,x 171,x 172,x 173,x 174,x 175,x 176,x 177,x 178,x 179,x 180,x 181,x 182,x 183,x 184,x 185,x 186,x 187,x 188,x 189,x 190,x 191,x 192,x 193,x 194,x 195,x 196,x 197,x 198,x 199,x 200],D⟩∧WS x T:=by
 obtain⟨t,dd⟩:=a;obtain⟨g,m,h3⟩:=h;refine⟨λi=>t.getD i undef,?_,m⟩;have e:t=((List.range 201).map λi=>t.getD i undef).toArray:=by
  have g:t.size=201:=g;apply Array.ext;·simp[g]
  .intro i o p;simp at p;simp[o]
 exact Tx
theorem YA{T:List (Nat×Value)}{D:List Deferred}{a:Act}(h:FrA 214 T D a):∃x:Nat->Value,a=⟨#[x 0,x 1,x 2,x 3,x 4,x 5,x 6,x 7,x 8,x 9,x 10,x 11,x 12,x 13,x 14,x 15,x 16,x 17,x 18,x 19,x 20,x 21,x 22,x 23,x 24,x 25,x 26,x 27,x 28,x 29,x 30,x 31,x 32,x 33,x 34,x 35,x 36,x 37,x 38,x 39,x 40,x 41,x 42,x 43,x 44,x 45,x 46,x 47,x 48,x 49,x 50,x 51,x 52,x 53,x 54,x 55,x 56,x 57,x 58,x 59,x 60,x 61,x 62,x 63,x 64,x 65,x 66,x 67,x 68,x 69,x 70,x 71,x 72,x 73,x 74,x 75,x 76,x 77,x 78,x 79,x 80,x 81,x 82,x 83,x 84,x 85,x 86,x 87,x 88,x 89,x 90,x 91,x 92,x 93,x 94,x 95,x 96,x 97,x 98,x 99,x 100,x 101,x 102,x 103,x 104,x 105,x 106,x 107,x 108,x 109,x 110,x 111,x 112,x 113,x 114,x 115,x 116,x 117,x 118,x 119,x 120,x 121,x 122,x 123,x 124,x 125,x 126,x 127,x 128,x 129,x 130,x 131,x 132,x 133,x 134,x 135,x 136,x 137,x 138,x 139,x 140,x 141,x 142,x 143,x 144,x 145,x 146,x 147,x 148,x 149,x 150,x 151,x 152,x 153,x 154,x 155,x 156,x 157,x 158,x 159,x 160,x 161,x 162,x 163,x 164,x 165,x 166,x 167,x 168,x 169,x 170,x 171,x 172,x 173,x 174,x 175,x 176,x 177,x 178,x 179,x 180,x 181,x 182,x 183,x 184,x 185,x 186,x 187,x 188,x 189,x 190,x 191,x 192,x 193,x 194,x 195,x 196,x 197,x 198,x 199,x 200,x 201,x 202,x 203,x 204,x 205,x 206,x 207,x 208,x 209,x 210,x 211,x 212,x 213],D⟩∧WS x T:=by
 obtain⟨t,dd⟩:=a;obtain⟨g,m,h3⟩:=h;refine⟨λi=>t.getD i undef,?_,m⟩;have e:t=((List.range 214).map λi=>t.getD i undef).toArray:=by
  have g:t.size=214:=g;apply Array.ext;·simp[g]
  .intro i o p;simp at p;simp[o]
 exact Tx
theorem Tt{T:List (Nat×Value)}{D:List Deferred}{a:Act}(h:FrA 240 T D a):∃x:Nat->Value,a=⟨#[x 0,x 1,x 2,x 3,x 4,x 5,x 6,x 7,x 8,x 9,x 10,x 11,x 12,x 13,x 14,x 15,x 16,x 17,x 18,x 19,x 20,x 21,x 22,x 23,x 24,x 25,x 26,x 27,x 28,x 29,x 30,x 31,x 32,x 33,x 34,x 35,x 36,x 37,x 38,x 39,x 40,x 41,x 42,x 43,x 44,x 45,x 46,x 47,x 48,x 49,x 50,x 51,x 52,x 53,x 54,x 55,x 56,x 57,x 58,x 59,x 60,x 61,x 62,x 63,x 64,x 65,x 66,x 67,x 68,x 69,x 70,x 71,x 72,x 73,x 74,x 75,x 76,x 77,x 78,x 79,x 80,x 81,x 82,x 83,x 84,x 85,x 86,x 87,x 88,x 89,x 90,x 91,x 92,x 93,x 94,x 95,x 96,x 97,x 98,x 99,x 100,x 101,x 102,x 103,x 104,x 105,x 106,x 107,x 108,x 109,x 110,x 111,x 112,x 113,x 114,x 115,x 116,x 117,x 118,x 119,x 120,x 121,x 122,x 123,x 124,x 125,x 126,x 127,x 128,x 129,x 130,x 131,x 132,x 133,x 134,x 135,x 136,x 137,x 138,x 139,x 140,x 141,x 142,x 143,x 144,x 145,x 146,x 147,x 148,x 149,x 150,x 151,x 152,x 153,x 154,x 155,x 156,x 157,x 158,x 159,x 160,x 161,x 162,x 163,x 164,x 165,x 166,x 167,x 168,x 169,x 170,x 171,x 172,x 173,x 174,x 175,x 176,x 177,x 178,x 179,x 180,x 181,x 182,x 183,x 184,x 185,x 186,x 187,x 188,x 189,x 190,x 191,x 192,x 193,x 194,x 195,x 196,x 197,x 198,x 199,x 200,x 201,x 202,x 203,x 204,x 205,x 206,x 207,x 208,x 209,x 210,x 211,x 212,x 213,x 214,x 215,x 216,x 217,x 218,x 219,x 220,x 221,x 222,x 223,x 224,x 225,x 226,x 227,x 228,x 229,x 230,x 231,x 232,x 233,x 234,x 235,x 236,x 237,x 238,x 239],D⟩∧WS x T:=by
 obtain⟨t,dd⟩:=a;obtain⟨g,m,h3⟩:=h;refine⟨λi=>t.getD i undef,?_,m⟩;have e:t=((List.range 240).map λi=>t.getD i undef).toArray:=by
  have g:t.size=240:=g;apply Array.ext;·simp[g]
  .intro i o p;simp at p;simp[o]
 exact Tx
theorem Z61{H:LHeap}{n:Int}{name:ByteArray}{kind:Int}{v:LVal}(h:(H.declare n name kind v).2≠0):(H.declare n name kind v).1=H:=by
 unfold LHeap.declare at h ⊢;rcases hs:H.scope? n with _|s;·rfl
 .rw[hs]at h;simp only at h ⊢;split;·rfl
  .split;·rfl
   .rename_i g m;rw[Y3 g,Y3 m]at h;exact absurd rfl h
section
variable {C:RCtx}{M M' M0:MRep}{w w' wE:World}
theorem VRow.form{v:Value}{vs:List LVal}(h:VRow C M wE w v vs):∃pv m,v=.slice pv vs.length m∧vs.length<=m∧m<=maxLen∧
 ∀(i:Nat) (x:LVal),vs[i]?=some x->∃g,pv=some ⟨g,0,none⟩∧g<w.heap.size∧¬M.has g∧w.cell? ⟨g,i*3,none⟩=some (vI x.kind)∧w.cell? ⟨g,i*3+1,none⟩=some (vI x.n)∧w.cell? ⟨g,i*3+2,none⟩=some (.string x.s):=by
 rcases h.cells with⟨rfl,rfl⟩|⟨g,cap,rfl,o,p,u,y⟩;·exact⟨none,0,rfl,Y0 _,Yh _,λi x hx=>by simp at hx⟩
 .refine⟨_,cap,rfl,o,p,λi x hx=>?_⟩;obtain⟨a,b,c⟩:=y i x hx;rw[Nat.mul_comm 3 i]at a b c;exact⟨g,rfl,u,h.free g rfl,a,b,c⟩
end
