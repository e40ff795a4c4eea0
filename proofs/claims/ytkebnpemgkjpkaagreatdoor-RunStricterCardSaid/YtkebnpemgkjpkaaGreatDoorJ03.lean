import Derived.Test.YtkebnpemgkjpkaaGreatDoorJ01
set_option maxRecDepth 100000
set_option maxHeartbeats 20000000
set_option linter.all false
namespace Go.Proofs.YtkebnpemgkjpkaaGreatDoor
open Go Go.RowKit Go.Proofs.Tryz Tryz
def LHeap.scope? (H:LHeap)(n:Int):Option LScope:=if n<0 then none else H.scopes[n.toNat]?
def LHeap.object? (H:LHeap)(n:Int):Option LObj:=if n<0 then none else H.objects[n.toNat]?
theorem Zda(f:Nat->Nat)(n i:Nat)(h:i<n):(Am f n)[i]?=some (.pointer (some ⟨f i,0,none⟩)):=by simp[Am,h]
def Zs{w:kV}{base:Nat}{e:TypeId}{v:Value}{n:Nat}{xs:List Value}(h:w.ownsRow base e 1 v n xs){g:Nat}(m:v.ownBlock=some g){i:Nat}{x:Value}(hi:xs[i]?=some x) :
 w.cell? ⟨g,i,none⟩=some x:=by
 have:=h.cells m i x hi;rwa[show((⟨g,0,none⟩:Addr).add i)=⟨g,i,none⟩ by unfold Addr.add;split<;>simp_all]at this
section
variable {ρ:Nat->Option Role}{w:kV}{hb ho:Nat}{L:HL}{H:LHeap}
def Vo(h:HeapAt ρ w hb ho L H)(n:Int)(hn:H.scope? n=none) :
 kC 40 #[.pointer (some ⟨hb,ho,none⟩),vI n] w λe w'=>e=.returned (.tuple #[.pointer none,.bool false])/\w=w':=by
 have hc:=h.cellS;by_cases u:n<0
 .clear h;exact Zrp
 .obtain⟨m,rfl⟩:=Int.eq_ofNat_of_zero_le (by omega:0<=n);have hm:H.scopes.length<=m:=by simpa[LHeap.scope?,u]using hn
  rcases Z4 h.rowS with⟨p,F⟩|⟨g,cap,p,h1,y,_⟩
  .rw[p]at hc;clear h hn u p;exact Zrp
  .rw[p]at hc;clear h hn u p;unfold maxLen at y;exact Zrp
def UX(h:HeapAt ρ w hb ho L H)(m:Nat)(hn:m<H.scopes.length) :
 kC 40 #[.pointer (some ⟨hb,ho,none⟩),vI m] w λe w'=>e=.returned (.tuple #[.pointer (some ⟨L.sb m,0,none⟩),.bool true])/\w=w':=by
 have hc:=h.cellS;rcases Z4 h.rowS with⟨hv,u⟩|⟨g,cap,hv,h1,p,_⟩;·omega
 .have hp:=Zs h.rowS (g:=g) PW (Zda L.sb _ m hn);rw[hv]at hc;clear h hv;unfold maxLen at p;exact Zrp
def Z8h(h:HeapAt ρ w hb ho L H)(n:Int)(hn:H.object? n=none) :
 kC 34 #[.pointer (some ⟨hb,ho,none⟩),vI n] w λe w'=>e=.returned (.tuple #[.pointer none,.bool false])/\w=w':=by
 have hc:=h.cellO;by_cases u:n<0
 .clear h;exact Zs0
 .obtain⟨m,rfl⟩:=Int.eq_ofNat_of_zero_le (by omega:0<=n);have hm:H.objects.length<=m:=by simpa[LHeap.object?,u]using hn
  rcases Z4 h.rowO with⟨p,F⟩|⟨g,cap,p,h1,y,_⟩
  .rw[p]at hc;clear h hn u p;exact Zs0
  .rw[p]at hc;clear h hn u p;unfold maxLen at y;exact Zs0
def Z7a(h:HeapAt ρ w hb ho L H)(m:Nat)(hn:m<H.objects.length) :
 kC 34 #[.pointer (some ⟨hb,ho,none⟩),vI m] w λe w'=>e=.returned (.tuple #[.pointer (some ⟨L.ob m,0,none⟩),.bool true])/\w=w':=by
 have hc:=h.cellO;rcases Z4 h.rowO with⟨hv,u⟩|⟨g,cap,hv,h1,p,_⟩;·omega
 .have hp:=Zs h.rowO (g:=g) PW (Zda L.ob _ m hn);rw[hv]at hc;clear h hv;unfold maxLen at p;exact Zs0
end
theorem findIdx?_none_of{α:Type}{p:α->Bool}{l:List α}(h:∀j a,j<l.length->l[j]?=some a->p a=false):l.findIdx? p=none:=by
 rw[List.findIdx?_eq_none_iff];intro x hx;obtain⟨j,g,rfl⟩:=List.getElem_of_mem hx;exact h j _ g (Y6 g)
theorem findIdx?_some_of{α:Type}{p:α->Bool}{l:List α}{k:Nat}{a:α}(h:∀j a,j<k->l[j]?=some a->p a=false)(hk:l[k]?=some a)(ha:p a=true):l.findIdx? p=some k:=by
 rw[List.findIdx?_eq_some_iff_getElem];obtain⟨g,rfl⟩:=List.getElem?_eq_some_iff.1 hk;refine⟨g,ha,λj m=>?_⟩;rw[h j _ m (Y6 Px)];simp
def Ed:Option Nat->Int|some k=>k|none=>-1
def LBind.is(name:kB)(b:LBind):Bool:=Zg b.name name
def LProp.is(name:kB)(b:LProp):Bool:=Zg b.name name
def LScope.idx(s:LScope)(name:kB):Option Nat:=s.names.findIdx? (LBind.is name)
def LObj.idx(o:LObj)(name:kB):Option Nat:=o.props.findIdx? (LProp.is name)
def Zb4(w:kV)(g:Addr)(name n s:kB)(k m p:Int)(rd:Bool)(hx:w.cell? g=some (.string name))(hb:g.block<w.heap.size) :
 kC 76 #[.agg #[.string n,vI k,vI m,.string s,vI p,.bool rd],.pointer (some g)] w λe w'=>e=.returned (.bool (Zg n name))/\kW w w':=by
 go_enter func76,ntmps76
 exact Ztx
def Za2(w:kV)(g:Addr)(name n s:kB)(k m:Int)(rd:Bool)(hx:w.cell? g=some (.string name))(hb:g.block<w.heap.size) :
 kC 74 #[.agg #[.string n,vI k,vI m,.string s,.bool rd],.pointer (some g)] w λe w'=>e=.returned (.bool (Zg n name))/\kW w w':=by
 go_enter func74,ntmps74
 exact Ztx
def indexB(w:kV)(bx:Addr)(name:kB)(hx:w.cell? bx=some (.string name))(hb:bx.block<w.heap.size)(v:Value)(l:List LBind)
 (af:w.ownsRow 0 157 6 v l.length (l.flatMap LBind.cells)) :
 kC 75 #[v,.func (.func 76) #[] #[.pointer (some bx)]] w λe w'=>e=.returned (vI (Ed (l.findIdx? (LBind.is name))))/\kW w w':=by
 have ae:=λg hg i j a x=>SH (f:=LBind.cells) (m:=6) (λ_=>rfl) af (g:=g) hg (i:=i) (j:=j) (a:=a) (x:=x);rcases Z4 af with⟨hv,hz⟩|⟨g,c,hv,h1,u,hg⟩;·exact AbA
 .subst hv;have hc:=ae g rfl;clear af ae;obtain⟨n,hn⟩:=zX l.length
  rw[<-hn]at h1 ⊢;unfold maxLen at u;have HN:=lh hn;clear hn;go_enter func75,ntmps75
  go_wp2;go_loopw [5,8] (λ_ i wr=>∃k:Nat,i=(vI k)/\k<=n/\(∀j a,j<k->l[j]?=some a->LBind.is name a=false)/\kW w wr) (λ_ i _=>n-(intOf i).toNat)
  case atStart=>exact⟨0,rfl,by omega,λj a hj=>by omega,Y2 _ _⟩
  case round=>
   obtain⟨k,rfl,hk,dO,hB⟩:=hrel;have aE:n=l.length:=HN.o;by_cases F:k<n
   .have y:k<l.length:=by omega
    have ef:l[k]?=some l[k]:=Y6 y;generalize l[k]=b at ef;obtain⟨bn,⟨bk,bm,bs⟩,ml,ka⟩:=b;refine AaC ?_;intro c0 c1 c2 c3 c4 c5 kZ du HG HO;clear ef dO hc hx aE;by_cases hq:Zg bn name=true
    .go_wp2_with (go_at_call 76;refine(Zb4 _ bx name bn bs bk bm ml ka kZ du).mono ?_;rintro e w1⟨rfl,aO⟩)
     exact Zv9
    .go_wp2_with (go_at_call 76;refine(Zb4 _ bx name bn bs bk bm ml ka kZ du).mono ?_;rintro e w1⟨rfl,aO⟩)
     exact Aba
   .exact Aar
def Ace(w:kV)(y:Addr)(name:kB)(hx:w.cell? y=some (.string name))(hb:y.block<w.heap.size)(v:Value)(l:List LProp)
 (I:w.ownsRow 0 101 5 v l.length (l.flatMap LProp.cells)) :
 kC 73 #[v,.func (.func 74) #[] #[.pointer (some y)]] w λe w'=>e=.returned (vI (Ed (l.findIdx? (LProp.is name))))/\kW w w':=by
 have O:=λg F i j a x=>SH (f:=LProp.cells) (m:=5) (λ_=>rfl) I (g:=g) F (i:=i) (j:=j) (a:=a) (x:=x);rcases Z4 I with⟨U,hz⟩|⟨g,c,U,h1,h2,F⟩
 .subst U;have :l=[]:=List.eq_nil_of_length_eq_zero hz;subst this;clear I O hz;go_enter func73,ntmps73
  exact Ab0
 .subst U;have hc:=O g rfl;clear I O;obtain⟨n,hn⟩:=zX l.length
  rw[<-hn]at h1 ⊢;unfold maxLen at h2;have HN:=lh hn;clear hn;go_enter func73,ntmps73
  go_wp2;go_loopw [5,8] (λ_ i wr=>∃k:Nat,i=(vI k)/\k<=n/\(∀j a,j<k->l[j]?=some a->LProp.is name a=false)/\kW w wr) (λ_ i _=>n-(intOf i).toNat)
  case atStart=>exact⟨0,rfl,by omega,λj a hj=>by omega,Y2 _ _⟩
  case round=>
   obtain⟨k,rfl,hk,dO,hB⟩:=hrel;have aE:n=l.length:=HN.o;by_cases ay:k<n
   .have aX:k<l.length:=by omega
    have u:l[k]?=some l[k]:=Y6 aX;generalize l[k]=b at u;obtain⟨J,⟨X,Y,Z⟩,ka⟩:=b;have c0:wr.cell? ⟨g,k*5,none⟩=some (.string J):=(hB.cell (p:=⟨g,k*5,none⟩) F).trans (hc k 0 _ _ u rfl);have c1:wr.cell? ⟨g,k*5+1,none⟩=some (vI X):=(hB.cell (p:=⟨g,k*5+1,none⟩) F).trans (hc k 1 _ _ u rfl);have c2:wr.cell? ⟨g,k*5+2,none⟩=some (vI Y):=(hB.cell (p:=⟨g,k*5+2,none⟩) F).trans (hc k 2 _ _ u rfl)
    have c3:wr.cell? ⟨g,k*5+3,none⟩=some (.string Z):=(hB.cell (p:=⟨g,k*5+3,none⟩) F).trans (hc k 3 _ _ u rfl);have c4:wr.cell? ⟨g,k*5+4,none⟩=some (.bool ka):=(hB.cell (p:=⟨g,k*5+4,none⟩) F).trans (hc k 4 _ _ u rfl);have kZ:wr.cell? y=some (.string name):=(hB.cell hb).trans hx;have du:y.block<wr.heap.size:=Y7 hb hB.size;have HG:=lh u;have HO:=lh dO;clear u dO hc hx aE;by_cases hq:Zg J name=true
    .go_wp2_with (go_at_call 74;refine(Za2 _ y name J Z X Y ka kZ du).mono ?_;rintro e w1⟨rfl,aO⟩)
     exact Zv9
    .go_wp2_with (go_at_call 74;refine(Za2 _ y name J Z X Y ka kZ du).mono ?_;rintro e w1⟨rfl,aO⟩)
     go_roundw
     case rel=>
      refine⟨k+1,by go_num,by omega,λj a hj ha=>?_,hB.trans (aO.mono hB.size)⟩;by_cases pU:j=k
      .subst pU;have:=HG.o.symm.trans ha;simp only[Option.some.injEq]at this;subst this;simpa[LProp.is]using hq
      .exact HO.o j a Px ha
     case measure=>simp[intOf];omega
   .exact Aar
section
variable {ρ:Nat->Option Role}{w:kV}{hb ho:Nat}{L:HL}{H:LHeap}
def Tm(v:Value)(size:Nat):Option Nat->Option Addr
 |some k=>v.ownBlock.map λg=>⟨g,k*size,none⟩
 |none=>none
def Z73(h:HeapAt ρ w hb ho L H)(i:Nat)(s:LScope)(hi:H.scopes[i]?=some s)(name:kB) :
 kC 42 #[.pointer (some ⟨L.sb i,0,none⟩),.string name] w λe w'=>e=.returned (.pointer (Tm (L.nv i) 6 (s.idx name)))/\kW w w':=by
 obtain⟨ac,I⟩:=h.scp i s hi;have Z:L.sb i<w.heap.size:=(Y1.1 ac).1;have Y:w.cell? ⟨L.sb i,2,none⟩=some (L.nv i):=PC
 have O:=I.alloc (.cells #[.string name] 9);have u:=indexB (w.alloc (.cells #[.string name] 9)) ⟨w.heap.size,0,none⟩ name PE PE _ s.names O;clear h ac hi;rcases ja:s.idx name with _|k
 .have y:s.names.findIdx? (LBind.is name)=none:=ja;rw[y]at u;have J:=lh u;have HO:=lh I;clear ja y I O u;generalize L.nv i=v at *;rcases Z4 HO.o with⟨m,hz⟩|⟨g,c,m,h1,U,hg⟩
  all_goals
   subst m;try unfold maxLen at U
   go_enter func42,ntmps42
   go_wp2_with fail
   refine J.o.mono ?_;rintro e w1⟨rfl,F⟩;have X:=lh F;clear F;simp only[Ed];go_wp2;go_ret;exact⟨rfl,((Y2 _ _).alloc (Y0 _) _).trans (X.o.mono PE)⟩
 .have y:s.names.findIdx? (LBind.is name)=some k:=ja;have aX:k<s.names.length:=(List.findIdx?_eq_some_iff_getElem.1 y).1;rw[y]at u;have J:=lh u;rcases Z4 I with⟨m,hz⟩|⟨g,c,m,h1,U,hg⟩;·omega
  rw[m]at Y J;have HN:=lh m;clear ja y I O u m;unfold maxLen at U;go_enter func42,ntmps42
  go_wp2_with fail
  refine J.o.mono ?_;rintro e w1⟨rfl,F⟩;have Lh:vC w1 (L.sb i) 2 (.slice (some ⟨g,0,none⟩) s.names.length c):=(F.cell (p:=⟨L.sb i,2,none⟩) PB).trans ((Zc Z).trans Y);have X:=lh F;clear F;simp only[Ed];go_wp2;go_ret;exact⟨by rw[HN.o];rfl,((Y2 _ _).alloc (Y0 _) _).trans (X.o.mono PE)⟩
def Zdb(h:HeapAt ρ w hb ho L H)(i:Nat)(s:LObj)(hi:H.objects[i]?=some s)(name:kB) :
 kC 35 #[.pointer (some ⟨L.ob i,0,none⟩),.string name] w λe w'=>e=.returned (vI (Ed (s.idx name)))/\kW w w':=by
 obtain⟨ac,m⟩:=h.obj i s hi;have U:L.ob i<w.heap.size:=(Y1.1 ac).1;have X:w.cell? ⟨L.ob i,0,none⟩=some (L.pv i):=PC
 have p:=m.alloc (.cells #[.string name] 9);have u:=Ace (w.alloc (.cells #[.string name] 9)) ⟨w.heap.size,0,none⟩ name PE PE _ s.props p;have I:=lh u;have J:=Z4 m;clear h ac hi u p m;generalize L.pv i=v at *;rcases J with⟨y,Y⟩|⟨g,c,y,h1,Z,hg⟩
 all_goals
  subst y;go_enter func35,ntmps35
  go_wp2_with fail
  refine I.o.mono ?_;rintro e w1⟨rfl,F⟩;have O:=lh F;clear F;go_wp2;go_ret;exact⟨rfl,((Y2 _ _).alloc (Y0 _) _).trans (O.o.mono PE)⟩
end
def LVal.zero:LVal:=⟨0,0,⟨#[]⟩⟩
def LHeap.get(H:LHeap)(n:Int)(name:kB):Option LVal:=(H.object? n).bind λo=>(o.idx name).bind λk=>(o.props[k]?).map (·.v)
theorem LHeap.object?_some{H:LHeap}{n:Int}{o:LObj}(h:H.object? n=some o):∃m:Nat,n=m/\H.objects[m]?=some o:=by
 unfold LHeap.object? at h;split at h;·cases h
 .exact⟨n.toNat,by omega,h⟩
theorem LHeap.scope?_some{H:LHeap}{n:Int}{o:LScope}(h:H.scope? n=some o):∃m:Nat,n=m/\H.scopes[m]?=some o:=by
 unfold LHeap.scope? at h;split at h;·cases h
 .exact⟨n.toNat,by omega,h⟩
def LObj.idx_some{o:LObj}{name:kB}{k:Nat}(h:o.idx name=some k):∃p,o.props[k]?=some p/\Zg p.name name=true:=by
 exact Zyo
def LScope.idx_some{o:LScope}{name:kB}{k:Nat}(h:o.idx name=some k):∃p,o.names[k]?=some p/\Zg p.name name=true:=by
 exact Zyo
section
variable {ρ:Nat->Option Role}{w:kV}{hb ho:Nat}{L:HL}{H:LHeap}
theorem Zro{n:Int}{name:kB}(hob:H.object? n=none):H.get n name=none:=by simp[LHeap.get,hob]
def Zhq(h:HeapAt ρ w hb ho L H)(n:Int)(name:kB) :
 kC 41 #[.pointer (some ⟨hb,ho,none⟩),vI n,.string name] w λe w'=>e=.returned (.tuple #[((H.get n name).getD LVal.zero).agg,.bool (H.get n name).isSome])/\kW w w':=by
 have h1:∀o,HeapAt ρ (w.alloc o) hb ho L H:=λo=>h.below ((Y2 _ _).alloc (Y0 _) _);rcases hob:H.object? n with _|o
 .have F:=lh (Z8h (h1 (.cells #[vI 0,vI 0,.string ⟨#[]⟩] 56)) n hob);rw[Zro hob];clear h h1 hob;go_enter func41,ntmps41
  go_wp2_with fail
  refine F.o.mono ?_;rintro e w1⟨rfl,rfl⟩;go_wp2;exact Yp (v:=.tuple #[LVal.zero.agg,.bool false]) (by simp[results,results41,go_sem,LVal.agg,LVal.zero]) rfl ⟨rfl,(Y2 _ _).alloc (Y0 _) _⟩
 .obtain⟨m,rfl,hm⟩:=LHeap.object?_some hob;obtain⟨I,J⟩:=h.obj m o hm;have Y:L.ob m<w.heap.size:=(Y1.1 I).1;have O:w.cell? ⟨L.ob m,0,none⟩=some (L.pv m):=by simp[vC,World.cell?,I]
  have F:=lh (Z7a (h1 (.cells #[vI 0,vI 0,.string ⟨#[]⟩] 56)) m (getElem?_lt hm));have HF:=lh (Zdb (h1 (.cells #[vI 0,vI 0,.string ⟨#[]⟩] 56)) m o hm name);rcases hk:o.idx name with _|k
  .have y:H.get m name=none:=by simp[LHeap.get,hob,hk]
   rw[y];rw[hk]at HF;clear h h1 hob y hk hm I J O Y;go_enter func41,ntmps41
   go_wp2_with fail
   refine F.o.mono ?_;rintro e w1⟨rfl,rfl⟩;go_wp2_with fail
   refine Zyj ?_;intro w1 hB q0 q1 q2 f0 f1 f2 hs;have u:=lh (Xm hB);clear hB;go_wp2;refine Yp (v:=.tuple #[LVal.zero.agg,.bool false]) ?_ rfl ?_;·simp[results,results41,go_sem,LVal.agg,LVal.zero,q0,q1,q2]
   .exact⟨rfl,((u.o.setCell (Y0 _) _).setCell (Y0 _) _).setCell (Y0 _) _⟩
  .obtain⟨p,hp,_⟩:=LObj.idx_some hk;have y:H.get m name=some p.v:=by simp[LHeap.get,hob,hk,hp]
   rw[y];rw[hk]at HF;obtain⟨pn,⟨Z,pm,ps⟩,pf⟩:=p;have aX:=getElem?_lt hp;rcases Z4 J with⟨hv,hz⟩|⟨g,c,hv,h2,h3,X⟩;·omega
   rw[hv]at O;have U:=λj x=>SH (f:=LProp.cells) (m:=5) (λ_=>rfl) J (g:=g) PW (i:=k) (j:=j) (x:=x) hp;have r1:=U 1 (vI Z) rfl;have r2:=U 2 (vI pm) rfl;have r3:=U 3 (.string ps) rfl;clear h h1 hob y hk hm I J U hp hv;unfold maxLen at h3;go_enter func41,ntmps41
   go_wp2_with fail
   refine F.o.mono ?_;rintro e w1⟨rfl,rfl⟩;go_wp2_with fail
   refine Zyj ?_;intro w1 hB q0 q1 q2 f0 f1 f2 hs;have u:=Xm hB;have c0:=(u.cell (p:=⟨L.ob m,0,none⟩) Y).trans O;have c1:=(u.cell (p:=⟨g,k*5+1,none⟩) X).trans r1;have c2:=(u.cell (p:=⟨g,k*5+2,none⟩) X).trans r2;have c3:=(u.cell (p:=⟨g,k*5+3,none⟩) X).trans r3;have HB:=lh u;clear hB u r1 r2 r3 O;go_wp2;refine Yp (v:=.tuple #[.agg #[vI Z,vI pm,.string ps],.bool true]) ?_ rfl ?_;·simp[results,results41,go_sem,q0,q1,q2]
   .exact Zyp
end
def LHeap.has(H:LHeap)(n:Int)(name:kB):Bool:=
 match H.scope? n with
 |none=>false
 |some s=>if s.object<0 then(s.idx name).isSome else(H.get s.object name).isSome
def LHeap.WF(H:LHeap):Prop:=∀(i:Nat) s,H.scopes[i]?=some s->-1<=s.outer/\s.outer<i
def LHeap.findF(H:LHeap)(name:kB):Nat->Int->Int
 |0,_=>-1
 |f+1,n=>
   match H.scope? n with
   |none=>-1
   |some s=>if H.has n name then n else H.findF name f s.outer
def LHeap.find(H:LHeap)(n:Int)(name:kB):Int:=H.findF name (n+1).toNat n
section
variable {ρ:Nat->Option Role}{w:kV}{hb ho:Nat}{L:HL}{H:LHeap}
def has_eq{n:Int}{s:LScope}{name:kB}(h:H.scope? n=some s):H.has n name=if s.object<0 then(s.idx name).isSome else(H.get s.object name).isSome:=by
 simp[LHeap.has,h]
def Vh(h:HeapAt ρ w hb ho L H)(n:Int)(name:kB) :
 kC 20 #[.pointer (some ⟨hb,ho,none⟩),vI n,.string name] w λe w'=>e=.returned (.bool (H.has n name))/\kW w w':=by
 rcases hob:H.scope? n with _|s
 .have HC:=lh (Vo h n hob);have J:H.has n name=false:=by simp[LHeap.has,hob]
  rw[J];clear h hob J;go_enter func20,ntmps20
  exact YT
 .have F:=has_eq (name:=name) hob;obtain⟨m,rfl,hm⟩:=LHeap.scope?_some hob;obtain⟨u,y⟩:=h.scp m s hm;have O:L.sb m<w.heap.size:=(Y1.1 u).1;have U:w.cell? ⟨L.sb m,1,none⟩=some (vI s.object):=by simp[vC,World.cell?,u]
  have HC:=lh (UX h m (getElem?_lt hm));rw[F];by_cases ho:s.object<0
  .rw[Y5 ho];have HB:=lh (Z73 h m s hm name);clear h hob F hm u;rcases hk:s.idx name with _|k
   .rw[hk]at HB;simp only[Tm]at HB;clear hk y;exact AbP
   .rw[hk]at HB;obtain⟨p,hp,_⟩:=LScope.idx_some hk;have X:=getElem?_lt hp;rcases Z4 y with⟨I,Y⟩|⟨g,c,I,Z,h3,cV⟩;·omega
    rw[I]at HB;simp only[Tm,Value.ownBlock,Option.map_some]at HB;clear I y hk hp;exact AbP
  .rw[Y3 ho];have HB:=lh (Zhq h s.object name);clear h hob F hm u y;generalize(H.get s.object name).isSome=r at *;generalize(H.get s.object name).getD LVal.zero=v at *;obtain⟨vk,vn,vs⟩:=v;simp only[LVal.agg]at HB;go_enter func20,ntmps20
   go_wp2_with fail
   refine HC.o.mono ?_;rintro e w1⟨rfl,rfl⟩;go_wp2_with fail
   refine HB.o.mono ?_;rintro e w1⟨rfl,hB⟩;have dn:=lh hB;clear hB;go_wp2;go_ret;exact⟨rfl,dn.o.alloc dn.o.size _⟩
def Zfq{n:Int}{name:kB}{f:Nat}(h:H.scope? n=none):H.findF name f n=-1:=by
 cases f<;>simp[LHeap.findF,h]
def Zef{n:Int}{s:LScope}{name:kB}{f:Nat}(h:H.scope? n=some s):H.findF name (f+1) n=if H.has n name then n else H.findF name f s.outer:=by
 simp[LHeap.findF,h]
def Zo6(L:HL)(H:LHeap)(n:Int)(b c:Value):Prop:=
 (∃(m:Nat) (s:LScope),n=m/\H.scopes[m]?=some s/\b=.pointer (some ⟨L.sb m,0,none⟩)/\c=.bool true)\/(H.scope? n=none/\b=.pointer none/\c=.bool false)
def Zds(h:HeapAt ρ w hb ho L H)(Y:H.WF)(n:Int)(name:kB) :
 kC 77 #[.pointer (some ⟨hb,ho,none⟩),vI n,.string name] w λe w'=>e=.returned (vI (H.find n name))/\kW w w':=by
 obtain⟨R,Z⟩:=zX (H.find n name)
 rw[<-Z];have HR:=lh Z;clear Z
 have yF:∀ b c,kC 40 #[.pointer (some ⟨hb,ho,none⟩),vI n] w (fun e w'=>e=.returned (.tuple #[b,c])∧w=w')→Zo6 L H n b c →
  kC 77 #[.pointer (some ⟨hb,ho,none⟩),vI n,.string name] w λe w'=>e=.returned (vI R)/\kW w w':=by
  intro b c y O;obtain⟨HC,HA,HH,HW⟩:=en y O h Y;clear y O h Y;go_enter func77,ntmps77
  go_wp2_with fail
  refine HC.o.mono ?_;rintro e w1⟨rfl,rfl⟩;go_wp2_with fail
  go_loopw [1,7,8] (λx b c wr=>∃(m:Int) (f:Nat),x=(vI m)/\Zo6 L H m b c/\H.findF name f m=R/\m<f/\kW w wr) (λx _ _ _=>(intOf x+1).toNat)
  case atStart=>exact⟨n,(n+1).toNat,rfl,HA.o,HR.o.symm,by omega,Y2 _ _⟩
  case round=>
   obtain⟨m,f,rfl,O,hf,ay,F⟩:=hrel;rcases O with⟨k,s,rfl,hs,rfl,rfl⟩|⟨lD,rfl,rfl⟩
   .have U:=HH.o.below F;have I:H.scope? (k:Int)=some s:=by simp[LHeap.scope?,hs]
    obtain⟨f,rfl⟩:∃f',f=f'+1:=⟨f-1,by omega⟩
    rw[Zef I]at hf;have Y:=HW.o k s hs;have X:=lh (Vh U (k:Int) name);have ac:=(U.scp k s hs).1;have DK:L.sb k<wr.heap.size:=(Y1.1 ac).1;have hc:wr.cell? ⟨L.sb k,0,none⟩=some (vI s.outer):=PC
    obtain⟨J,u,Li⟩:=ds hf F U;clear hf F U ac hs I;by_cases hq:H.has (k:Int) name=true
    .rw[hq]at X;go_wp2_with fail
     refine X.o.mono ?_;rintro e w1⟨rfl,g⟩;have av:=lh g;clear g;go_wp2;go_ret;exact⟨Zdn (by rw[<-J.o,Y5 hq]),u.o.trans (av.o.mono u.o.size)⟩
    .have eU:H.has (k:Int) name=false:=by simpa using hq
     rw[eU]at X;go_wp2_with fail
     refine X.o.mono ?_;rintro e w1⟨rfl,g⟩;have mJ:=(g.cell (p:=⟨L.sb k,0,none⟩) DK).trans hc;have eS:=Li.o.below g;have ar:=u.o.trans (g.mono u.o.size);have hf:=J.o;rw[Y3 hq]at hf;have Lj:=lh hf;have aN:=lh ar;clear g ar hf hc J;have two:∃b c,kC 40 #[.pointer (some ⟨hb,ho,none⟩),vI s.outer] w1 (λe w'=>e=.returned (.tuple #[b,c])/\w1=w')/\Zo6 L H s.outer b c:=by
      rcases aU:H.scope? s.outer with _|t;·exact⟨_,_,Vo eS _ aU,.inr ⟨aU,rfl,rfl⟩⟩
      .obtain⟨j,hj,ht⟩:=LHeap.scope?_some aU;rw[hj];exact⟨_,_,UX eS j (getElem?_lt ht),.inl ⟨j,t,rfl,ht,rfl,rfl⟩⟩
     obtain⟨b',c',y,yG⟩:=two;have bP:=lh y;have o5:=lh yG;clear y yG eS;go_wp2_with fail
     refine bP.o.mono ?_;rintro e w2⟨rfl,rfl⟩;go_wp2;go_roundw
     case rel=>exact⟨s.outer,f,rfl,o5.o,Lj.o,by omega,aN.o⟩
     case measure=>simp[intOf];omega
   .obtain⟨u,J,HN⟩:=ds F hf lD;clear F hf lD;go_wp2;go_ret;exact⟨Zdn (by rw[<-J.o,Zfq HN.o]),u.o⟩
 rcases aU:H.scope? n with _|t;·exact yF _ _ (Vo h _ aU) (.inr ⟨aU,rfl,rfl⟩)
 .obtain⟨j,rfl,ht⟩:=LHeap.scope?_some aU;exact yF _ _ (UX h j (getElem?_lt ht)) (.inl ⟨j,t,rfl,ht,rfl,rfl⟩)
end
