/- Package run: value, where it is told at once. -/
import Derived.Test.YtjikfacdcdiddaaGreatDoorJ20
import Derived.LaidEqlPtr
set_option maxRecDepth 100000
set_option maxHeartbeats 20000000
set_option linter.unusedVariables false
set_option linter.unusedSimpArgs false
namespace Go.Proofs.YtjikfacdcdiddaaGreatDoor
open Go Go.RowKit
section
variable {C:RCtx}{M M':MRep}{w w':World}{s s':MSt}{B:Nat}{a:ATree}{V:VF}{D:DF}{b:Int}{sc:Int}{fr:Frm}{d:Nat}
theorem Lo.apart{wE:World}{g b':Nat}{c:Array Value}{T:TypeId}(h:Lo C M wE w g c T)(m:g≠b')(i:Nat)(x:Value):Lo C M wE (w.setCell ⟨b',i,none⟩ x) g c T:=
 ⟨(Y8 _ _ _ _ m).trans h.blk,h.free,h.late,h.old⟩
theorem TreeAt.c2(h:TreeAt w B a):vC w a.b 2 (vI a.n):=by
 have:=h.blkOf;simp[vC,World.cell?,this]
theorem Zqi(h:MAt C M w s):MAt C M (w.setCell ⟨C.mb,5,none⟩ (vI (s.steps+1))) {s with steps:=s.steps+1}∧MFr M M w (w.setCell ⟨C.mb,5,none⟩ (vI (s.steps+1))):=
 h.scalar Pa rfl rfl rfl rfl rfl (λi hi=>by match i,hi with
  |0,_=>decide
  |1,_=>decide
  |2,_=>decide
  |3,_=>decide) ⟨_,h.cell 5 (vI s.steps) Pl⟩ (λo x hx=>by
  simp only[lH,List.mem_cons,Prod.mk.injEq,List.not_mem_nil,or_false]at hx ⊢;rcases hx with h|h|h|h|h|h|h|h|h|h|h<;>(obtain⟨rfl,rfl⟩:=h;simp))
theorem al.pre{w1:World}{r:MSt×Except Er LVal}{e:Ending}(f:MFr M M w w1)(h:al C M w1 r e w'):al C M w r e w':=by
 obtain⟨M1,g,m,o⟩:=h;exact⟨M1,g,f.trans m,o⟩
theorem iz.pre{w1:World}{r:MSt×Except Er (Bool×LVal)}{e:Ending}(f:MFr M M w w1)(h:iz C M w1 r e w'):iz C M w r e w':=by
 obtain⟨M1,g,m,o⟩:=h;exact⟨M1,g,f.trans m,o⟩
theorem al.fine'{W g:World}{M1:MRep}{s1:MSt}{rb:Nat}{x0 m z0:Value}{k n:Int}{t:ByteArray}(hL:Lo C M w g rb #[x0,m,z0] 55)(hz:MFr M M w g)(hM:MAt C M1 W s1)(hF:MFr M M1 g W) :
 al C M w (s1,.ok ⟨k,n,t⟩) (.returned (.tuple #[.agg #[vI k,vI n,.string t],.nilIface])) (((W.setCell ⟨rb,0,none⟩ (vI k)).setCell ⟨rb,1,none⟩ (vI n)).setCell ⟨rb,2,none⟩ (.string t)):=by
 exact Ztq
theorem al.err'{W g:World}{M1:MRep}{s1:MSt}{rb:Nat}{x0 o z0 ev:Value}{x:Er}{k n:Int}{t:ByteArray}(p:Lo C M w g rb #[x0,o,z0] 55)(u:MFr M M w g)(y:MAt C M1 W s1)(m:MFr M M1 g W)(he:ak C M1 W x ev) :
 al C M w (s1,.error x) (.returned (.tuple #[.agg #[vI k,vI n,.string t],ev])) (((W.setCell ⟨rb,0,none⟩ (vI k)).setCell ⟨rb,1,none⟩ (vI n)).setCell ⟨rb,2,none⟩ (.string t)):=by
 obtain⟨E,F,G⟩:=(p.fr m).ret (x':=(vI k)) (y':=(vI n)) (z':=.string t) y (u.trans m);exact⟨M1,E,F,⟨k,n,t⟩,ev,rfl,G _ _ he⟩
theorem iz.fine'{W g:World}{M1:MRep}{s1:MSt}{rb:Nat}{x0 m z0:Value}{k n:Int}{t:ByteArray}{b:Bool}(hL:Lo C M w g rb #[x0,m,z0] 55)(hz:MFr M M w g)(hM:MAt C M1 W s1)(hF:MFr M M1 g W) :
 iz C M w (s1,.ok (b,⟨k,n,t⟩)) (.returned (.tuple #[.bool b,.agg #[vI k,vI n,.string t],.nilIface])) (((W.setCell ⟨rb,0,none⟩ (vI k)).setCell ⟨rb,1,none⟩ (vI n)).setCell ⟨rb,2,none⟩ (.string t)):=by
 exact Ztq
theorem iz.err'{W g:World}{M1:MRep}{s1:MSt}{rb:Nat}{x0 o z0 ev:Value}{x:Er}{k n:Int}{t:ByteArray}{b:Bool}(p:Lo C M w g rb #[x0,o,z0] 55)(u:MFr M M w g)(y:MAt C M1 W s1)(m:MFr M M1 g W)(he:ak C M1 W x ev) :
 iz C M w (s1,.error x) (.returned (.tuple #[.bool b,.agg #[vI k,vI n,.string t],ev])) (((W.setCell ⟨rb,0,none⟩ (vI k)).setCell ⟨rb,1,none⟩ (vI n)).setCell ⟨rb,2,none⟩ (.string t)):=by
 obtain⟨E,F,G⟩:=(p.fr m).ret (x':=(vI k)) (y':=(vI n)) (z':=.string t) y (u.trans m);exact⟨M1,E,F,b,⟨k,n,t⟩,ev,rfl,G _ _ he⟩
theorem Zq6(hC:C.Ok)(h:MAt C M w s)(hI:Inv s d)(ha:TreeAt w B a)(hf:a.free M)(hs:s.steps=20000) :
 Calls Tryz.prog 77 #[vP C.mb,a.ptr,vI sc,.agg #[.bool fr.strict,vI fr.vars]] w λe w'=>al C M w (yk (x4 V D (a.nt C.N) sc fr) s) e w':=by
 refine I4 ?_;intro s1 aG bY hst jF bc dt du dv z0 aD;rw[<-aD]at bc dt du dv;refine o9 ?_;intro cF f5 y5 aE aY;rw[<-aG]at aE;refine pN ?_;intro z hz;rw[<-hz]at aE aY;refine Kw ?_;intro eT aJ bz lf lr ln g5 c0;rw[aD]at f5 y5;rw[hz,aD]at g5 c0;have g:yk (x4 V D (a.nt C.N) sc fr) s=(s1,.error .stop):=by
  unfold yk;rw[Y5 O',aG];rfl
 rw[g];have p:=lh aD;refine Zvq ?_;intro HZ cY dC ar bM bQ BC HM m0 m1 m2 q0 q1 q2 z0 z1 z2;clear hz aD bc cF aE aY eT aJ bz dt du dv lf lr ln ha hf h hI aG g hs c0;unfold ATree.ptr;go_enter Tryz.func77,Tryz.ntmps77
 go_wp2_with fail
 rw[<-HZ.o];clear f5 y5 g5;unfold oj at cY;refine oi [(true,0),(true,1),(false,2)] [3] (λW=>vC W (w.heap.size+1+1) 0 (vI 0)∧vC W (w.heap.size+1+1) 1 (vI 0)∧vC W (w.heap.size+1+1) 2 (.string ⟨#[]⟩)∧W.cell? ⟨0,0,none⟩=some (.iface 241 (.pointer (some C.eb)))) ⟨m0,m1,m2,cY⟩ (λu=>?_);refine Zuy ?_;intro K hK aX;have m:=al.err' (k:=0) (n:=0) (t:=⟨#[]⟩) ar.o bM.o HM.o.drew (.drew (.refl _ _)) (show ak C M z.drew .stop (oj C.eb)from rfl)
 refine hK _ _ ⟨aX.cell rfl,aX.cell rfl,aX.cell rfl,?_⟩ ?_;·exact X9
 clear hK K aX;have o:=lh m;clear m;refine Z0 ?_;go_wp2;refine bodyPost_ret (v:=.tuple #[.agg #[vI 0,vI 0,.string ⟨#[]⟩],.iface 241 (.pointer (some C.eb))]) ?_ rfl ?_;·simp[results,Tryz.results77,go_sem,q0,q1,q2]
 .exact o.o
theorem Zrw(h:MAt C M w s)(hI:Inv s d)(ha:TreeAt w B a)(hf:a.free M)(hs:s.steps<20000)(hk:a.kind=17∨a.kind=18∨a.kind=19∨a.kind=20∨a.kind=21∨a.kind=22) :
 Calls Tryz.prog 77 #[vP C.mb,a.ptr,vI sc,.agg #[.bool fr.strict,vI fr.vars]] w λe w'=>al C M w (yk (x4 V D (a.nt C.N) sc fr) s) e w':=by
 refine I4 ?_;intro s1 aG bY hst jF bc dt du dv z0 aD;rw[<-aD]at bc dt du dv;refine o9 ?_;intro cF f5 y5 aE aY;rw[<-aG]at aE;refine pN ?_;intro z hz;rw[<-hz]at aE aY;refine Kw ?_;intro eT aJ bz lf lr ln g5 c0;rw[aD]at f5 y5;rw[hz,aD]at g5 c0;refine NS ?_;intro hR R aS;rw[<-aS];rw[<-aS]at hR;clear aS;refine L3 ?_;intro dC HZ ar bQ dH bM HM fI ea HO HE;have c1:=aJ.c1;have c2:=aJ.c2;rw[hz,aD]at c1 c2;obtain⟨m,o,p,-,-,-⟩:=ln.six;rw[hz,aD]at m o p;have u:=Zju z a.n;have y:=Y' z a.text
 simp only[LVal.agg]at u y;have J:=lh u;have O:=lh y;have U:=lh (TI z true);have X:=lh (TI z false);unfold x4 at hR;simp only[Zc,Aaj,Zz]at hR;clear hz aD bc cF aE aY eT aJ bz dt du dv lf lr ln ha hf h hI aG u y;unfold ATree.ptr;rcases hk with hk|hk|hk|hk|hk|hk
 .rw[hk]at hR c0;simp at hR;have g:R=(s1,.ok ⟨3,a.n,⟨#[]⟩⟩):=hR;clear hR;subst g;go_enter Tryz.func77,Tryz.ntmps77
  go_wp2_with fail
  rw[<-HZ.o];clear f5 y5 g5 c0 c1 c2 m o p;refine J.o.mono ?_;refine YO ?_;intro w1 q0 q1 q2 z0 z1 z2 av;go_wp2;refine bodyPost_ret (v:=.tuple #[.agg #[vI 3,vI a.n,.string ⟨#[]⟩],.nilIface]) ?_ rfl ?_;·simp[results,Tryz.results77,go_sem,q0,q1,q2]
  .exact Zoy
 .rw[hk]at hR c0;simp at hR;have g:R=(s1,.ok ⟨4,0,a.text⟩):=hR;clear hR;subst g;go_enter Tryz.func77,Tryz.ntmps77
  go_wp2_with fail
  rw[<-HZ.o];clear f5 y5 g5 c0 c1 c2 m o p;refine O.o.mono ?_;refine YO ?_;intro w1 q0 q1 q2 z0 z1 z2 av;go_wp2;refine bodyPost_ret (v:=.tuple #[.agg #[vI 4,vI 0,.string a.text],.nilIface]) ?_ rfl ?_;·simp[results,Tryz.results77,go_sem,q0,q1,q2]
  .exact Zoy
 .rw[hk]at hR c0;simp at hR;have g:R=(s1,.ok ⟨2,1,⟨#[]⟩⟩):=hR;clear hR;subst g;go_enter Tryz.func77,Tryz.ntmps77
  go_wp2_with fail
  rw[<-HZ.o];clear f5 y5 g5 c0 c1 c2 m o p;refine U.o.mono ?_;refine YO ?_;intro w1 q0 q1 q2 z0 z1 z2 av;go_wp2;refine bodyPost_ret (v:=.tuple #[.agg #[vI 2,vI 1,.string ⟨#[]⟩],.nilIface]) ?_ rfl ?_;·simp[results,Tryz.results77,go_sem,q0,q1,q2]
  .exact Zoy
 .rw[hk]at hR c0;simp at hR;have g:R=(s1,.ok ⟨2,0,⟨#[]⟩⟩):=hR;clear hR;subst g;go_enter Tryz.func77,Tryz.ntmps77
  go_wp2_with fail
  rw[<-HZ.o];clear f5 y5 g5 c0 c1 c2 m o p;refine X.o.mono ?_;refine YO ?_;intro w1 q0 q1 q2 z0 z1 z2 av;go_wp2;refine bodyPost_ret (v:=.tuple #[.agg #[vI 2,vI 0,.string ⟨#[]⟩],.nilIface]) ?_ rfl ?_;·simp[results,Tryz.results77,go_sem,q0,q1,q2]
  .exact Zoy
 .rw[hk]at hR c0;simp at hR;have g:R=(s1,.ok ⟨1,0,⟨#[]⟩⟩):=hR;clear hR;subst g;obtain⟨q0,q1,q2,E,F,I⟩:=ar.o.six;rw[HZ.o]at q0 q1 q2 E F I;go_enter Tryz.func77,Tryz.ntmps77
  go_wp2_with fail
  refine bodyPost_ret (v:=.tuple #[.agg #[vI 1,vI 0,.string ⟨#[]⟩],.nilIface]) ?_ rfl ?_;·simp[results,Tryz.results77,go_sem,q0,q1,q2]
  .rw[<-HZ.o];exact .fine' ar.o bM.o HM.o (.refl _ _)
 .rw[hk]at hR c0;simp at hR;have g:R=(s1,.ok ⟨0,0,⟨#[]⟩⟩):=hR;clear hR;subst g;obtain⟨q0,q1,q2,E,F,I⟩:=ar.o.six;rw[HZ.o]at q0 q1 q2 E F I;go_enter Tryz.func77,Tryz.ntmps77
  go_wp2_with fail
  refine bodyPost_ret (v:=.tuple #[.agg #[vI 0,vI 0,.string ⟨#[]⟩],.nilIface]) ?_ rfl ?_;·simp[results,Tryz.results77,go_sem,q0,q1,q2]
  .rw[<-HZ.o];exact .fine' ar.o bM.o HM.o (.refl _ _)
end
noncomputable def fa(p:List Nat):Code:=Cb p (Tryz.f6.body.getD .skip)
theorem Zr8:Tryz.f6.body=some (fa []):=by kernel_rfl
def K'(C:RCtx)(w:World)(a:ATree)(l:List (Nat×Value)):List (Nat×Value):=
 (0,vP a.b)::(2,vP w.heap.size)::(5,vP C.mb)::l
section
variable {C:RCtx}{M M1:MRep}{w z W:World}{s:MSt}{B:Nat}{a:ATree}{d fb:Nat}{st:Bool}{A:Act}{K:Act->World->Prop}{Q:Exit->Act->World->Prop}
theorem Zwj(w:World)(nb:Nat)(eb:Addr)(pl:List (Nat×Nat)):∃M,MAt ⟨w,w.heap.size,nb,eb,pl⟩ M (w.alloc (.cells #[.slice none 0 0,.slice none 0 0,.slice none 0 0,vI 0,.string ⟨#[]⟩,vI 0,.slice none 0 0,.map (some nb),.slice none 0 0,.slice none 0 0,vI 0,vI 0,vI 0,vI 0,vI 0,vI 0,.string ⟨#[]⟩] 57)) MSt.new:=by
 refine⟨⟨λb=>if b=w.heap.size then some .hp else none,⟨.slice none 0 0,.slice none 0 0,λ_=>0,λ_=>.nilIface,λ_=>0,λ_=>.nilIface⟩,λ_=>.slice none 0 0,[]⟩,?_⟩
 have m:∀i x,(#[Value.slice none 0 0,.slice none 0 0,.slice none 0 0,vI 0,.string ⟨#[]⟩,vI 0,.slice none 0 0,.map (some nb),.slice none 0 0,.slice none 0 0,vI 0,vI 0,vI 0,vI 0,vI 0,vI 0,.string ⟨#[]⟩]:Array Value)[i]?=some x->(w.alloc (.cells #[.slice none 0 0,.slice none 0 0,.slice none 0 0,vI 0,.string ⟨#[]⟩,vI 0,.slice none 0 0,.map (some nb),.slice none 0 0,.slice none 0 0,vI 0,vI 0,vI 0,vI 0,vI 0,vI 0,.string ⟨#[]⟩] 57)).cell? ⟨w.heap.size,i,none⟩=some x:=λi x hx=>by
  rw[World.cell?_alloc_new];exact hx
 constructor
 .constructor;·exact m 0 _ rfl
  .exact m 1 _ rfl
  .exact World.frozen?_alloc_new _ _ _ _
  .exact World.frozen?_alloc_new _ _ _ _
  .exact⟨rfl,.inl ⟨rfl,rfl⟩⟩
  .exact⟨rfl,.inl ⟨rfl,rfl⟩⟩
  .intro i o h;cases h
  .intro i o h;cases h
  .simp
  .intro g h;cases h
  .intro g h;cases h
  .intro i h;exact absurd h (Nat.not_lt_zero i)
  .intro i g h;exact absurd h (Nat.not_lt_zero i)
  .intro i h;exact absurd h (Nat.not_lt_zero i)
  .intro i g h;exact absurd h (Nat.not_lt_zero i)
  .intro b hb;by_cases e:b=w.heap.size;·simp[e]
   .exact absurd (Y3 e) hb
 .intro o x hx;simp only[lH,MSt.new,LVal.zero,List.mem_cons,Prod.mk.injEq,List.not_mem_nil,or_false]at hx;rcases hx with h|h|h|h|h|h|h|h|h|h|h<;>(obtain⟨rfl,rfl⟩:=h;exact m _ _ rfl)
 .intro i hi;match i,hi with
  |0,_=>exact m 2 _ rfl
  |1,_=>exact m 6 _ rfl
  |2,_=>exact m 8 _ rfl
  |3,_=>exact m 9 _ rfl
 .intro o;exact World.frozen?_alloc_new _ _ _ _
 .intro i hi;match i,hi with
  |0,_=>exact⟨rfl,.inl ⟨rfl,rfl⟩⟩
  |1,_=>exact⟨rfl,.inl ⟨rfl,rfl⟩⟩
  |2,_=>exact⟨rfl,.inl ⟨rfl,rfl⟩⟩
  |3,_=>exact⟨rfl,.inl ⟨rfl,rfl⟩⟩
 .intro i hi g u;cases u
 .intro i j g hi y u;cases u
 .rfl
 .intro x hx;cases hx
 .exact Z1 w _
 .intro k hk p;rcases p with p|⟨i,hi,p⟩;·exact p (Y3 (Nat.ne_of_lt hk))
  .cases p
theorem Za9{j:Nat}{v:Value}{s':MSt}(h:MAt C M W s)(E:j=10∨j=11∨j=12)(g:s'.H=s.H)(m:s'.log=s.log)(p:s'.seen=s.seen)(u:s'.owners=s.owners)(h5:s'.clos=s.clos)
 (y:∃x,W.cell? ⟨C.mb,j,none⟩=some x)(hx:∀o x,(o,x)∈lH C s'->o=j∧x=v∨o≠j∧(o,x)∈lH C s):MAt C M (W.setCell ⟨C.mb,j,none⟩ v) s'∧MFr M M W (W.setCell ⟨C.mb,j,none⟩ v):=
 h.scalar O' g m p u h5 (λi hi=>by
  match i,hi with
  |0,_=>show 2≠j;omega
  |1,_=>show 6≠j;omega
  |2,_=>show 8≠j;omega
  |3,_=>show 9≠j;omega) y hx
theorem Zoc(h:MAt C M W s)(v:Int):MAt C M (W.setCell ⟨C.mb,10,none⟩ (vI v)) {s with glob:=v}∧MFr M M W (W.setCell ⟨C.mb,10,none⟩ (vI v)):=
 Za9 h (.inl rfl) rfl rfl rfl rfl rfl ⟨_,h.cell 10 (vI s.glob) Pl⟩ (λo x hx=>by
  simp only[lH,List.mem_cons,Prod.mk.injEq,List.not_mem_nil,or_false]at hx ⊢;rcases hx with h|h|h|h|h|h|h|h|h|h|h<;>(obtain⟨rfl,rfl⟩:=h;simp))
theorem Zm8(h:MAt C M W s)(v:Int):MAt C M (W.setCell ⟨C.mb,11,none⟩ (vI v)) {s with outer:=v}∧MFr M M W (W.setCell ⟨C.mb,11,none⟩ (vI v)):=
 Za9 h (.inr (.inl rfl)) rfl rfl rfl rfl rfl ⟨_,h.cell 11 (vI s.outer) Pl⟩ (λo x hx=>by
  simp only[lH,List.mem_cons,Prod.mk.injEq,List.not_mem_nil,or_false]at hx ⊢;rcases hx with h|h|h|h|h|h|h|h|h|h|h<;>(obtain⟨rfl,rfl⟩:=h;simp))
theorem Zsc(h:MAt C M W s)(v:Int):MAt C M (W.setCell ⟨C.mb,12,none⟩ (vI v)) {s with top:=v}∧MFr M M W (W.setCell ⟨C.mb,12,none⟩ (vI v)):=
 Za9 h (.inr (.inr rfl)) rfl rfl rfl rfl rfl ⟨_,h.cell 12 (vI s.top) Pl⟩ (λo x hx=>by
  simp only[lH,List.mem_cons,Prod.mk.injEq,List.not_mem_nil,or_false]at hx ⊢;rcases hx with h|h|h|h|h|h|h|h|h|h|h<;>(obtain⟨rfl,rfl⟩:=h;simp))
theorem MAt.gl(h:MAt C M W s):vC W C.mb 10 (vI s.glob)∧vC W C.mb 11 (vI s.outer)∧vC W C.mb 12 (vI s.top):=
 ⟨h.cell 10 _ Pl,h.cell 11 _ Pl,h.cell 12 _ Pl⟩
end
section
variable {C:RCtx}{M M':MRep}{w w':World}{s s':MSt}{B:Nat}{a:ATree}{V:VF}{D:DF}{b:Int}{sc:Int}{fr:Frm}{d:Nat}
theorem Zi7{D:DF}{k:NT}{l:List NT}:p' D sc fr (k::l) s=match D k sc fr s with
 |(s1,.ok (true,v))=>(s1,.ok (true,v))
 |(s1,.ok (false,_))=>p' D sc fr l s1
 |(s1,.error e)=>(s1,.error e):=by
 simp only[p',gE];rcases D k sc fr s with⟨s1,e|⟨_|_,v⟩⟩<;>rfl
theorem ZB(cZ:Dl C D b)(hD:DH D b)(h:MAt C M w s)(hI:Inv s d)(hA:FAt s sc fr)(hb:b<=s.steps)(hs:s.steps<=20000)(ha:TreeAt w B a)(hf:a.free M)(hn:a.kids.length<=1500)
 (bG:∀x∈a.kids,(x.nt C.N).wf .s∧(x.nt C.N).tree.many<=1500) :
 Calls Tryz.prog 22 #[vP C.mb,a.v,vI sc,.agg #[.bool fr.strict,vI fr.vars]] w λe w'=>iz C M w (p' D sc fr (a.kids.map (ATree.nt C.N)) s) e w':=by
 obtain⟨R,g⟩:=zX (p' D sc fr (a.kids.map (ATree.nt C.N)) s)
 rw[<-g];refine Kz ?_;intro aI lf lr z hz;rw[<-hz]at aI lf lr;have aE:=h.below aI;have aJ:=ha.bel aI;obtain⟨q,hq⟩:=zX a.kids.length
 obtain⟨P,p⟩:=zX a.kids
 rw[<-p]at bG g;obtain⟨pp,cp,Z,cr,eu,dc⟩:=jm.slice aJ.rowOf;rw[<-hq]at Z cr hn;rw[<-p]at dc;rw[Z];have mQ:=lh g;have ip:=lh hI;have ar:=lh lr;refine DX ?_;intro dH bJ HM HO HE;have fI:=lh aJ;have ea:=lh hf;have HA:=lh hA;have pF:=lh bG;have qm:=lh Z;have tV:=lh dc;have HP:=lh p;have HQ:=lh (show q=P.length by rw[hq,p]);have iX:=lh cZ;have HD:=lh hD;have dB:=lh (And.intro hb hs);have HZ:=lh hz;have ng:q<=9223372036854775807:=O'
 clear hz aE lf lr aI aJ ha hf h hI hA g Z dc p hq bG cZ hD hb hs;go_enter Tryz.func22,Tryz.ntmps22
 go_wp2_with fail
 rw[<-HZ.o];go_loopw [18] (λi wr=>∃(k:Nat) (Mk:MRep) (m:MSt),k<=q∧i=(vI k)∧Hid (MAt C Mk wr m)∧Hid (MFr M Mk z wr)∧Hid (Inv m d)∧Hid (Ext s m∧m.steps<=20000)∧Hid (R=p' D sc fr ((P.drop k).map (ATree.nt C.N)) m)) (λi _=>q-(intOf i).toNat)
 case atStart=>exact⟨0,M,s,Yh _,rfl,HM,lh (.refl _ _),ip,lh ⟨Ext.refl s,dB.o.2⟩,lh (by rw[List.drop_zero];exact mQ.o)⟩
 case round=>
  obtain⟨k,Mk,m,hk,rfl,da,F,eA,dO,dY⟩:=hrel;by_cases bV:k<q
  .obtain⟨x,hx⟩:∃x,P[k]? =some x:=⟨_,Y6 Qg⟩
   obtain⟨g0,hp⟩:=tV.o k x hx;subst hp;have aU:x∈P:=Yd hx;have bN:x∈a.kids:=by rw[<-HP.o];exact aU
   obtain⟨wx,mx⟩:=pF.o x aU;have dT:=F.o.tree fI.o ea.o;have ae:=dT.1.rowOf;rw[qm.o]at ae;have cx:wr.cell? ⟨g0,k,none⟩=some (vP x.b):=jm.cell ae (b:=g0) rfl (by rw[<-HP.o];exact hx);obtain⟨f0,f1⟩:=(dH.o.fr F.o).two;obtain⟨r1,bA⟩:=zX (D (x.nt C.N) sc fr m)
   have u:=dO.o;have gM:b<=m.steps:=Int.le_trans dB.o.1 u.1.steps;have bF:=lh (iX.o.from da.o eA.o (HA.o.ext u.1) gM u.2 wx mx (dT.1.kid bN) (dT.2.kid bN) wr (Y2 _ _));have aj:=(HD.o (x.nt C.N) sc fr m _ wx mx eA.o (HA.o.ext u.1) gM u.2).1;have g:=dY.o;rw[show P.drop k=x::P.drop (k+1) by
    obtain⟨hl,he⟩:=List.getElem?_eq_some_iff.1 hx;rw[List.drop_eq_getElem_cons hl,he],List.map_cons,Zi7]at g
   rw[<-bA]at bF aj g;have y:=lh g;have bR:=lh aj;clear g aj bA dT ae aU bN u gM;go_wp2_with fail
   refine bF.o.mono ?_;rintro e E⟨M1,bk,k1,n1,t1,bU,rfl,ai⟩;have F1:=F.o.trans ai.2.1;have tW:=Lo.new (wE:=z) ai.1 F1.size (Y4 HO.o HE.o) #[vI k1,vI n1,.string t1] 55;obtain⟨W2,gQ⟩:=zX (E.alloc (vO k1 n1 t1))
   have au:=Z1 E (vO k1 n1 t1);unfold vO at gQ au;rw[<-gQ]at tW au;obtain⟨b0,b1,b2,-,-,-⟩:=tW.six;have j7:=lh tW;have av:=lh ai;have bw:=lh F1;have aO:=lh au;have fH:=lh gQ;have li:E.heap.size≠w.heap.size+1:=by have:=ar.o.lt;have h2:=bw.o.size;omega
   have aZ:=lh (bw.o.trans (.of_below aO.o));obtain⟨I,J,O,z0,z1,z2⟩:=(ar.o.fr aZ.o).six;clear ai F1 tW au gQ f0 f1 cx;simp only[ag];obtain⟨s1,jw⟩:=r1;cases jw with
   | error U =>
     have he:ak C M1 E U bU:=av.o.2.2;have o:R=(s1,.error U):=y.o;clear y;subst o;have ej:=lh (he.bel aO.o);obtain⟨T1,P1,rfl,p⟩:=he.ne;clear he;cases bk
     all_goals
      go_wp2_with fail
      rw[<-fH.o];obtain⟨p1,Y⟩:=zX E.heap.size
      rw[<-Y]at b0 b1 b2 li ⊢;clear Y;refine Zu5 ?_;refine mA ?_
     .skip
      go_wp2;refine bodyPost_ret (v:=.tuple #[.bool false,.agg #[vI k1,vI n1,.string t1],.iface T1 (.pointer P1)]) ?_ rfl ?_;·simp[results,Tryz.results22,go_sem,I,J,O]
      .exact Zug
     .skip
      go_wp2;refine bodyPost_ret (v:=.tuple #[.bool true,.agg #[vI k1,vI n1,.string t1],.iface T1 (.pointer P1)]) ?_ rfl ?_;·simp[results,Tryz.results22,go_sem,I,J,O]
      .exact Zug
   | ok v1 =>
     obtain⟨rfl,rfl⟩:v1=(bk,⟨k1,n1,t1⟩)∧bU=.nilIface:=av.o.2.2;cases bk
     .have o:R=p' D sc fr ((P.drop (k+1)).map (ATree.nt C.N)) s1:=y.o;have bD:=lh o;clear y o;obtain⟨i1,U,-,ey,i2⟩:=bR.o;have eL:=lh i1;have lg:=lh (And.intro (dO.o.1.trans U) i2);clear i1 U ey i2;go_wp2_with fail
      rw[<-fH.o];go_roundw
      case rel=>exact⟨k+1,M1,s1,by omega,by go_num,lh (av.o.1.below aO.o),aZ,eL,lg,bD⟩
      case measure=>simp[intOf];omega
     .have o:R=(s1,.ok (true,⟨k1,n1,t1⟩)):=y.o;clear y;subst o;go_wp2_with fail
      rw[<-fH.o];obtain⟨p1,Y⟩:=zX E.heap.size
      rw[<-Y]at b0 b1 b2 li ⊢;clear Y;refine Zu5 ?_;refine mA ?_;go_wp2;refine bodyPost_ret (v:=.tuple #[.bool true,.agg #[vI k1,vI n1,.string t1],.nilIface]) ?_ rfl ?_;·simp[results,Tryz.results22,go_sem,I,J,O]
      .exact .fine ar.o bJ.o (av.o.1.below aO.o).drew (aZ.o.trans (.drew (.refl _ _)))
  .have aR:k=q:=by omega
   subst aR;have g:=dY.o;rw[List.drop_eq_nil_of_le Qr]at g;have o:R=(m,.ok (false,⟨0,0,⟨#[]⟩⟩)):=g;subst o;obtain⟨I,J,O,z0,z1,z2⟩:=(ar.o.fr F.o).six;clear g dY;go_wp2;refine bodyPost_ret (v:=.tuple #[.bool false,.agg #[vI 0,vI 0,.string ⟨#[]⟩],.nilIface]) ?_ rfl ?_;·simp[results,Tryz.results22,go_sem,I,J,O]
   .exact .fine ar.o bJ.o da.o F.o
end
section
variable {C:RCtx}{M M':MRep}{w w':World}{s s':MSt}{B:Nat}{a:ATree}{V:VF}{D:DF}{b:Int}{sc:Int}{fr:Frm}{d:Nat}
theorem Z6l{p:MSt->ByteArray->MSt}{g:MSt->ByteArray->LVal->MSt}{x:NT}{l:List NT}:s.funcs p g (x::l) sc fr=(g ((p s x.text).funS x sc fr) x.text (.ref (p s x.text).nextO)).funcs p g l sc fr:=rfl
theorem XU(F:C.Ok)(h:MAt C M w s)(hI:Inv s (d+4))(m:TreeAt w B a)(hf:a.free M)(g:zU (a.nt C.N))(sc:Int)(fr:Frm)(o:0<=sc)(u:sc<s.H.scopes.length) :
 Calls Tryz.prog 21 #[vP C.mb,a.ptr,vI sc,.agg #[.bool fr.strict,vI fr.vars]] w λe w'=>e=.returned (.agg #[vI 5,vI s.nextO,.string ⟨#[]⟩])∧Does C M w (s.funS (a.nt C.N) sc fr) w':=by
 obtain⟨p,b,hk,-⟩:=Z7x g;rw[Zq,yn]at hk;obtain⟨pn,body,E⟩:∃pn body,a.kids=[pn,body]:=by
  match hl:a.kids,hk with
  | [],hk=>simp at hk
  | [x],hk=>simp at hk
  | [x,y],hk=>exact⟨x,y,rfl⟩
  |x::y::z::l,hk=>simp at hk
 cases hnm:(a.nt C.N).named;·exact Zat h hI m hf E hnm sc fr o u g
 .exact Z9j F h hI m hf E hnm sc fr o u g
theorem Zhr(hC:C.Ok)(cZ:Dl C D b)(hD:DH D b)(h:MAt C M w s)(hI:Inv s (d+12000))(hA:FAt s sc fr)(hb:b<=s.steps)(hs:s.steps<=20000)(ha:TreeAt w B a)(hf:a.free M)(hst:(a.nt C.N).stm)(hm:(a.nt C.N).tree.many<=1500)(OL:a.many<=1500) :
 Calls Tryz.prog 80 #[vP C.mb,a.ptr,vI sc,.agg #[.bool fr.strict,vI fr.vars]] w λe w'=>iz C M w (Uu D (a.nt C.N) sc fr s) e w':=by
 obtain⟨R,hR⟩:=zX (Uu D (a.nt C.N) sc fr s)
 rw[<-hR];unfold Uu at hR;rw[Z92,Zq,yn]at hR;have an:=TG hst hm;have Jw:a.kids.length<=1500:=PJ
 refine Kz ?_;intro aI lf lr z hz;rw[<-hz]at aI lf lr;have aE:=h.below aI;have aJ:=ha.bel aI;refine NU ?_;intro q hq pp cp co cr eu dc;rw[<-hq]at co cr;have HC:=lh hC;have qm:=lh co;have ar:=lh lr;refine DX ?_;intro dH bJ HM HO HE;have u:=lh aJ;have F:=lh hf;have HA:=lh hA;have HI:=lh hI;have HN:=lh Jw;have pF:=lh (show∀x∈a.kids,(x.nt C.N).wf .s∧(x.nt C.N).tree.many<=1500 from λx hx=>an (x.nt C.N) P9);have iX:=lh cZ;have HD:=lh hD;have dB:=lh (And.intro hb hs)
 have HZ:=lh hz;have rM:=lh (Z9v false z B a aJ O');obtain⟨nl,tF⟩:=zX (FR false a)
 rw[<-tF]at rM hR;have mQ:=lh hR;have vV:=lh (And.intro hst hm);clear hz aE lf lr aI aJ ha hf h hI hA hR co dc hq an Jw cZ hD hb hs hC hst hm tF;unfold ATree.ptr at rM ⊢;go_enter Tryz.func80,Tryz.ntmps80
 go_wp2_with fail
 rw[<-HZ.o];refine rM.o.mono ?_;rintro e w1⟨v1,rfl,ni,aL⟩;obtain⟨p1,OM,rfl,Me,Mf,Fm⟩:=ni.form2;have av:=lh aL;have Y:=lh (MFr.of_below (M:=M) aL);have bZ:=lh (HM.o.below aL);clear ni aL Fm;cases hn0:nl.isEmpty
 .have h0:decide (0<nl.length)=true:=by
   cases nl with
   |nil=>simp at hn0
   |cons x l=>simp
  have y:=mQ.o;rw[hn0]at y;simp only[Bool.false_eq_true,if_false]at y;have gA:=lh y;have eP:=HI.o.opens (d:=d+11999) (outer:=sc) (object:=-1) (owner:=C.N a.b) (by have:=HA.o.lo;omega) HA.o.hi O' O';obtain⟨nx,eG⟩:=zX s.next
  obtain⟨Z,aV⟩:=zX (s.opens sc (-1) (C.N a.b))
  have nn:=FAt.opens HA.o eP.2;rw[<-aV,<-eG]at nn;rw[<-aV]at eP;have iJ:Z.steps=s.steps∧Z.calls=s.calls:=by rw[aV];exact⟨rfl,rfl⟩
  have oC:=lh (Z5l HC.o bZ.o (u.o.bel av.o));simp only[ATree.ptr]at oC;have eO:=TE bZ.o HI.o sc (-1) (C.N a.b);rw[<-aV,<-eG]at eO;have jK:=lh eO;obtain⟨I,cf⟩:=zX (Z.lets (a.nt C.N).lets nx)
  have fB:=TC (s:=Z) (l:=(a.nt C.N).lets) (sc:=nx) (d:=d+10000) (eP.1.less (by have:=UW (n:=a.nt C.N);have:=Hv (n:=a.nt C.N);have:=vV.o.2;omega));rw[<-cf]at fB;have tK:I.steps=Z.steps∧I.calls=Z.calls:=by rw[cf];exact⟨WH.2,WH.1⟩
  obtain⟨Q,hQ⟩:=zX (a.kids.filter wW)
  have am:R=p' D nx fr (a.kids.map (ATree.nt C.N)) (I.funcs (λs _=>s) (λt a v=>t.declare nx a 0 v) (Q.map (ATree.nt C.N)) nx fr):=by
   rw[gA.o,eG];unfold MSt.blockS;rw[Wz,<-aV,<-eG,<-cf,VB,<-hQ]
  have Jx:Q.length<=1500:=by rw[hQ];exact Y4 (List.length_filter_le _ _) HN.o
  have qp:=lh (show∀x∈Q,zU (x.nt C.N)from λx hx=>TK vV.o.1 vV.o.2 (x.nt C.N) (by rw[VB,<-hQ];exact List.mem_map.2 ⟨x,hx,rfl⟩));have Mg:=lh (show∀x∈Q,x∈a.kids from λx hx=>(List.mem_filter.1 (hQ▸hx)).1);have na:=lh eP;have xR:=lh fB;have Fo:=lh nn;have Jy:=lh (And.intro iJ tK);have bD:=lh am;have kj:=lh cf;have HQ:=lh hQ;have Jz:=lh Jx;clear mQ gA y eP nn iJ eO fB tK am eG aV cf hQ Jx;go_wp2_with fail
  refine oC.o.mono ?_;rintro e w2⟨rfl,rfl⟩;go_wp2_with fail
  refine jK.o.mono ?_;rintro e w3⟨rfl,M3,dL,bq⟩;have bE:=lh (Y.o.trans bq);have dq:=lh dL;clear dL bq;have aA:=Z82 dq.o (d:=d+10000) (na.o.1.less Qj) (bE.o.tree u.o F.o).1 (bE.o.tree u.o F.o).2 Qj nx;rw[<-kj.o]at aA;have sj:=lh aA;simp only[ATree.ptr]at sj;clear aA;go_wp2_with fail
  refine sj.o.mono ?_;rintro e w4⟨rfl,M4,fN,bh⟩;have kC:=lh (bE.o.trans bh);have jg:=lh fN;clear fN bh;have qq:=Vw w4 B a (kC.o.tree u.o F.o).1 Qj;rw[<-HQ.o]at qq;have mw:=lh qq;simp only[ATree.ptr]at mw;clear qq;go_wp2_with fail
  refine mw.o.mono ?_;rintro e w5⟨v5,rfl,gP,eS⟩;obtain⟨p5,qf,rfl,jp,mP,fQ⟩:=gP.slice;have gR:∀g,(Value.slice p5 Q.length qf).ownBlock=some g->¬M4.has g:=λg hg=>jg.o.fresh (Y9 gP g hg).1;obtain⟨m,fq⟩:=zX Q.length
  rw[<-fq]at jp gP gR ⊢;have rc:=lh (jg.o.below eS);have re:=lh (kC.o.trans (.of_below eS));have N5:=lh gP;have lV:=lh gR;have jq:=lh fQ;have d7:=lh fq;have mm:m<=9223372036854775807:=by have:=Jz.o;omega
  clear gP eS fQ gR fq;go_wp2_with fail
  go_loopw [30] (λi wr=>∃(k:Nat) (J:MRep) (o:MSt),k<=m∧i=(vI k)∧Hid (MAt C J wr o)∧Hid (MFr M4 J w5 wr)∧Hid (Inv o (d+6*(m-k)))∧Hid (Ext I o∧o.steps=I.steps)∧Hid (R=p' D nx fr (a.kids.map (ATree.nt C.N)) (o.funcs (λs _=>s) (λt a v=>t.declare nx a 0 v) ((Q.drop k).map (ATree.nt C.N)) nx fr))) (λi _=>m-(intOf i).toNat)
  case atStart=>exact⟨0,M4,I,Yh _,rfl,rc,lh (.refl _ _),lh (xR.o.1.less (by have:=Jz.o;have:=d7.o;omega)),lh ⟨Ext.refl _,rfl⟩,lh (by rw[List.drop_zero];exact bD.o)⟩
  case round=>
   obtain⟨k,J,o,hk,rfl,da,bH,eA,dO,dY⟩:=hrel;by_cases bV:k<m
   .obtain⟨x,hx⟩:∃x,Q[k]? =some x:=⟨_,Y6 Pr⟩
    obtain⟨g0,hp⟩:=jq.o k x hx;subst hp;have aU:x∈Q:=Yd hx;have bN:=Mg.o x aU;have cx:=(bH.o.nodes N5.o lV.o).cell rfl hx;have E:=lh (re.o.trans bH.o);have dT:=E.o.tree u.o F.o;have mg:=dT.1.kid bN;have f8:=dT.2.kid bN;have nJ:=eA.o.less (d':=d+6*(m-(k+1))+6) O';have gD:0<=nx∧nx<o.H.scopes.length:=⟨Fo.o.lo,by have h1:=Fo.o.hi;have h2:=xR.o.2.ls;have h3:=dO.o.1.ls;omega⟩
    have gS:=XU HC.o da.o.drew (d:=d+6*(m-(k+1))+2) (nJ.less O') mg.drew f8 (qp.o x aU) nx fr gD.1 gD.2;obtain⟨no,dM⟩:=zX o.nextO
    obtain⟨sf,ju⟩:=zX (o.funS (x.nt C.N) nx fr)
    rw[<-dM,<-ju]at gS;have iC:=lh gS;simp only[ATree.ptr]at iC;obtain⟨j1,j2,j3⟩:=WU (d:=d+6*(m-(k+1))+1) (n:=x.nt C.N) (sc:=nx) (fr:=fr) (nJ.less O') (qp.o x aU) gD.1 gD.2;have vW:=(XH (s:=o) (sc:=nx) (fr:=fr) (n:=x.nt C.N)).2;rw[<-ju]at j1 j2 j3 vW;obtain⟨l1,l2⟩:=Ta (d:=d+6*(m-(k+1))) (sc:=nx) (name:=x.text) (kind:=0) (v:=.ref no) j1 (N' (by rw[dM];show(0:Int)<=o.H.objects.length;omega) (by rw[j3,dM];show(o.H.objects.length:Int)<_;omega)) Pa Pa
    have hR:=dY.o;rw[show Q.drop k=x::Q.drop (k+1) by
     obtain⟨hl,he⟩:=List.getElem?_eq_some_iff.1 hx;rw[List.drop_eq_getElem_cons hl,he],List.map_cons,Z6l,Zz,<-ju,<-dM]at hR
    have lp:=lh (show∀W M',MFr J M' wr W->vC W x.b 1 (.string x.text)∧vC W w.heap.size 0 (.bool fr.strict)∧vC W w.heap.size 1 (vI fr.vars)from
     λW M' f=>⟨(f.tree mg f8).1.c1,(dH.o.fr (E.o.trans f)).cell rfl,(dH.o.fr (E.o.trans f)).cell rfl⟩)
    have dU:=lh hR;have Mi:=lh j1;have j7:=lh l1;have lg:=lh (show Ext I (sf.declare nx x.text 0 (.ref no))∧(sf.declare nx x.text 0 (.ref no)).steps=I.steps from⟨(dO.o.1.trans j2).trans l2,vW.trans dO.o.2⟩);clear aU bN dT mg f8 nJ gD gS dM ju j1 j2 j3 vW l1 l2 hR;go_wp2_with fail
    refine oi [(true,0),(true,1),(true,2),(true,3),(true,4),(true,5),(true,6),(true,7),(true,8),(true,9),(true,10),(true,11),(false,12)] [13] (λW=>vC W x.b 1 (.string x.text)∧vC W w.heap.size 0 (.bool fr.strict)∧vC W w.heap.size 1 (vI fr.vars)) (lp.o _ _ (.drew (.refl _ _))) (λbu=>?_);refine ep ?_;refine Z6 (λK hK=>?_);go_simp
    refine iC.o.mono ?_;rintro e w7⟨rfl,M7,kw,dK⟩;have F7:=(MFr.drew (.refl J wr)).trans dK;refine hK _ _ (lp.o _ _ F7) ?_;clear hK K cx;have fm:=TN kw Mi.o nx x.text 0 (.ref no);simp only[LVal.agg,LVal.ref]at fm;have lW:=lh fm;have tB:=lh (bH.o.trans F7);clear kw dK F7 fm;refine Z0 ?_;go_wp2_with fail
    refine lW.o.mono ?_;rintro e w8⟨rfl,M8,tX,sK⟩;have Fp:=lh tX;have Fq:=lh (tB.o.trans sK);clear tX sK;go_wp2_with fail
    go_roundw
    case rel=>exact⟨k+1,M8,_,by omega,by go_num,Fp,Fq,j7,lg,dU⟩
    case measure=>simp[intOf];omega
   .have aR:k=m:=by omega
    subst aR;have hR:=dY.o;rw[List.drop_eq_nil_of_le Pz]at hR;have HR:=lh (show R=p' D nx fr (a.kids.map (ATree.nt C.N)) o from hR);have E:=lh (re.o.trans bH.o);have Mj:=lh ((Fo.o.ext xR.o.2).ext dO.o.1);have qP:=lh (show b<=o.steps∧o.steps<=20000 by have h1:=dO.o.2;have h2:=Jy.o.1.1;have h3:=Jy.o.2.1;have h4:=dB.o;omega);clear hR dY
    have uH:=lh (show∀p M',MFr J M' wr p->vC p w.heap.size 0 (.bool fr.strict)∧vC p w.heap.size 1 (vI fr.vars)∧vC p a.b 3 (.slice pp q cp)from
     λp M' f=>⟨(dH.o.fr (E.o.trans f)).cell rfl,(dH.o.fr (E.o.trans f)).cell rfl,by have:=((E.o.trans f).tree u.o F.o).1.c3;rwa[qm.o]at this⟩)
    have O:=E.o.tree u.o F.o;have hst:=ZB iX.o HD.o da.o.drew eA.o Mj.o qP.o.1 qP.o.2 O.1.drew O.2 HN.o pF.o;rw[qm.o]at hst;have nh:=lh (Calls.dres hst);clear O hst;go_wp2_with fail
    refine XP ?_;intro bu K hK;rintro e W9⟨M9,b9,k9,n9,t9,BG,rfl,U⟩;have X:=(MFr.drew (.refl J wr)).trans U.2.1;refine hK _ _ (uH.o _ _ X) ?_;clear hK K;have fT:=lh U;have qZ:=lh (E.o.trans X);clear U X;simp only[ag];refine ep ?_;refine Z0 ?_;obtain⟨q0,q1,q2,z0,z1,z2⟩:=(ar.o.fr qZ.o).six;have hR:=HR.o;obtain⟨r9,Df⟩:=zX (p' D nx fr (a.kids.map (ATree.nt C.N)) o)
    exact YI
 .have y:=mQ.o;rw[hn0]at y;simp only[if_true]at y;have HR:=lh y;have Fs:nl=[]:=List.isEmpty_iff.1 hn0;subst Fs;clear mQ y hn0
  have uH:=lh (show∀p M',MFr M M' w1 p->vC p w.heap.size 0 (.bool fr.strict)∧vC p w.heap.size 1 (vI fr.vars)∧vC p a.b 3 (.slice pp q cp)from
   λp M' f=>⟨(dH.o.fr (Y.o.trans f)).cell rfl,(dH.o.fr (Y.o.trans f)).cell rfl,by have:=((Y.o.trans f).tree u.o F.o).1.c3;rwa[qm.o]at this⟩)
  have O:=Y.o.tree u.o F.o;have hst:=ZB iX.o HD.o bZ.o.drew HI.o HA.o dB.o.1 dB.o.2 O.1.drew O.2 HN.o pF.o;rw[qm.o]at hst;have nh:=lh (Calls.dres hst);clear O hst;go_wp2_with fail
  refine XP ?_;intro bu K hK;rintro e W9⟨M9,b9,k9,n9,t9,BG,rfl,U⟩;have X:=(MFr.drew (.refl M w1)).trans U.2.1;refine hK _ _ (uH.o _ _ X) ?_;clear hK K;have fT:=lh U;have qZ:=lh (Y.o.trans X);clear U X;simp only[ag];refine ep ?_;refine Z0 ?_;obtain⟨q0,q1,q2,z0,z1,z2⟩:=(ar.o.fr qZ.o).six;have hR:=HR.o;obtain⟨r9,Df⟩:=zX (p' D sc fr (a.kids.map (ATree.nt C.N)) s)
  exact YI
end
section
variable {C:RCtx}{M M1:MRep}{w z W:World}{s:MSt}{B:Nat}{a:ATree}{d fb:Nat}{st:Bool}{A:Act}{K:Act->World->Prop}{Q:Exit->Act->World->Prop}
def Oe(s:MSt)(t:ByteArray):MSt:=if s.H.has 0 t then s else s.put 0 t LVal.zero true
theorem Zde{t:ByteArray}(h:Inv s (d+1)):Inv (Oe s t) d∧Ext s (Oe s t):=by
 unfold Oe;split;·exact⟨h.less O',Ext.refl _⟩
 .exact zq h (qC _)
theorem Zj8{t:ByteArray}:(Oe s t).glob=s.glob∧(Oe s t).outer=s.outer∧(Oe s t).top=s.top:=by
 unfold Oe;split<;>exact⟨rfl,rfl,rfl⟩
theorem Zqm(hM:MAt C M1 W s)(F:s.glob=0)(ho:s.outer=0)(ha:TreeAt W B a)(hm:a.many<=1500)(hI:Inv s (d+(yw a).length))(fr:FrA 201 (K' C w a [(6,vP fb)]) [] A)
 (I:∀A' W' M',FrA 201 (K' C w a [(6,vP fb)]) [] A'->MAt C M' W' ((a.nt C.N).vars.foldl Oe s)->MFr M1 M' W W'->K A' W')(hQ:∀c a d v w,Q (.panic c) (Act.put a d v) w->Q (.panic c) a w) :
 (fa [1,1,1,1,1,1,1,1,1,1,0]).wp Tryz.prog (Exit.then K Q) A W:=by
 rw[Tz]at I;have HL:=lh (Xv W B a ha O');obtain⟨P,hP⟩:=zX (yw a)
 obtain⟨S,mR⟩:=zX (P.foldl Oe s)
 rw[<-hP]at HL I hI;rw[<-mR]at I;have eg:=lh I;have sm:=lh mR;have HM:=lh hM;have HG:=lh (And.intro F ho);have ga:=lh hQ;unfold K' at fr;obtain⟨xt,rfl,e0,e2,e5,e6,-⟩:=Wo fr;rw[e0,e2,e5,e6];clear e0 e2 e5 e6 fr;clear hM I hP mR ha hm F ho hQ;unfold ATree.ptr at HL;conv=>arg 2;whnf
 go_wp2_with fail
 refine HL.o.mono ?_;rintro e w2⟨v2,rfl,J,ax,ny⟩;obtain⟨p2,jP,rfl,dN,fZ,dn⟩:=J.form2;have iU:∀g,(Value.slice p2 P.length jP).ownBlock=some g->g<w2.heap.size∧¬M1.has g:=λg F=>⟨(Y9 J g F).2,HM.o.fresh (Y9 J g F).1⟩;refine Ht ?_;intro q cT ng;have eY:=lh J;have lV:=lh iU;rw[<-cT]at dN hI ⊢;have gZ:=lh dn;have d7:=lh cT;have aO:=lh ax;have ip:=lh hI;clear J ax dn iU cT HL ny hI;go_wp2_with fail
 go_loopw [90] (λi wr=>∃(k:Nat) (o:MRep) (m:MSt),k<=q∧i=(vI k)∧Hid (MAt C o wr m)∧Hid (MFr M1 o w2 wr)∧Hid (Inv m (d+(q-k)))∧Hid (m.glob=0∧m.outer=0)∧Hid (S=(P.drop k).foldl Oe m)) (λi _=>q-(intOf i).toNat)
 case atStart=>exact⟨0,M1,s,Yh _,rfl,lh (HM.o.below aO.o),lh (.refl _ _),ip,HG,lh P'⟩
 case round=>
  obtain⟨k,o,m,hk,rfl,da,bH,eA,O,dY⟩:=hrel;by_cases bV:k<q
  .obtain⟨y,X⟩:∃y,P[k]? =some y:=⟨_,Y6 Pr⟩
   obtain⟨g0,hp⟩:=gZ.o k y X;subst hp;obtain⟨mF,jh⟩:=lV.o g0 rfl;have cx:=(bH.o.cell mF jh).trans (eY.o.cells rfl X);obtain⟨E,U,-⟩:=da.o.gl;rw[O.o.1]at E;rw[O.o.2]at U;have p:=dY.o;rw[show P.drop k=y::P.drop (k+1) by
    obtain⟨hl,he⟩:=List.getElem?_eq_some_iff.1 X;rw[List.drop_eq_getElem_cons hl,he],List.foldl_cons]at p
   obtain⟨u,nF⟩:=zX (Oe m y)
   have jz:=Zde (d:=d+(q-(k+1))) (t:=y) (eA.o.less O');have Y:=Zj8 (s:=m) (t:=y);rw[<-nF]at p jz Y;have HR:=lh p;have tz:=lh jz.1;have JA:=lh (show u.glob=0∧u.outer=0 from⟨Y.1.trans O.o.1,Y.2.1.trans O.o.2⟩);have Ft:=T6 da.o.drew 0 y;obtain⟨hb,cM⟩:=zX (m.H.has 0 y)
   rw[<-cM]at Ft;have Ml:=lh Ft;have vG:=lh (show u=if hb then m else m.put 0 y LVal.zero true by rw[nF,cM];rfl);clear X mF jh p jz Y Ft cM nF;go_wp2_with fail
   refine Za [(true,0),(true,1),(true,2),(true,3),(true,4),(true,5),(true,6),(true,7)] [8,9] (λW=>vC W C.mb 11 (vI 0)) Pb Pb (λc a d v w h=>ga.o c a d v w h) U (λbu=>?_);refine ep ?_;refine Z0 ?_;go_wp2_with fail
   refine Ml.o.mono ?_;rintro e W3⟨rfl,aB⟩;have dq:=lh (da.o.drew.below aB);have bE:=lh (bH.o.trans ((MFr.drew (.refl o wr)).trans (.of_below aB)));clear aB E U cx;cases hb
   .have hpt:=yB dq.o.drew eA.o 0 y LVal.zero true;have Z:u=m.put 0 y LVal.zero true:=vG.o;rw[<-Z]at hpt;simp only[LVal.agg,LVal.zero]at hpt;have kD:=lh hpt;obtain⟨E,U,-⟩:=dq.o.gl;rw[O.o.1]at E;clear Z hpt U;go_wp2_with fail
    refine Za [(true,0),(true,1),(true,2),(true,3),(true,4),(true,5),(true,6),(true,7),(true,8)] [9] (λW=>vC W C.mb 10 (vI 0)) Pb Pb (λc a d v w h=>ga.o c a d v w h) E (λbu=>?_);refine ep ?_;refine Z0 ?_;go_wp2_with fail
    refine kD.o.mono ?_;rintro e W4⟨rfl,M4,fN,bh⟩;have jg:=lh fN;have kC:=lh (bE.o.trans ((MFr.drew (.refl o W3)).trans bh));clear fN bh E;go_wp2_with fail
    go_roundw
    case rel=>exact⟨k+1,M4,u,by omega,by go_num,jg,kC,tz,JA,HR⟩
    case measure=>simp[intOf];omega
   .have Z:u=m:=vG.o;subst Z;go_wp2_with fail
    go_roundw
    case rel=>exact⟨k+1,o,u,by omega,by go_num,dq,bE,tz,JA,HR⟩
    case measure=>simp[intOf];omega
  .have aR:k=q:=by omega
   subst aR;have p:=dY.o;rw[List.drop_eq_nil_of_le Pz]at p;have am:S=m:=p;go_wp2_with fail
   exact eg.o _ _ o ⟨rfl,⟨rfl,rfl,rfl,rfl,trivial⟩,rfl⟩ PT ((MFr.of_below aO.o).trans bH.o)
theorem Zrf(g:MAt C M1 W s)(ht:s.top=1)(p:TreeAt W B a)(hf:a.free M1)(hn:a.kids.length<=1500)(hI:Inv s (d+a.kids.length))(fr:FrA 201 (K' C w a [(6,vP fb)]) [] A)
 (m:∀u o M',FrA 201 (K' C w a [(6,vP fb)]) [] u->MAt C M' o (s.lets (a.nt C.N).lets 1)->MFr M1 M' W o->K u o) :
 (fa [1,1,1,1,1,1,1,1,1,1,1,0]).wp Tryz.prog (Exit.then K Q) A W:=by
 have hl:=Z82 g hI p hf O' 1;obtain⟨S,y⟩:=zX (s.lets (a.nt C.N).lets 1)
 rw[<-y]at hl m;unfold ATree.ptr at hl;have HL:=lh hl;have X:=lh m;obtain⟨-,-,Y⟩:=g.gl;rw[ht]at Y;unfold K' at fr;obtain⟨xt,rfl,E,F,I,J,-⟩:=Wo fr;rw[E,F,I,J];clear E F I J fr;clear m g hI p hf hl y ht;conv=>arg 2;whnf
 go_wp2_with fail
 refine HL.o.mono ?_;rintro e w2⟨rfl,M2,O,U⟩;have Z:=lh O;have aZ:=lh U;clear O U;go_wp2_with fail
 exact X.o _ _ M2 ⟨rfl,⟨rfl,rfl,rfl,rfl,trivial⟩,rfl⟩ Z.o aZ.o
theorem Zn4(hC:C.Ok)(hM:MAt C M1 W s)(U:s.glob=0)(ht:s.top=1)(ha:TreeAt W B a)(hf:a.free M1)(ja:(a.nt C.N).stm∧(a.nt C.N).tree.many<=1500)(hn:a.kids.length<=1500){wF:World}(lf:Lo C M1 wF W fb #[.bool st,vI 0] 63)
 (hI:Inv s (d+6*(a.nt C.N).funcs.length))(h1:1<s.H.scopes.length)(fr:FrA 201 (K' C w a [(6,vP fb)]) [] A)
 (F:∀A' W' M',FrA 201 (K' C w a [(6,vP fb)]) [] A'->MAt C M' W' (s.funcs (λs _=>s) (λs t v=>s.put 0 t v true) (a.nt C.N).funcs 1 ⟨st,0⟩)->MFr M1 M' W W'->K A' W')(hQ:∀c a d v w,Q (.panic c) (Act.put a d v) w->Q (.panic c) a w) :
 (fa [1,1,1,1,1,1,1,1,1,1,1,1,0]).wp Tryz.prog (Exit.then K Q) A W:=by
 have X:=TK ja.1 ja.2;rw[VB]at F hI X;have HL:=lh (Vw W B a ha O');obtain⟨P,hP⟩:=zX (a.kids.filter wW)
 rw[<-hP]at HL F hI X;refine Znz ?_;intro oV;have vK:P.length<=1500:=PV
 obtain⟨S,mR⟩:=zX (s.funcs (λs _=>s) (λs t v=>s.put 0 t v true) (P.map (ATree.nt C.N)) 1 ⟨st,0⟩)
 rw[<-mR]at F;rw[Ym]at hI;have qp:=lh (show∀y∈P,zU (y.nt C.N)from λy hy=>X _ (List.mem_map.2 ⟨y,hy,rfl⟩));have qr:=lh hC;have mf:=lh (And.intro ha hf);have eg:=lh F;have ga:=lh hQ;have HM:=lh hM;have dH:=lh lf;have sm:=lh mR;have km:=lh h1;have HI:=lh hI;have HG:=lh (And.intro U ht);unfold K' at fr;obtain⟨xt,rfl,e0,e2,e5,e6,-⟩:=Wo fr;rw[e0,e2,e5,e6];clear e0 e2 e5 e6 fr;clear hC hM ha hf F hP mR hI h1 ja X hQ lf U ht;unfold ATree.ptr at HL;conv=>arg 2;whnf
 go_wp2_with fail
 refine HL.o.mono ?_;rintro e w5⟨v5,rfl,I,eS⟩;obtain⟨p5,qf,rfl,jp,mP,fQ⟩:=I.slice;have gR:∀g,(Value.slice p5 P.length qf).ownBlock=some g->¬M1.has g:=λg U=>HM.o.fresh (Y9 I g U).1;obtain⟨m,fq⟩:=zX P.length
 rw[<-fq]at jp I gR ⊢;have gy:=lh eS;have rc:=lh (HM.o.below eS);have N5:=lh I;have lV:=lh gR;have jq:=lh fQ;have d7:=lh fq;have mm:m<=9223372036854775807:=O'
 clear I eS fQ gR fq HL;go_wp2_with fail
 go_loopw [125] (λi wr=>∃(k:Nat) (u:MRep) (p:MSt),k<=m∧i=(vI k)∧Hid (MAt C u wr p)∧Hid (MFr M1 u w5 wr)∧Hid (Inv p (d+6*(m-k)))∧Hid (Ext s p)∧Hid (S=p.funcs (λs _=>s) (λs t v=>s.put 0 t v true) ((P.drop k).map (ATree.nt C.N)) 1 ⟨st,0⟩)) (λi _=>m-(intOf i).toNat)
 case atStart=>exact⟨0,M1,s,Yh _,rfl,rc,lh (.refl _ _),lh (HI.o.less Rl),lh (Ext.refl _),lh P'⟩
 case round=>
  obtain⟨k,u,p,hk,rfl,da,bH,eA,Y,dY⟩:=hrel;by_cases bV:k<m
  .obtain⟨y,hy⟩:∃y,P[k]? =some y:=⟨_,Y6 Pr⟩
   obtain⟨g0,hp⟩:=jq.o k y hy;subst hp;refine Zrp ?_;intro aU bN cx bM;have dT:=bM.o.tree mf.o.1 mf.o.2;have mg:=dT.1.kid bN;have f8:=dT.2.kid bN;have nJ:=eA.o.less (d':=d+6*(m-(k+1))+6) O';have ai:(1:Int)<p.H.scopes.length:=by have h1:=km.o;have h3:=Y.o.ls;omega
   have vb:p.glob=0:=Y.o.glob.trans HG.o.1;have vY:p.top=1:=Y.o.top.trans HG.o.2;have gS:=XU qr.o da.o.drew (d:=d+6*(m-(k+1))+2) (nJ.less O') mg.drew f8 (qp.o y aU) 1 ⟨st,0⟩ Pa ai;obtain⟨Z,J⟩:=zX p.nextO
   obtain⟨sf,ju⟩:=zX (p.funS (y.nt C.N) 1 ⟨st,0⟩)
   rw[<-J,<-ju]at gS;have iC:=lh gS;simp only[ATree.ptr]at iC;obtain⟨j1,O,j3⟩:=WU (d:=d+6*(m-(k+1))+1) (n:=y.nt C.N) (sc:=1) (fr:=⟨st,0⟩) (nJ.less O') (qp.o y aU) Pa ai;rw[<-ju]at j1 O j3;have kf:(LVal.ref Z).ok sf.H.objects.length:=N' (by rw[J];show(0:Int)<=p.H.objects.length;omega) (by rw[j3,J];show(p.H.objects.length:Int)<_;omega);obtain⟨sb,aN⟩:=zX (sf.put 0 y.text (.ref Z) true)
   have ex:=zq (d:=d+6*(m-(k+1))) (o:=0) (name:=y.text) (v:=.ref Z) (fx:=true) j1 kf;rw[<-aN]at ex;have E:=dY.o;rw[show P.drop k=y::P.drop (k+1) by
    obtain⟨hl,he⟩:=List.getElem?_eq_some_iff.1 hy;rw[List.drop_eq_getElem_cons hl,he],List.map_cons,Z6l,Zz,<-ju,<-J,<-aN]at E
   have bD:=lh E;have HJ:=lh j1;have tj:=lh ex.1;have tt:=lh ((Y.o.trans O).trans ex.2);have cJ:=lh aN;have tY:sf.glob=0:=O.glob.trans vb;have JB:sf.top=1:=O.top.trans vY
   have lp:=lh (show∀W M' s',MAt C M' W s'->s'.glob=0->s'.top=1->MFr u M' wr W->vC W C.mb 10 (vI 0)∧vC W C.mb 12 (vI 1)∧vC W y.b 1 (.string y.text)∧vC W fb 0 (.bool st)∧vC W fb 1 (vI 0)from
    λW M' s' hm g1 g2 f=>⟨by have:=hm.gl.1;rwa[g1]at this,by have:=hm.gl.2.2;rwa[g2]at this,(f.tree mg f8).1.c1,(dH.o.fr (bM.o.trans f)).cell rfl,(dH.o.fr (bM.o.trans f)).cell rfl⟩)
   have Cx:=lh (And.intro (And.intro vb vY) (And.intro tY JB));clear dT mg f8 nJ ai vb vY gS J ju j1 O j3 kf aN ex E hy aU bN tY JB;go_wp2_with fail
   refine Za [(true,0),(true,1),(true,2),(true,3),(true,4),(true,5),(true,6),(true,7),(true,8),(true,9),(true,10),(true,11),(true,12),(true,13),(true,14),(true,15),(true,16),(true,17),(false,18)] [19] (λW=>vC W C.mb 10 (vI 0)∧vC W C.mb 12 (vI 1)∧vC W y.b 1 (.string y.text)∧vC W fb 0 (.bool st)∧vC W fb 1 (vI 0)) Pb Pb (λc a d v w h=>ga.o c a d v w h) (lp.o _ _ _ da.o.drew Cx.o.1.1 Cx.o.1.2 (.drew (.refl _ _))) (λbu=>?_)
   refine ep ?_;refine Z6 (λK hK=>?_);go_simp
   refine iC.o.mono ?_;rintro e W7⟨rfl,M7,kw,dK⟩;have F7:=(MFr.drew (.refl u wr)).trans dK;refine hK _ _ (lp.o _ _ _ kw Cx.o.2.1 Cx.o.2.2 F7) ?_;clear hK K cx;have hpt:=yB kw HJ.o 0 y.text (.ref Z) true;rw[<-cJ.o]at hpt;simp only[LVal.agg,LVal.ref]at hpt;have kD:=lh hpt;have tB:=lh (bH.o.trans F7);clear kw dK F7 hpt;refine Z0 ?_;go_wp2_with fail
   refine kD.o.mono ?_;rintro e W8⟨rfl,M8,tX,sK⟩;have Fp:=lh tX;have Fq:=lh (tB.o.trans sK);clear tX sK;go_wp2_with fail
   go_roundw
   case rel=>exact⟨k+1,M8,sb,by omega,by go_num,Fp,Fq,tj,tt,bD⟩
   case measure=>simp[intOf];omega
  .have aR:k=m:=by omega
   subst aR;have E:=dY.o;rw[List.drop_eq_nil_of_le Pz]at E;have am:S=p:=E;go_wp2_with fail
   exact eg.o _ _ u ⟨rfl,⟨rfl,rfl,rfl,rfl,trivial⟩,rfl⟩ PT ((MFr.of_below gy.o).trans bH.o)
end
section
variable {C:RCtx}{M M1:MRep}{w z W:World}{s:MSt}{B:Nat}{a:ATree}{d fb:Nat}{st:Bool}{A:Act}{K:Act->World->Prop}{Q:Exit->Act->World->Prop}
theorem Zkk:fa [1,1,1,1]=Code.seq (fa [1,1,1,1,0]) (Code.seq (fa [1,1,1,1,1,0]) (Code.seq (fa [1,1,1,1,1,1,0]) (Code.seq (fa [1,1,1,1,1,1,1,0]) (Code.seq (fa [1,1,1,1,1,1,1,1,0]) (Code.seq (fa [1,1,1,1,1,1,1,1,1,0]) (fa [1,1,1,1,1,1,1,1,1,1])))))):=by kernel_rfl
theorem Z5z:(MSt.new.object 0).nextO=1∧(((MSt.new.object 0).object 1).put 0 Sd (.ref 1) false).nextO=2∧Se.next=0:=by
 refine⟨rfl,?_,?_⟩;·rfl
 .rfl
theorem Zo3(hM:MAt C M z MSt.new)(ha:TreeAt z B a)(hf:a.free M)(fr:FrA 201 (K' C w a []) [] A)
 (hN:∀A' W' M' fb,FrA 201 (K' C w a [(6,vP fb)]) [] A'->MAt C M' W' zg->MFr M M' z W'->Lo C M' z W' fb #[.bool (Zj a),vI 0] 63->(fa [1,1,1,1,1,1,1,1,1,1]).wp Tryz.prog Q A' W')(hQ:∀c a d v w,Q (.panic c) (Act.put a d v) w->Q (.panic c) a w) :
 (fa [1,1,1,1]).wp Tryz.prog Q A z:=by
 have HN:=lh hN;have ga:=lh (show∀(K:Act->World->Prop) c a d v w,(Exit.then K Q) (.panic c) (Act.put a d v) w->(Exit.then K Q) (.panic c) a w from λK c a d v w h=>hQ c a d v w h);have HT:=lh (And.intro ha hf);have HO:=lh hM.old.size;obtain⟨I,m⟩:=zX (MSt.new.object 0)
 obtain⟨u2,o⟩:=zX (I.object 1)
 obtain⟨u3,u⟩:=zX (u2.put 0 Sd (.ref 1) false)
 obtain⟨u4,E⟩:=zX (u3.object 2)
 obtain⟨u5,J⟩:=zX (u4.put 0 SP (.ref 2) false)
 obtain⟨F,U⟩:=zX (u5.opens (-1) 0 (-1))
 obtain⟨u7,Au⟩:=zX (F.opens 0 (-1) 0)
 have n1:MSt.new.nextO=0:=rfl;have n2:I.nextO=1:=by rw[m];exact Z5z.1
 have n3:u3.nextO=2:=by rw[u,o,m];exact Z5z.2.1
 have n4:u5.next=0:=by rw[J,E,u,o,m];exact Z5z.2.2
 have n5:F.next=1:=by rw[U];unfold MSt.next MSt.opens;have:=n4;unfold MSt.next at this;simp only[zL,zM,zN];omega
 have g1:I.glob=0∧u2.glob=0∧u3.glob=0∧u4.glob=0∧u5.glob=0∧F.glob=0∧u7.glob=0:=by rw[Au,U,J,E,u,o,m];exact⟨rfl,rfl,rfl,rfl,rfl,rfl,rfl⟩
 have o1:F.outer=0∧u7.outer=0:=by rw[Au,U,J,E,u,o,m];exact⟨rfl,rfl⟩
 have e2:({u7 with top:=1}:MSt)=zg:=by rw[Au,U,J,E,u,o,m];rfl
 have i0:Inv MSt.new 20000:=Zl2;have i1:Inv I 19999:=by rw[m];exact(i0.object (d:=19999) Pa Pa).1
 have i2:Inv u2 19998:=by rw[o];exact(i1.object (d:=19998) Pa O').1
 have y:u2.H.objects.length=2:=by rw[o,m];rfl
 have i3:Inv u3 19997:=by rw[u];exact(zq (d:=19997) i2 (N' Pa (by rw[y];decide))).1
 have i4:Inv u4 19996:=by rw[E];exact(i3.object (d:=19996) Pa O').1
 have we:=Yw hM i0 0;rw[n1,<-m]at we;have Av:=lh we;have eL:=lh i1;have oK:=lh i2;have nQ:=lh i3;have Fv:=lh i4;have i5:Inv u5 19995:=by
  have l4:u4.H.objects.length=3:=by rw[E,u,o,m];rfl
  rw[J];exact(zq (d:=19995) i4 (N' Pa (by rw[l4];decide))).1
 have Mm:=lh i5;have l5:0<u5.H.objects.length:=by rw[J,E,u,o,m];decide
 have i6:Inv F 19994:=by rw[U];exact(i5.opens (d:=19994) O' O' Pa O').1
 have Mn:=lh i6;have Af:=lh n2;have Mo:=lh n3;have Mp:=lh n4;have Mq:=lh n5;have HG:=lh g1;have Fw:=lh o1;have nI:=lh e2;have Mr:=lh o;have Ms:=lh u;have Mt:=lh E;have Mu:=lh J;have Mv:=lh U;have Mw:=lh Au;unfold K' at fr;obtain⟨xt,rfl,e0,e2,e5,-⟩:=Wo fr;rw[e0,e2,e5];clear e0 e2 e5 fr;clear hM ha hf hQ hN n1 n2 n3 n4 n5 g1 o1 e2 i0 i1 i2 i3 i4 i5 i6 y l5 we m o u E J U Au;rw[Zkk];refine dh ?_;intro K HK;go_wp2_with fail
 refine Av.o.mono ?_;rintro e W1⟨rfl,M1,ef,dm⟩;have kN:=ef.gl.1;have Mx:=ef.fz 10;obtain⟨g,O⟩:=Zoc ef 0;have g:MAt C M1 (W1.setCell ⟨C.mb,10,none⟩ (vI 0)) I:=by
  have e:({I with glob:=0}:MSt)=I:=by have:=HG.o.1;cases I;simp only at this;subst this;rfl
  rw[e]at g;exact g
 have bZ:=lh g;have bw:=lh (dm.trans O);clear ef dm g O Av;go_wp2_with fail
 refine HK.o _ _ ?_;clear HK K kN Mx;generalize W1.setCell ⟨C.mb,10,none⟩ (vI 0)=W1 at bZ bw ⊢;have hob:=Yw bZ.o.drew eL.o 1;rw[Af.o,<-Mr.o]at hob;have lQ:=lh hob;have kN:=bZ.o.gl.1;rw[HG.o.1]at kN;clear hob;refine dh ?_;intro K HK;go_wp2_with fail
 refine Zsr ?_;intro bu K hK;rintro e W2⟨rfl,M2,aQ,aq⟩;have y:=aQ.gl.1;rw[HG.o.2.1]at y;refine hK _ _ y ?_;clear hK K;have hpt:=yB aQ oK.o 0 Sd (.ref 1) false;rw[<-Ms.o]at hpt;simp only[LVal.agg,LVal.ref,Sd]at hpt;have kD:=lh hpt;have aZ:=lh (bw.o.trans ((MFr.drew (.refl _ _)).trans aq));clear aQ aq hpt kN y lQ;refine ep ?_;refine Z0 ?_;go_wp2_with fail
 refine kD.o.mono ?_;rintro e W3⟨rfl,M3,dL,bq⟩;have dq:=lh dL;have bE:=lh (aZ.o.trans bq);obtain⟨fg,qs⟩:=zX (df (u2.H.put 0 ⟨#[112,114,105,110,116]⟩ ⟨5,1,⟨#[]⟩⟩ false).2)
 rw[<-qs];clear dL bq qs kD;go_wp2_with fail
 refine HK.o _ _ ?_;clear HK K;have hob:=Yw dq.o.drew nQ.o 2;rw[Mo.o,<-Mt.o]at hob;have lQ:=lh hob;have kN:=dq.o.gl.1;rw[HG.o.2.2.1]at kN;clear hob;refine dh ?_;intro K HK;go_wp2_with fail
 refine Zsr ?_;intro bu K hK;rintro e W4⟨rfl,M4,fN,bh⟩;have y:=fN.gl.1;rw[HG.o.2.2.2.1]at y;refine hK _ _ y ?_;clear hK K;have hpt:=yB fN Fv.o 0 SP (.ref 2) false;rw[<-Mu.o]at hpt;simp only[LVal.agg,LVal.ref,SP]at hpt;have kD:=lh hpt;have kC:=lh (bE.o.trans ((MFr.drew (.refl _ _)).trans bh));clear fN bh hpt kN y lQ;refine ep ?_;refine Z0 ?_;go_wp2_with fail
 refine kD.o.mono ?_;rintro e W5⟨rfl,M5,lX,em⟩;have rc:=lh lX;have re:=lh (kC.o.trans em);obtain⟨oY,Aw⟩:=zX (df (u4.H.put 0 ⟨#[101,118,97,108]⟩ ⟨5,2,⟨#[]⟩⟩ false).2)
 rw[<-Aw];clear lX em Aw kD;go_wp2_with fail
 refine HK.o _ _ ?_;clear HK K;have Y:=TE rc.o Mm.o (-1) 0 (-1);rw[Mp.o,<-Mv.o]at Y;have jK:=lh Y;have kN:=rc.o.gl.1;rw[HG.o.2.2.2.2.1]at kN;clear Y;refine dh ?_;intro K HK;go_wp2_with fail
 refine jK.o.mono ?_;rintro e W6⟨rfl,M6,ry,fM⟩;have p:=ry.gl.2.1;have My:=ry.fz 11;obtain⟨g,O⟩:=Zm8 ry 0;have g:MAt C M6 (W6.setCell ⟨C.mb,11,none⟩ (vI 0)) F:=by
  have e:({F with outer:=0}:MSt)=F:=by have:=Fw.o.1;cases F;simp only at this;subst this;rfl
  rw[e]at g;exact g
 have Ax:=lh g;have mh:=lh (re.o.trans (fM.trans O));clear ry fM g O jK kN;go_wp2_with fail
 refine HK.o _ _ ?_;clear HK K p My;generalize W6.setCell ⟨C.mb,11,none⟩ (vI 0)=W6 at Ax mh ⊢;have Y:=TE Ax.o Mn.o 0 (-1) 0;rw[Mq.o,<-Mw.o]at Y;have jK:=lh Y;have p:=Ax.o.gl.2.1;rw[Fw.o.1]at p;clear Y;refine dh ?_;intro K HK;go_wp2_with fail
 refine jK.o.mono ?_;rintro e Z⟨rfl,M7,kw,dK⟩;have Fu:=kw.gl.2.2;have Mz:=kw.fz 12;obtain⟨g,O⟩:=Zsc kw 1;rw[nI.o]at g;have yu:=lh g;have tB:=lh (mh.o.trans (dK.trans O));have ON:=lh Fw.o.2;clear kw dK g O jK p;go_wp2_with fail
 refine HK.o _ _ ?_;clear HK K Fu Mz;generalize Z.setCell ⟨C.mb,12,none⟩ (vI 1)=Z at yu tB ⊢;have p:=yu.o.gl.2.1;rw[show zg.outer=0 from rfl]at p;have JC:=tB.o.tree HT.o.1 HT.o.2;have hst:=λW (hW:Below Z.heap.size Z W)=>WN W B a (JC.1.bel hW);simp only[ATree.ptr]at hst;have nh:=lh hst;have jo:C.mb<Z.heap.size:=yu.o.mbLt;have HL:=lh (Lo.new (wE:=z) yu.o tB.o.size HO.o #[.bool (Zj a),vI 0] 63);have tA:=lh (Z1 Z (.cells #[.bool (Zj a),vI 0] 63));obtain⟨sb,aN⟩:=zX (Zj a)
 rw[<-aN]at nh HL tA HN;clear hst JC aN;refine dh ?_;intro K HK;go_wp2_with fail
 refine Z1y (.take 0 (.take 2 (.take 3 (.take 4 (.take 5 (.two 1 (.take 6 (.go 7 (.go 8 .nil))) 7 (.go 1 (.take 6 (.go 8 .nil))))))))) 8 (λW=>vC W C.mb 11 (vI 0)) Pb Pb (λc a d v w h=>ga.o _ c a d v w h) p ?_;refine lM ?_;refine Zkr ?_ ?_
 .skip
  refine mH (λK hK=>?_);refine(nh.o _ (Ze _)).mono ?_;rintro e W8⟨rfl,Ay⟩;rw[Ay];refine hK _ _ p ?_;clear hK K Ay W8;try simp only[Act.put,zA,zB,zC]
  refine lM ?_;refine mH (λK hK=>?_);refine hK _ _ ((Zb jo).trans p) ?_;clear hK K;try simp only[Act.put,zA,zB,zC]
  exact ZG
 .skip
  refine mH (λK hK=>?_);refine hK _ _ ((Zb jo).trans p) ?_;clear hK K;try simp only[Act.put,zA,zB,zC]
  refine mH (λK hK=>?_);refine(nh.o _ ((Z1 Z _).drew)).mono ?_;rintro e W8⟨rfl,Ay⟩;rw[Ay];refine hK _ _ ((Zb jo).trans p) ?_;clear hK K Ay W8;try simp only[Act.put,zA,zB,zC]
  refine lM ?_;exact ZG
end
end Go.Proofs.YtjikfacdcdiddaaGreatDoor
namespace Go.Proofs.YtjikfacdcdiddaaGreatDoor
open Go Go.RowKit Go.Extern.Stop Go.Stop Go.Extern
theorem Zlx(t:Value)(w:World) :
 Calls Tryz.prog 23 #[.nilIface,t] w λe w'=>e=.returned (.bool false)∧w'=w:=by
 go_enter Tryz.func23,Tryz.ntmps23
 go_wp2;go_ret;exact⟨rfl,rfl⟩
theorem Tryz.valueOf27U(t:Addr)(w:World):(ReflectliteValue.unpack (.iface 73 (.pointer (some t)))).run Tryz.prog w
 = .ok (.agg #[.pointer (some ⟨8,73,none⟩),vP w.heap.size,.int .u64 150]) (w.alloc (.cells #[.pointer (some t)] 73)):=by kernel_rfl
theorem Tryz.type27U(a:Addr)(w:World):(ReflectliteValue.methodAny (ReflectliteValue.valueError "reflectlite.Value.Type" 0) (λt _ _ _=>ReflectliteType.toType t) #[.agg #[.pointer (some ⟨8,73,none⟩),.pointer (some a),.int .u64 150]]).run Tryz.prog w
 = .ok (.iface 169 (.agg #[.pointer (some ⟨8,73,none⟩)])) w:=by kernel_rfl
theorem Tryz.methodKindU(h:Value)(w:World):(Go.method 371 169 (.agg #[h]) "Kind").run Tryz.prog w= .ok (181,h) w:=by kernel_rfl
theorem Tryz.kind27U(w:World):((ReflectliteType.abiMethod λt=>(λa:Nat=>Value.int IntKind.u8 (a:Int))<$>Rtype.kind t) #[.pointer (some ⟨8,73,none⟩)]).run Tryz.prog w=.ok (.int .u8 22) w:=by kernel_rfl
theorem Tryz.kind25U(w:World):((ReflectliteType.abiMethod λt=>(λa:Nat=>Value.int IntKind.u8 (a:Int))<$>Rtype.kind t) #[.pointer (some ⟨8,71,none⟩)]).run Tryz.prog w=.ok (.int .u8 22) w:=by kernel_rfl
theorem YU(z:Sem Value)(f:TypeId->Addr->Nat->Nat->Sem Value)(v:Value) :
 ReflectliteValue.method z f #[v]=(do match<-ReflectliteValue.parts v with|none=>z|some (t,a,fl)=>f t a fl (fl %32)):=rfl
theorem Tryz.parts27U(a:Addr)(w:World):(ReflectliteValue.parts (.agg #[.pointer (some ⟨8,73,none⟩),.pointer (some a),.int .u64 150])).run Tryz.prog w=.ok (some (73,a,150)) w:=by kernel_rfl
theorem Tryz.isNil27U(a p:Addr)(W:World)(g:W.cell? a=some (.pointer (some p))) :
 (ReflectliteValue.method (ReflectliteValue.valueError "reflectlite.Value.IsNil" 0) ReflectliteValue.isNil #[.agg #[.pointer (some ⟨8,73,none⟩),.pointer (some a),.int .u64 150]]).run Tryz.prog W= .ok (.bool false) W:=by
 rw[YU];simp only[Sem.run_bind,Tryz.parts27U,Result.andThen];simp[ReflectliteValue.isNil,loadVar,isAgg,underlying,Tryz.underlying73,g,Result.andThen]
theorem Tryz.methodElemU(h:Value)(w:World):(Go.method 371 169 (.agg #[h]) "Elem").run Tryz.prog w= .ok (195,.agg #[h]) w:=by kernel_rfl
theorem Tryz.methodImplementsU(h:Value)(w:World):(Go.method 371 169 (.agg #[h]) "Implements").run Tryz.prog w= .ok (196,.agg #[h]) w:=by kernel_rfl
theorem Tryz.methodAssignableToU(h:Value)(w:World):(Go.method 371 169 (.agg #[h]) "AssignableTo").run Tryz.prog w= .ok (193,.agg #[h]) w:=by kernel_rfl
theorem Tryz.elem27U(w:World):(ReflectliteType.method ReflectliteType.elem #[.agg #[.pointer (some ⟨8,73,none⟩)]]).run Tryz.prog w=.ok (.iface 169 (.agg #[.pointer (some ⟨8,71,none⟩)])) w:=by kernel_rfl
theorem Tryz.implements25U(w:World):(ReflectliteType.relation "Implements" ReflectliteType.implements_ #[.agg #[.pointer (some ⟨8,71,none⟩)],.iface 169 (.agg #[.pointer (some ⟨8,31,none⟩)])]).run Tryz.prog w= .ok (.bool true) w:=by kernel_rfl
theorem Tryz.typeOf25U(v:Value)(w:World):(ReflectliteType.typeOf #[.iface 71 v]).run Tryz.prog w=.ok (.iface 169 (.agg #[.pointer (some ⟨8,71,none⟩)])) w:=by kernel_rfl
theorem Tryz.assignable25U(w:World):(ReflectliteType.relation "AssignableTo" ReflectliteType.assignableTo #[.agg #[.pointer (some ⟨8,71,none⟩)],.iface 169 (.agg #[.pointer (some ⟨8,71,none⟩)])]).run Tryz.prog w= .ok (.bool true) w:=by kernel_rfl
theorem Tryz.valueOf25U(e:Addr)(w:World):(ReflectliteValue.unpack (.iface 71 (.pointer (some e)))).run Tryz.prog w
 = .ok (.agg #[.pointer (some ⟨8,71,none⟩),vP w.heap.size,.int .u64 150]) (w.alloc (.cells #[.pointer (some e)] 71)):=by kernel_rfl
theorem Tryz.elemOf27U(w:World):(Rtype.elem? 73).run Tryz.prog w=.ok (some 71) w:=by kernel_rfl
theorem Tryz.mk25U(p:Addr)(w:World):(ReflectliteValue.mk 71 p ReflectliteValue.flagAddr).run Tryz.prog w=.ok (.agg #[.pointer (some ⟨8,71,none⟩),.pointer (some p),.int .u64 406]) w:=by kernel_rfl
theorem Tryz.elemV27U(a p:Addr)(W:World)(g:W.cell? a=some (.pointer (some p))) :
 (ReflectliteValue.method (ReflectliteValue.valueError "reflectlite.Value.Elem" 0) ReflectliteValue.elem #[.agg #[.pointer (some ⟨8, 73, none⟩), .pointer (some a), .int .u64 150]]).run Tryz.prog W
  = .ok (.agg #[.pointer (some ⟨8,71,none⟩),.pointer (some p),.int .u64 406]) W:=by
 rw[YU];simp only[Sem.run_bind,Tryz.parts27U,Result.andThen];simp[ReflectliteValue.elem,loadVar,isAgg,underlying,Tryz.underlying73,g,Result.andThen,Tryz.elemOf27U,Tryz.mk25U]
theorem Aal(v x:Value):ReflectliteValue.set #[v,x]=(do
 let(some (dst,a,fl),some (oz,b,_)):=(<-ReflectliteValue.parts v,<-ReflectliteValue.parts x)
  |unsupported (.noEntry "extern/(internal/reflectlite.Value).Set.zeroValue")
 if fl/ReflectliteValue.flagAddr %2==0 then unsupported (.noEntry "extern/(internal/reflectlite.Value).Set.unaddressable")
 let val <-loadVar oz b
 if<-Rtype.directlyAssignable dst oz then storeVar dst a val
 else if<-Rtype.implements dst oz then
  if(<-Rtype.kind oz)==20 then
   match val with
   | .nilIface=>unsupported (.noEntry "extern/reflectlite: a nil value of one interface type handed on as a value of another")
   |_=>storeVar dst a val
  else storeVar dst a (.iface oz val)
 else panicString ("reflectlite.Set: value of type " ++(<-Rtype.spelt oz)++ " is not assignable to type " ++(<-Rtype.spelt dst))
 pure (.tuple #[])):=rfl
theorem Tryz.parts25aU(a:Addr)(w:World):(ReflectliteValue.parts (.agg #[.pointer (some ⟨8,71,none⟩),.pointer (some a),.int .u64 406])).run Tryz.prog w=.ok (some (71,a,406)) w:=by kernel_rfl
theorem Tryz.parts25U(a:Addr)(w:World):(ReflectliteValue.parts (.agg #[.pointer (some ⟨8,71,none⟩),.pointer (some a),.int .u64 150])).run Tryz.prog w=.ok (some (71,a,150)) w:=by kernel_rfl
theorem Tryz.direct25U(w:World):(Rtype.directlyAssignable 71 71).run Tryz.prog w=.ok true w:=by kernel_rfl
theorem Tryz.set25U(g b e:Addr)(old:Value)(W:World)(hb:W.cell? b=some (.pointer (some e)))(ht:W.cell? g=some old)(hf:W.frozen? g=false) :
 (ReflectliteValue.set #[.agg #[.pointer (some ⟨8, 71, none⟩), .pointer (some g), .int .u64 406], .agg #[.pointer (some ⟨8, 71, none⟩), .pointer (some b), .int .u64 150]]).run Tryz.prog W
  = .ok (.tuple #[]) (W.setCell g (.pointer (some e))):=by
 rw[Aal];simp only[Sem.run_bind,Tryz.parts25aU,Tryz.parts25U,Result.andThen];simp[ReflectliteValue.flagAddr,loadVar,isAgg,underlying,Tryz.underlying71,hb,Result.andThen,Tryz.direct25U,storeVar,Value.cells,storeCells,Addr.add];rw[run_store Tryz.prog W g _ _ Po];simp[ht,hf]
theorem Zdi(e t:Addr)(old:Value)(w:World)(hg:w.cell? ⟨1,0,none⟩=some (.iface 169 (.agg #[.pointer (some ⟨8,31,none⟩)])))(BJ:w.cell? t=some old)(m:w.frozen? t=false) :
 Calls Tryz.prog 23 #[.iface 71 (.pointer (some e)),.iface 73 (.pointer (some t))] w λev w'=>ev=.returned (.bool true)∧w'=((((w.alloc (.cells #[.pointer (some t)] 73)).alloc (.cells #[.pointer (some ⟨8,73,none⟩),vP w.heap.size,.int .u64 150] 124)).alloc (.cells #[.pointer (some ⟨8,73,none⟩),vP w.heap.size,.int .u64 150] 124)).alloc (.cells #[.pointer (some e)] 71)).setCell t (.pointer (some e)):=by
 refine YQ ?_;intro h6 h7 h8 qM lR xf nR yg C8 xh;have o:=Tryz.typeOf25U;have p:=Tryz.methodAssignableToU;have u:=Tryz.assignable25U;have y:=Tryz.valueOf25U;have E:=Tryz.valueOf27U;have F:=Tryz.type27U;have I:=Tryz.methodKindU;have J:=Tryz.methodElemU;have O:=Tryz.methodImplementsU;have U:=Tryz.kind27U;have X:=Tryz.kind25U;have Y:=Tryz.elem27U;have Z:=Tryz.implements25U
 have n8:=Tryz.isNil27U ⟨w.heap.size,0,none⟩ t ((w.alloc (.cells #[.pointer (some t)] 73)).alloc (.cells #[.pointer (some ⟨8,73,none⟩),vP w.heap.size,.int .u64 150] 124)) PE;have aA:1<w.heap.size:=by
  exact Zsz
 have jh:((w.alloc (.cells #[.pointer (some t)] 73)).alloc (.cells #[.pointer (some ⟨8,73,none⟩),vP w.heap.size,.int .u64 150] 124)).cell? ⟨1,0,none⟩=some (.iface 169 (.agg #[.pointer (some ⟨8,31,none⟩)])):=by
  exact Zvb
 have g:t.block<w.heap.size:=by
  exact Zu4
 have el:=Tryz.elemV27U ⟨w.heap.size,0,none⟩ t (((w.alloc (.cells #[.pointer (some t)] 73)).alloc (.cells #[.pointer (some ⟨8,73,none⟩),vP w.heap.size,.int .u64 150] 124)).alloc (.cells #[.pointer (some ⟨8,73,none⟩),vP w.heap.size,.int .u64 150] 124)) (by rw[World.cell?_alloc_lt _ _ ⟨w.heap.size,0,none⟩ Pe];simp)
 have st:=Tryz.set25U t ⟨w.heap.size+1+1+1,0,none⟩ e old ((((w.alloc (.cells #[.pointer (some t)] 73)).alloc (.cells #[.pointer (some ⟨8,73,none⟩),vP w.heap.size,.int .u64 150] 124)).alloc (.cells #[.pointer (some ⟨8,73,none⟩),vP w.heap.size,.int .u64 150] 124)).alloc (.cells #[.pointer (some e)] 71))
  (by rw[World.cell?_alloc_at _ _ _ _ PE];rfl)
  (by rw[World.cell?_alloc_lt _ _ t Pe,World.cell?_alloc_lt _ _ t Pe,World.cell?_alloc_lt _ _ t Pe,World.cell?_alloc_lt _ _ t g];exact BJ)
  (by rw[World.frozen?_alloc_old _ _ t Pe,World.frozen?_alloc_old _ _ t Pe,World.frozen?_alloc_old _ _ t Pe,World.frozen?_alloc_old _ _ t (Nat.ne_of_lt g)];exact m)
 exact Zv4
end Go.Proofs.YtjikfacdcdiddaaGreatDoor
namespace Go.Proofs.YtjikfacdcdiddaaGreatDoor
open Go Go.RowKit
theorem Tryz.infoES:(Tryz.prog.info? 260).isSome=true:=by kernel_rfl
theorem Zk7(b:Addr)(w:World):(binOp .eql 31 (oj b) (oj b)).run Tryz.prog w=.ok (.bool true) w:=by
 obtain⟨j,m⟩:=Option.isSome_iff_exists.1 Tryz.infoES;have h:∀d:Nat,(Op.equalIn (d+1) 241 (.pointer (some b)) (.pointer (some b))).run Tryz.prog w=.ok true w:=λd=>by
  simp[Op.equalIn,run_underlying Tryz.underlying241,sizeOf,typeInfo,m,run_sameAddr_same]
 have g:∀d:Nat,(Op.equalIn (d+1+1) 31 (oj b) (oj b)).run Tryz.prog w=.ok true w:=λd=>by
  unfold oj;rw[Op.equalIn.eq_def];have hc:(Tryz.t241).comparable=true:=Pb
  simp[run_underlying Tryz.underlying31,h d,hc]
 simp only[binOp];unfold oj at g ⊢;simp[Op.equal,Op.maxDepth,g 9998]
theorem Zp5(b:Addr)(g:Nat)(w:World):(binOp .eql 31 (qy g) (oj b)).run Tryz.prog w=.ok (.bool false) w:=by
 have m:∀d:Nat,(Op.equalIn (d+1+1) 31 (qy g) (oj b)).run Tryz.prog w=.ok false w:=λd=>by
  unfold oj qy;rw[Op.equalIn.eq_def];simp[run_underlying Tryz.underlying31]
 simp only[binOp];unfold oj qy at m ⊢;simp[Op.equal,Op.maxDepth,m 9998]
theorem Zp9(b:Addr)(w:World):(binOp .eql 31 .nilIface (oj b)).run Tryz.prog w=.ok (.bool false) w:=by
 have g:∀d:Nat,(Op.equalIn (d+1+1) 31 .nilIface (oj b)).run Tryz.prog w=.ok false w:=λd=>by
  unfold oj;rw[Op.equalIn.eq_def];simp[run_underlying Tryz.underlying31]
 simp only[binOp];unfold oj at g ⊢;simp[Op.equal,Op.maxDepth,g 9998]
