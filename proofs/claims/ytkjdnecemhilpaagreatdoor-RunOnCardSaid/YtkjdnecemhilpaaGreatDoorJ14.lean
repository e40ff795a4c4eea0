import Derived.Test.YtkjdnecemhilpaaGreatDoorJ10
set_option maxRecDepth 100000
set_option maxHeartbeats 20000000
set_option linter.all false
namespace Go.Proofs.YtkjdnecemhilpaaGreatDoor
open Go
section
variable {P:Program}{ah:Array Oper}{md:Region.Mode}{Q:Exit->Act->kV->Prop}{S:kV->Prop}{t:Nat}
def Zch{m:Array Bool}{i j:Nat}(h:i<m.size):(m.setIfInBounds i true).getD j false=if i=j then true else m.getD j false:=by
 by_cases e:i=j;·subst e;rw[Y5 rfl];simp[h]
 .rw[Y3 e,getD_set_ne false e]
def Xz(P:Program)(md:Region.Mode)(ah:Array Oper)(Q:Exit->Act->kV->Prop)(S:kV->Prop)(t:Nat):Nat->Array Bool->Act->kV->Prop
 |0,g,a,w=>Region.ready md ah g=[]/\Q .normal a w
 |fuel+1,g,a,w=>
   (Region.ready md ah g=[]->Q .normal a w)/\
   ∀i∈Region.ready md ah g,wpOp P ah Q i (λa' w'=>((g.setIfInBounds i true).getD t false=false->S w')/\Xz P md ah Q S t fuel (g.setIfInBounds i true) a' w') a w
theorem Zbd:∀(fuel:Nat) (g:Array Bool) (a:Act) (w:kV),Xz P md ah Q S t fuel g a w->wpAny P md ah Q fuel g a w
 |0,_,_,_,h=>h
 |fuel+1,_,_,_,h=>⟨h.1,λi hi=>wpOp_mono (λa' w' m=>Zbd fuel _ a' w' m.2) (h.2 i hi)⟩
def Z8l{i:Nat}{g:Oper}{v:Value}{p:kV->Prop}(hi:ah[i]?=some g)(U:∀(j:Nat) (o:Oper) cs b,ah[j]?=some o->o.op≠.select cs b)
 (hQ:∀c a w,Q (.panic c) (a.put g.dst v) w->Q (.panic c) a w)(X:i≠t) :
 ∀ (fuel : Nat) (aa : Array Bool) (a : Act) (w : kV), aa.size = ah.size →
   (∀j m,ah[j]?=some m->j≠i->aa.getD j true=false->(∀e∈m.after,Region.binds md e=true->e.on≠i)->g.apart ah m=true)->
   i∈Region.ready md ah aa->YieldsIf P ah p g v a->((waits md ah t i=true/\aa.getD t false=false/\p=S)\/p=λ_=>True)->(aa.getD t false=false->S w)->
   Xz P md ah Q S t fuel (aa.setIfInBounds i true) (a.put g.dst v) w->Xz P md ah Q S t (fuel+1) aa a w:=by
 have key:∀(aa:Array Bool) (w:kV),((waits md ah t i=true/\aa.getD t false=false/\p=S)\/p=λ_=>True)->(aa.getD t false=false->S w)->p w:=by
  intro aa w h1 F;rcases h1 with⟨_,h,rfl⟩|rfl;·exact F h
  .trivial
 have same:∀(aa:Array Bool),(aa.setIfInBounds i true).getD t false=aa.getD t false:=λl=>getD_set_ne false X;intro fuel;induction fuel with
 |zero=>
   intro aa a w _ _ hr hy h1 hS H;refine⟨λh=>(by rw[h]at hr;cases hr),λj u=>?_⟩;by_cases cK:j=i;·exact Zyg
   .have:=ready_mono u cK;rw[H.1]at this;cases this
 |succ fuel ih=>
   intro aa a w ba Y hr hy h1 hS H;refine⟨λh=>(by rw[h]at hr;cases hr),λj u=>?_⟩;by_cases cK:j=i;·exact Zyg
   .have F:=H.2 j (ready_mono u cK);obtain⟨Z,m,I,ao⟩:=mem_ready.1 u;have y:aa.getD i true=false:=(mem_ready.1 hr).1;have zE:aa.getD i false=false:=by
     rcases Nat.lt_or_ge i aa.size with J|J;·simp[J]at y ⊢;exact y
     .simp[J]
    have EJ:∀e∈m.after,Region.binds md e=true->e.on≠i:=λe he hb EK=>by
     have h1:=ao e he hb;rw[EK,zE]at h1;cases h1
    have zF:waits md ah t i=true->j≠t:=λhw e=>by
     subst e;have:=Z8s hw u;rw[zE]at this;cases this
    have h3:=wpOp_putIf I (Y j m I cK Z EJ) (λcs b=>U i g cs b hi) (λcs b=>U j m cs b I) hQ hy F
    have vF:∀k ok,ah[k]?=some ok->k≠i->(aa.setIfInBounds j true).getD k true=false->
     (∀e∈ok.after,Region.binds md e=true->e.on≠i)->g.apart ah ok=true:=λk ok hk sh y dG=>by
     refine Y k ok hk sh ?_ dG;by_cases pS:j=k;·subst pS;exact Z
     .rw[getD_set_ne true pS]at y;exact y
    refine wpOp_mono (λa' w' O=>?_) h3;have hb:(aa.setIfInBounds j true).getD t false=false->S w':=λh=>O.2.1 (by rw[Z7x,getD_set_ne false X];exact h);refine⟨hb,ih (aa.setIfInBounds j true) a' w' Rt vF (ready_mono hr (Ne.symm cK)) O.1 ?_ hb ?_⟩
    .rcases h1 with⟨q1,q2,q3⟩|q;·exact .inl ⟨q1,by rw[getD_set_ne false (zF q1)];exact q2,q3⟩
     .exact .inr q
    .rw[Array.setIfInBounds_comm _ _ cK];exact O.2.2
inductive Pl3
 |nil
 |take(i:Nat)(r:Pl3)
 |go(i:Nat)(r:Pl3)
 |two(i:Nat)(ri:Pl3)(j:Nat)(rj:Pl3)
 |three(i:Nat)(ri:Pl3)(j:Nat)(rj:Pl3)(k:Nat)(rk:Pl3)
def Pl3.len:Pl3->Nat
 | .nil=>0
 | .take _ r=>r.len+1
 | .go _ r=>r.len+1
 | .two _ r _ _=>r.len+1
 | .three _ r _ _ _ _=>r.len+1
def wD(P:Program)(md:Region.Mode)(ah:Array Oper)(Q:Exit->Act->kV->Prop)(S:kV->Prop)(t:Nat):Pl3->Bool->Act->kV->Prop
 | .nil,_,a,w=>Q .normal a w
 | .take i r,b,a,w=>∃o v,ah[i]?=some o/\((b=false/\waits md ah t i=true/\YieldsIf P ah S o v a)\/YieldsIf P ah (λ_=>True) o v a)/\wD P md ah Q S t r b (a.put o.dst v) w
 | .go i r,b,a,w=>wpOp P ah Q i (λa' w'=>((b||i==t)=false->S w')/\wD P md ah Q S t r (b||i==t) a' w') a w
 | .two i g j m,b,a,w=>wpOp P ah Q i (λa' w'=>((b||i==t)=false->S w')/\wD P md ah Q S t g (b||i==t) a' w') a w/\wpOp P ah Q j (λa' w'=>((b||j==t)=false->S w')/\wD P md ah Q S t m (b||j==t) a' w') a w
 | .three i g j m k p,b,a,w=>wpOp P ah Q i (λa' w'=>((b||i==t)=false->S w')/\wD P md ah Q S t g (b||i==t) a' w') a w/\wpOp P ah Q j (λa' w'=>((b||j==t)=false->S w')/\wD P md ah Q S t m (b||j==t) a' w') a w/\wpOp P ah Q k (λa' w'=>((b||k==t)=false->S w')/\wD P md ah Q S t p (b||k==t) a' w') a w
def vM(md:Region.Mode)(ah:Array Oper)(t:Nat):Pl3->Array Bool->Bool
 | .nil,g=>(Region.ready md ah g).isEmpty
 | .take i r,g=>(Region.ready md ah g).contains i&&Region.free md ah g i&&decide (i≠t)&&vM md ah t r (g.setIfInBounds i true)
 | .go i r,g=>decide (Region.ready md ah g=[i])&&vM md ah t r (g.setIfInBounds i true)
 | .two i m j o,g=>decide (Region.ready md ah g=[i,j])&&decide (m.len=o.len)&&vM md ah t m (g.setIfInBounds i true)&&vM md ah t o (g.setIfInBounds j true)
 | .three i m j o k p,g=>decide (Region.ready md ah g=[i,j,k])&&decide (m.len=o.len)&&decide (m.len=p.len)&&vM md ah t m (g.setIfInBounds i true)&&vM md ah t o (g.setIfInBounds j true)&&vM md ah t p (g.setIfInBounds k true)
theorem XZ(dA:Region.noSelect ah=true)(hQ:∀c a d v w,Q (.panic c) (Act.put a d v) w->Q (.panic c) a w) :
 ∀(l:Pl3) (g:Array Bool) (b:Bool) (a:Act) (w:kV),g.size=ah.size->g.getD t false=b->vM md ah t l g=true->(b=false->S w)->wD P md ah Q S t l b a w->Xz P md ah Q S t l.len g a w
 | .nil,g,b,a,w,_,_,m,_,h=>⟨by simpa[vM]using m,h⟩
 | .take i r,g,b,a,w,ba,hb,m,p,h=>by
   simp only[vM,Bool.and_eq_true,decide_eq_true_eq]at m;obtain⟨⟨⟨hr,hf⟩,F⟩,I⟩:=m;obtain⟨o,v,ho,u,h'⟩:=h;have qh:=XZ dA hQ r (g.setIfInBounds i true) b _ w Rt ((getD_set_ne false F).trans hb) I p h';rcases u with⟨h0,hw,u⟩|u;·exact Z8l ho (Region.noSelect_spec dA) (λc a w=>hQ c a _ _ w) F r.len g a w ba (Region.free_spec ho hf) (by simpa using hr) u (.inl ⟨hw,hb.trans h0,rfl⟩) (λh=>p (hb.symm.trans h)) qh
   .exact Z8l ho (Region.noSelect_spec dA) (λc a w=>hQ c a _ _ w) F r.len g a w ba (Region.free_spec ho hf) (by simpa using hr) u (.inr rfl) (λh=>p (hb.symm.trans h)) qh
 | .go i r,g,b,a,w,ba,hb,m,p,h=>by
   simp only[vM,Bool.and_eq_true,decide_eq_true_eq]at m;obtain⟨hr,I⟩:=m;obtain⟨_,o,ho,_⟩:=mem_ready.1 (show i∈Region.ready md ah g by rw[hr];simp);have ff:i<g.size:=by rw[ba];exact(Y1.1 ho).1
   have cQ:(g.setIfInBounds i true).getD t false=(b||i==t):=by
    rw[Zch ff,hb];by_cases e:i=t;·subst e;simp
    .simp[e]
   refine⟨λh0=>Sg,λk hk=>?_⟩;rw[hr]at hk;have sh:k=i:=Ru
   subst sh;exact wpOp_mono (λa' w' h'=>⟨λhh=>h'.1 (cQ.symm.trans hh),XZ dA hQ r _ _ a' w' Rt cQ I h'.1 h'.2⟩) h
 | .two i ri j J,g,b,a,w,ba,hb,m,p,h=>by
   simp only[vM,Bool.and_eq_true,decide_eq_true_eq]at m;obtain⟨⟨⟨hr,O⟩,aQ⟩,U⟩:=m;obtain⟨_,o1,X,_⟩:=mem_ready.1 (show i∈Region.ready md ah g by rw[hr];simp);obtain⟨_,o2,mN,_⟩:=mem_ready.1 (show j∈Region.ready md ah g by rw[hr];simp);have ff:i<g.size:=by rw[ba];exact(Y1.1 X).1
   have y:j<g.size:=by rw[ba];exact(Y1.1 mN).1
   have cQ:∀k,k<g.size->(g.setIfInBounds k true).getD t false=(b||k==t):=λk hk=>by
    exact Zza
   refine⟨λh0=>Sg,λk hk=>?_⟩;rw[hr]at hk;have Y:k=i\/k=j:=Ru
   rcases Y with rfl|rfl;·exact Zwh
   .show wpOp P ah Q k (λa' w'=>_/\Xz P md ah Q S t ri.len _ a' w') a w;rw[O];exact wpOp_mono (λa' w' h'=>⟨λhh=>h'.1 ((cQ _ y).symm.trans hh),XZ dA hQ J _ _ a' w' Rt (cQ _ y) U h'.1 h'.2⟩) h.2
 | .three i ri j J Z rk,g,b,a,w,ba,hb,m,p,h=>by
   simp only[vM,Bool.and_eq_true,decide_eq_true_eq]at m;obtain⟨⟨⟨⟨⟨hr,O⟩,qi⟩,aQ⟩,U⟩,hB3⟩:=m;have aA:∀x,x∈Region.ready md ah g->x<g.size:=λx hx=>by
    obtain⟨_,o1,X,_⟩:=mem_ready.1 hx;rw[ba];exact(Y1.1 X).1
   have ff:i<g.size:=aA i (by rw[hr];simp);have y:j<g.size:=aA j (by rw[hr];simp);have aY:Z<g.size:=aA Z (by rw[hr];simp);have cQ:∀k,k<g.size->(g.setIfInBounds k true).getD t false=(b||k==t):=λk hk=>by
    exact Zza
   refine⟨λh0=>Sg,λk hk=>?_⟩;rw[hr]at hk;have Y:k=i\/k=j\/k=Z:=Ru
   rcases Y with rfl|rfl|rfl;·exact Zwh
   .show wpOp P ah Q k (λa' w'=>_/\Xz P md ah Q S t ri.len _ a' w') a w;rw[O];exact wpOp_mono (λa' w' h'=>⟨λhh=>h'.1 ((cQ _ y).symm.trans hh),XZ dA hQ J _ _ a' w' Rt (cQ _ y) U h'.1 h'.2⟩) h.2.1
   .show wpOp P ah Q k (λa' w'=>_/\Xz P md ah Q S t ri.len _ a' w') a w;rw[qi];exact wpOp_mono (λa' w' h'=>⟨λhh=>h'.1 ((cQ _ aY).symm.trans hh),XZ dA hQ rk _ _ a' w' Rt (cQ _ aY) hB3 h'.1 h'.2⟩) h.2.2
def Zl6(md:Region.Mode)(ah:Array Oper)(t:Nat)(pl:Pl3):Bool:=
 Region.noSelect ah&&vM md ah t pl (Array.replicate ah.size false)&&decide (pl.len=ah.size)
def Z2d{id:Nat}{l:List Oper}{a:Act}{w:kV}(pl:Pl3)(t:Nat)(S:kV->Prop)(o:P.follows .mixedOrders=true)
 (m:Zl6 .any l.toArray t pl=true)(p:∀c a d v w,Q (.panic c) (Act.put a d v) w->Q (.panic c) a w)(u:S w.drew)
 (h:wD P .any l.toArray Q S t pl false a w.drew):(Code.region id l.toArray true).wp P Q a w:=by
 simp only[Zl6,Bool.and_eq_true,decide_eq_true_eq]at m;obtain⟨⟨y,F⟩,I⟩:=m;refine wp_region_any o ?_;have g:=Zbd _ _ _ _ (XZ (P:=P) (md:=.any) (Q:=Q) (S:=S) (t:=t) y p pl (Array.replicate l.toArray.size false) false a w.drew Qm (Z6f _ _) F (λ_=>u) h);rw[I]at g;exact g
def v7{P:Program}{Q:Exit->Act->kV->Prop}{id:Nat}{l:List Oper}{a:Act}{w:kV}(pl:Pl3)(t:Nat)(S:kV->Prop)(hS:S w.drew)
    (h:wD P .any l.toArray Q S t pl false a w.drew)(hm:P.follows .mixedOrders=true:=by kernel_rfl)(hB:Zl6 .any l.toArray t pl=true:=by kernel_rfl)(hQ:∀c a d v w,Q (.panic c) (Act.put a d v) w->Q (.panic c) a w:=by(intro _ _ d _ _ h;cases d<;>exact h)):(Code.region id l.toArray true).wp P Q a w:=
  Z2d pl t S hm hB hQ hS h
def Z7t{o:Oper}{i:Nat}{r:Pl3}{a:Act}{w:kV}(v:Value)(ho:ah[i]?=some o)(g:waits md ah t i=true)
 (hw:Region.wanted o (yielded ah a.tmps)=true)(m:∀w',S w'->(execOp a.eval o).run P w'=.ok (.value v) w')(h:wD P md ah Q S t r false (a.put o.dst v) w):wD P md ah Q S t (.take i r) false a w:=
 ⟨o,v,ho,.inl ⟨rfl,g,.inl ⟨hw,m⟩⟩,h⟩
def Z4z{o:Oper}{i:Nat}{r:Pl3}{b:Bool}{a:Act}{w:kV}(v:Value)(ho:ah[i]?=some o)
 (hw:Region.wanted o (yielded ah a.tmps)=true)(g:∀w',(execOp a.eval o).run P w'=.ok (.value v) w')(h:wD P md ah Q S t r b (a.put o.dst v) w):wD P md ah Q S t (.take i r) b a w:=
 ⟨o,v,ho,.inr (.inl ⟨hw,λw' _=>g w'⟩),h⟩
def Zpp{o:Oper}{i:Nat}{r:Pl3}{a:Act}{w:kV}(ho:ah[i]?=some o)(g:(i==t)=false)(hw:Region.wanted o (yielded ah a.tmps)=true)
 (h:∀K:Act->kV->Prop,(∀a' w',S w'->wD P md ah Q S t r false a' w'->K a' w')->o.wp P a w K Q):wD P md ah Q S t (.go i r) false a w:=by
 unfold wD wpOp;simp only[ho];rw[Y5 hw];exact .inl (h _ λa' w' m p=>⟨λ_=>m,by simpa[g]using p⟩)
def Zjf{o:Oper}{i:Nat}{r:Pl3}{b:Bool}{a:Act}{w:kV}(ho:ah[i]?=some o)(g:(b||i==t)=true)(hw:Region.wanted o (yielded ah a.tmps)=true)
 (h:∀K:Act->kV->Prop,(∀a' w',wD P md ah Q S t r true a' w'->K a' w')->o.wp P a w K Q):wD P md ah Q S t (.go i r) b a w:=by
 unfold wD wpOp;simp only[ho];rw[Y5 hw];exact .inl (h _ λa' w' p=>⟨λm=>(by rw[g]at m;cases m),by rw[g];exact p⟩)
theorem Zl5{i j:Nat}{g m:Pl3}{b:Bool}{a:Act}{w:kV}(o:wD P md ah Q S t (.go i g) b a w)(p:wD P md ah Q S t (.go j m) b a w):wD P md ah Q S t (.two i g j m) b a w:=⟨o,p⟩
theorem SH{b:Bool}{a:Act}{w:kV}(h:Q .normal a w):wD P md ah Q S t .nil b a w:=h
end
open Go.RowKit Go.Proofs.Tryz Tryz Go.Maps
def Zpi(w:kV)(s:kB)(g:s.size<=maxLen)(c0:Int)(hc:(Uw Zws).atKey (.string s.data.toList) (.lit (.int .i64 0))=.lit (.int .i64 c0)) :
 kC 139 #[.string s] w λe w'=>e=.returned (vI c0)/\kW w w':=by
 have lp:=@run_makeMap Tryz.prog;have J:=World.ownsMap_made (H:=Unit) w Tryz.prog 9 (plainElem Tryz.prog 3);have m:kW w (w.alloc (.map #[] 0)):=(Y2 _ _).alloc (Y0 _) _;have HL:=lh g;have O:=lh hc;clear g hc;go_enter func139,ntmps139
 go_wp2_with (first|(refine Zs _ rfl _ _ _ 229 rfl 9 3 dR underlying229 _ _ 0 _ rfl J Qj _ _ _ rfl rfl (Yo Yj Qg) _ [] (plainElem_int Yk Qg) ?_;intro w1 U X)|(refine Zs _ rfl _ _ _ 229 rfl 9 3 dR underlying229 _ _ 1 _ rfl U Qj _ _ _ rfl rfl (Yo Yj Qg) _ [] (plainElem_int Yk Qg) ?_;intro w2 Y Z)|(refine Zs _ rfl _ _ _ 229 rfl 9 3 dR underlying229 _ _ 2 _ rfl Y Qj _ _ _ rfl rfl (Yo Yj Qg) _ [] (plainElem_int Yk Qg) ?_;intro w3 h3 g3)|(refine Zs _ rfl _ _ _ 229 rfl 9 3 dR underlying229 _ _ 3 _ rfl h3 Qj _ _ _ rfl rfl (Yo Yj Qg) _ [] (plainElem_int Yk Qg) ?_;intro w4 h4 g4)|(refine Zs _ rfl _ _ _ 229 rfl 9 3 dR underlying229 _ _ 4 _ rfl h4 Qj _ _ _ rfl rfl (Yo Yj Qg) _ [] (plainElem_int Yk Qg) ?_;intro w5 h5 g5)|(refine Zs _ rfl _ _ _ 229 rfl 9 3 dR underlying229 _ _ 5 _ rfl h5 Qj _ _ _ rfl rfl (Yo Yj Qg) _ [] (plainElem_int Yk Qg) ?_;intro w6 h6 g6)|(refine Zs _ rfl _ _ _ 229 rfl 9 3 dR underlying229 _ _ 6 _ rfl h6 Qj _ _ _ rfl rfl (Yo Yj Qg) _ [] (plainElem_int Yk Qg) ?_;intro w7 h7 g7)|(at_lookup;refine wpList_lookup_own_int _ rfl _ _ 229 rfl 9 3 .i64 dR underlying229 Yk (Xd _) _ 7 _ rfl h7 _ _ rfl (Yo Yj HL.o) ?_;intro c gM Mp))
 go_ret;have e:=O.o.symm.trans gM;obtain rfl:c0=c:=by
  have:(DataW.lit (.int .i64 c0):DataW Unit)=.lit (.int .i64 c):=e;simpa using this
 have s0:w.heap.size<=(w.alloc (.map #[] 0)).heap.size:=m.size;have o:=Ue m X (Y0 _) s0;have p:=Ue o Z (Y0 _) o.size;have u:=Ue p g3 (Y0 _) p.size;have y:=Ue u g4 (Y0 _) u.size;have F:=Ue y g5 (Y0 _) y.size;have I:=Ue F g6 (Y0 _) F.size;exact⟨rfl,Ue I g7 (Y0 _) I.size⟩
def Zti(w:kV)(s:kB)(hs:Xo s≠0):kC 139 #[.string s] w λe w'=>e=.returned (vI (Xo s))/\kW w w':=by
 have g:s=Ez\/s=VG\/s=V3\/s=Ws\/s=Vi\/s=VM\/s=WN:=by
  exact AbT
 rcases g with rfl|rfl|rfl|rfl|rfl|rfl|rfl;all_goals exact Zpi w _ Qg _ Qh
def BN(lv:Nat)(rb:Nat):Array Value:=#[vP rb,vI lv]
def Zkf{lv:Nat}{ts:List Tok}(h:∀(i:Nat) (x:kB),(lH lv)[i]?=some x->ad x ts=false):xN lv ts=0:=by
 match lv with
 |0=>have g:=h 0 Ez rfl;simp[xN,g]
 |1=>have g:=h 0 VG rfl;simp[xN,g]
 |2=>have g:=h 0 V3 rfl;simp[xN,g]
 |3=>have g:=h 0 Ws rfl;simp[xN,g]
 |4=>have g:=h 0 Vi rfl;have m:=h 1 VM rfl;simp[xN,g,m]
 |5=>have g:=h 0 WN rfl;simp[xN,g]
 |n+6=>rfl
def Zj4{lv:Nat}{ts:List Tok}{k:Nat}{x:kB}(hk:(lH lv)[k]?=some x)(hx:ad x ts=true)(h:∀(i:Nat) (y:kB),i<k->(lH lv)[i]?=some y->ad y ts=false):xN lv ts=Xo x/\Xo x≠0:=by
 match lv with
 |0=>
   match k with
   | 0 => obtain rfl : Ez = x := by simpa [lH] using hk
          exact TU
   |k+1=>simp[lH]at hk
 |1=>
   match k with
   | 0 => obtain rfl : VG = x := by simpa [lH] using hk
          exact TU
   |k+1=>simp[lH]at hk
 |2=>
   match k with
   | 0 => obtain rfl : V3 = x := by simpa [lH] using hk
          exact TU
   |k+1=>simp[lH]at hk
 |3=>
   match k with
   | 0 => obtain rfl : Ws = x := by simpa [lH] using hk
          exact TU
   |k+1=>simp[lH]at hk
 |4=>
   match k with
   | 0 => obtain rfl : Vi = x := by simpa [lH] using hk
          exact TU
   | 1 => obtain rfl : VM = x := by simpa [lH] using hk
          have g:=h 0 Vi Qe rfl;exact⟨by simp[xN,hx,g];decide,by decide⟩
   |k+2=>simp[lH]at hk
 |5=>
   match k with
   | 0 => obtain rfl : WN = x := by simpa [lH] using hk
          exact TU
   |k+1=>simp[lH]at hk
 |n+6=>simp[lH]at hk
def Zn4(f:Nat)(m:ay 138 bO .unary f):ay 129 (BN 6) (.bin 6) (f+1):=by
 intro w rb B d ts r o hp;have hw:Z0 f .unary d ts=some r:=hp;have g:=lh (m w rb B d ts r o hw);clear o hp hw m;unfold bO at g;unfold BN;go_enter func129,ntmps129
 go_wp2;go_step3
 go_wp2_with fail
 refine g.o.mono ?_;rcases r with⟨c,p⟩|⟨t,ts'⟩;·exact TP
 .rintro e w2⟨a,rfl,u,y,hF⟩;have F:=lh u;have I:=lh y;have J:=lh hF;clear u y hF g;go_wp2;try rw[Exit.noGoto_ret]
  go_ret;exact⟨a,rfl,F.o,I.o,J.o⟩
def Zdc{P:Program}{a:Act}{w:kV}{Q:Exit->Act->kV->Prop}{c g:Code}(l:Nat)(J:Act->kV->Prop)(μ:Act->kV->Nat)(hf:findLabel c l=some (Code.skip.seq g))
 (first:(∀a w,J a w->g.wp P (Exit.jump l J Q) a w)->c.wp P (Exit.jump l J Q) a w)
 (m:∀a w,J a w->g.wp P (Exit.jump l (λa' w'=>J a' w'/\μ a' w'<μ a w) Q) a w):(Code.scope c).wp P Q a w:=
 wp_scope_jumps l J μ hf (first λa w h=>Code.wp_mono (λe a' w' hq=>by cases e<;>first|exact hq|exact⟨hq.1,hq.2.1⟩) (m a w h)) λa w h=>wp_seq (wp_skip (m a w h))
def Ab'(f lv d:Nat)(w:kV)(rb B:Nat)(r:Except (Int×Nat) (Tree×List Tok))(n:Nat)(a:ATree)(w':kV):Prop:=
 ∃(g:Nat) (us:List Tok) (t:Tree),g<=f/\Z0 g (.binLoop lv t) d us=some r/\Got w B w' a t/\Pre w' rb B d us/\RFr w w' rb/\us.length<=n
def Zo4(f lv:Nat)(dF:lv<6)(hB:∀g,g<=f->ay 129 (BN (lv+1)) (.bin (lv+1)) g):ay 129 (BN lv) (.bin lv) (f+1):=by
 intro w rb B d ts r hP hp;have hw:Zn (Z0 f (.bin (lv+1)) d ts) (λx ts=>Z0 f (.binLoop lv x) d ts)=some r:=by rw[<-hp,Z0,Y3 Qe]
 obtain⟨Y,Z,H1⟩:=ds hP hB hw;have l6:((lv:Int)==6)=false:=Qi
 have l0:0<=(lv:Int):=Qe
 have l1:(lv:Int)<6:=Qe
 have u:((lv+1:Nat):Int)=(lv:Int)+1:=Qe
 clear hP hp hw hB;unfold BN;go_enter func129,ntmps129
 go_wp2;refine Zdc 0 (λa' w'=>∃(a:ATree) (u2 u3 u6 u7 u8 u9 IT IU IV IW IX IY IZ I0 u18 I1 I2 I3 I4 I5 u24 u25 I6 I7 I8 I9 I' Ja Jb Jc Jd Je Jf Jg Jh:Value),a'={tmps:=#[vP rb,vI lv,u2,u3,.pointer none,vP a.b,u6,u7,u8,u9,IT,IU,IV,IW,IX,IY,IZ,I0,u18,I1,I2,I3,I4,I5,u24,u25,I6,I7,I8,I9,I',Ja,Jb,Jc,Jd,Je,Jf,Jg,Jh],defers:=[]}/\Ab' f lv d w rb B r ts.length a w') (λ_ w'=>leftOf w' rb) rfl (λvG=>?_) ?_
 .have vG:=lh vG;rcases Zg H1.o with⟨⟨c,p⟩,o,rfl⟩|⟨t,us,o,h2⟩
  .have m:=(Z.o f (Y0 _)) w rb B d _ _ Y.o o;unfold BN at m;rw[u]at m;have m:=lh m;clear o u;go_wp2_with fail
   refine m.o.mono ?_;exact TP
  .have m:=(Z.o f (Y0 _)) w rb B d _ _ Y.o o;unfold BN at m;rw[u]at m;have m:=lh m;have hl:=T6 o;have H2:=lh h2;clear o h2 u;go_wp2_with fail
   refine m.o.mono ?_;rintro e w2⟨a,rfl,U,an,ap⟩;have hJ:Ab' f lv d w rb B r ts.length a w2:=⟨f,us,t,Y0 _,H2.o,U,Y.o.next an ap hl,ap,hl⟩
   have HJ:=lh hJ;clear U an ap hl hJ;go_wp2_with fail
   go_step3
   rename_i Q1 K1 Mq;refine Mq _ _ (vG.o _ _ ?_);exact⟨a,_,_,_,_,_,_,_,_,_,_,_,_,_,_,_,_,_,_,_,_,_,_,_,_,_,_,_,_,_,_,_,_,_,_,_,rfl,HJ.o⟩
 .rintro a' w1⟨a,u2,u3,u6,u7,u8,u9,IT,IU,IV,IW,IX,IY,IZ,I0,u18,I1,I2,I3,I4,I5,u24,u25,I6,I7,I8,I9,I',Ja,Jb,Jc,Jd,Je,Jf,Jg,Jh,rfl,g,us,t,hg,hq,U,CG,hF,hl⟩;have G1:=lh U;have O:=lh CG;have F1:=lh hF;have RL:=lh CG.rd.left;have HL:=lh hl;have HQ:=lh hq;obtain⟨tb,off,cap,hR⟩:=CG.rd;obtain⟨sb,so,sc,cX,bZ,fZ,iX,iG⟩:=hR.lev lv dF;have EL:=lh iG;obtain⟨n,hn⟩:=zX ((lH lv).length)
  have n2:n<=2:=by rw[hn];match lv,dF with|0,_=>decide|1,_=>decide|2,_=>decide|3,_=>decide|4,_=>decide|5,_=>decide
  rw[<-hn]at fZ iX;have HN:=lh hn;have ba:sb<w1.heap.size:=Nat.lt_trans bZ hR.rlt;obtain⟨ab,bT⟩:=zX a.b
  rw[<-bT];have sx:=lh bT;clear U CG hF hl hR iG hn hq bT u;go_wp2_with fail
  go_loopw [5,20] (λv5 i wr=>v5=(vP ab)/\∃k:Nat,k<=n/\i=(vI k)/\Hid (∀(j:Nat) (y:kB),j<k->(lH lv)[j]?=some y->ad y us=false)/\Hid (kW w1 wr)) (λ_ i _=>n-(intOf i).toNat)
  case atStart=>exact⟨rfl,0,Yh _,rfl,lh (λj y hj=>by omega),lh (Y2 _ _)⟩
  case round=>
   obtain⟨rfl,k,hk,rfl,NO,F⟩:=hrel;by_cases bY:k<n
   .obtain⟨x,hx⟩:∃x,(lH lv)[k]? =some x:=⟨_,Y6 QA⟩
    have cx:=(F.o.cell (p:=⟨sb,so+k,none⟩) ba).trans (EL.o k x hx);have HX:=lh hx;have R2:=O.o.rd.below F.o;clear hx;by_cases hs:ad x us=true
    .have aA:=Zj4 HX.o hs (λj y hj hy=>NO.o j y hj hy);have HT:=lh (xi wr rb us d x R2 hs);have HS:=lh hs;have LT:=lh aA;have fO:=Zo hs;have kw:=lh fO;clear hs R2 aA fO;cases g with
     |zero=>cases HQ.o
     |succ g=>
     have hq:Zn (Z0 g (.bin (lv+1)) d us.tail) (λy ts'=>Z0 g (.binLoop lv (.mk (xN lv us) ByteArray.empty 0 [t,y])) d ts')=some r:=by
      have hq:=HQ.o;rw[Z0,Y3 (by rw[LT.o.1];exact LT.o.2)]at hq;exact hq
     rw[LT.o.1]at hq;have ci:=lh hq;clear hq;go_wp2_with fail
     refine Tq ?_;intro w2 an ap;obtain⟨P2,rA,EM⟩:=ds ((O.o.below F.o).tail an ap) ((RFr.below (rb:=rb) F.o).trans ap) (Zti w2 x LT.o.2);obtain⟨X,x8⟩:=zX (Xo x)
     rw[<-x8]at EM;have EN:=lh x8;clear an ap HT x8;go_wp2_with fail
     refine EM.o.mono ?_;rintro e w3⟨rfl,J⟩;have P3:=lh (P2.o.below J);have CH:=lh (rA.o.trans (RFr.below (rb:=rb) J));have u:((lv+1:Nat):Int)=(lv:Int)+1:=Qe
     clear J EM;rcases Zg ci.o with⟨⟨c,p⟩,o,rfl⟩|⟨y,vs,o,h4⟩
     .have m:=(Z.o g Qe) w3 rb B d _ _ P3.o o;unfold BN at m;rw[u]at m;have m:=lh m;clear o u;go_wp2_with fail
      refine m.o.mono ?_;rintro e I⟨⟨b,rfl,h1,h2⟩,hF⟩;exact⟨rfl,mA.pre (F1.o.trans CH.o) (r:=.error (c,p)) ⟨⟨b,rfl,h1,h2⟩,hF⟩⟩
     .have m:=(Z.o g Qe) w3 rb B d _ _ P3.o o;unfold BN at m;rw[u]at m;have m:=lh m;have nI:=T6 o;have H4:=lh h4;clear o u h4;go_wp2_with fail
      refine m.o.mono ?_;rintro e I⟨c,rfl,hC,eM,bg⟩;have vH:=G1.o.rfr O.o.lt CH.o;have Ji:=vH.rfr O.o.lt bg;have F4:=(F1.o.trans CH.o).trans bg;have am:=Got.two (k:=X) (t:=⟨#[]⟩) Y.o.le F4 Ji (wA:=w3) (λx hx=>(vH.new x hx).2) (F1.o.trans CH.o).size hC;have ai:kW I (I.alloc (.cells #[vP ab,vP c.b] 22)):=(Y2 _ _).alloc (Y0 _) _
      have aw:kW I ((I.alloc (.cells #[vP ab,vP c.b] 22)).alloc (.cells #[vI X,.string ⟨#[]⟩,vI 0,.slice (some ⟨I.heap.size,0,none⟩) 2 2] 28)):=ai.alloc Qm _;obtain⟨F6,P6,ct,zH⟩:=gp (F4.trans (RFr.below (rb:=rb) aw)) (((P3.o.next eM bg nI).below aw)) am nI;clear hC eM bg Ji vH F4 m ai aw am nI;go_wp2_with fail
      refine(wj _ rb X ⟨#[]⟩ _ 2 2).mono ?_;rintro e w7⟨rfl,rfl⟩;go_wp2;go_step3
      refine⟨rfl,⟨.mk (I.heap.size+1) (.slice (some ⟨I.heap.size,0,none⟩) 2 2) X ⟨#[]⟩ 0 [a,c],_,_,_,_,_,_,_,_,_,_,_,_,_,_,_,_,_,_,_,_,_,_,_,_,_,_,_,_,_,_,_,_,_,_,_,rfl,g,vs,.mk X ByteArray.empty 0 [t,y],by omega,?_,?_,P6.o,F6.o,?_⟩,?_⟩;·rw[EN.o];exact H4.o
      .rw[sx.o];exact ct.o
      .have:=zH.o;have:=HL.o;have:=Zz us;omega
      .rw[P6.o.rd.left,RL.o];have:=zH.o;have:=kw.o;omega
    .have dT:ad x us=false:=by simpa using hs
     have HT:=lh (yn wr rb us d x R2 dT);have HS:=lh dT;clear hs dT R2;go_wp2_with fail
     refine HT.o.mono ?_;rintro e w2⟨rfl,ar⟩;have B2:=lh ar;clear ar;go_wp2;go_roundw
     case rel=>exact⟨rfl,k+1,by omega,by go_num,lh (λj y hj hy=>by
      by_cases e:j=k;·exact Zwr
      .exact NO.o j y Qe hy),lh (F.o.trans (B2.o.mono F.o.size))⟩
     case measure=>simp[intOf];omega
   .have cr:k=n:=by omega
    have Mr:Hid (xN lv us=0):=lh (Zkf λi y hi=>NO.o i y (by rw[cr,HN.o];exact(List.getElem?_eq_some_iff.1 hi).1) hi);clear cr;go_wp2_with fail
    simp only[Exit.jump];go_ret;cases g with
    |zero=>cases HQ.o
    |succ g=>
      have hq:=HQ.o;rw[Z0,Y5 Mr.o]at hq;obtain rfl:=Yc hq;rw[sx.o];exact⟨a,rfl,G1.o.rfr O.o.lt (RFr.below F.o),O.o.rd.below F.o,F1.o.trans (RFr.below F.o)⟩
section
variable {P:Program}{ah:Array Oper}{md:Region.Mode}
def Y'(P:Program)(ah:Array Oper)(K:Act->Prop):List Oper->Act->Prop
 | [],a=>K a
 |o::r,a=>∃v,YieldsIf P ah (λ_=>True) o v a/\Y' P ah K r (a.put o.dst v)
def Zjd{K:Act->Prop}{o:Oper}{r:List Oper}{a:Act}(v:Value)
 (hw:Region.wanted o (yielded ah a.tmps)=true)(g:∀w',True->(execOp a.eval o).run P w'=.ok (.value v) w')(h:Y' P ah K r (a.put o.dst v)):Y' P ah K (o::r) a:=
 ⟨v,.inl ⟨hw,g⟩,h⟩
def Zqc(md:Region.Mode)(ah:Array Oper):List Nat->Array Bool->Bool
 | [],_=>true
 |i::r,g=>(Region.ready md ah g).contains i&&Region.free md ah g i&&Zqc md ah r (g.setIfInBounds i true)
def Aby(md:Region.Mode)(ah:Array Oper)(pre L g:List Nat):Bool:=
 Region.noSelect ah&&Tl md ah g&&X6 md ah g (((List.range ah.size).map λj=>!g.contains j).toArray)&&Zqc md ah pre (uJ g (Array.replicate ah.size false))&&
  decide (pre.length+L.length+g.length=ah.size)&&(pre.all λi=>decide (i<ah.size))&&((List.range ah.size).all λj=>pre.contains j||L.contains j||g.contains j)
def V'{m:Array Bool}{i j:Nat}(h:i<m.size):(m.setIfInBounds i true).getD j false=if i=j then true else m.getD j false:=by
 by_cases e:i=j;·subst e;simp[h]
 .rw[getD_set_ne false e,Y3 e]
def Zkr {Q:Exit→Act→kV→Prop} {L:List Nat} (Inv:Array Bool→Act→kV→Prop) (X:Zna md ah=true)
 (Y:∀g i a w,g.size=ah.size->i∈L->i<ah.size->g.getD i false=false->(∀j,waits md ah i j=true->g.getD j false=true)->Inv g a w->wpOp P ah Q i (λa' w'=>Inv (g.setIfInBounds i true) a' w') a w)
 (O:∀g a w,(∀j,j<ah.size->g.getD j false=true)->Inv g a w->Q .normal a w) :
 ∀(k:Nat) (g:Array Bool) (a:Act) (w:kV),g.size=ah.size->(∀j,j<ah.size->g.getD j false=true\/j∈L)->(L.filter λj=>!g.getD j true).length<=k->Inv g a w->wpAnyH P md ah Q (λ_=>True) k g a w:=by
 have done:∀g:Array Bool,g.size=ah.size->Region.ready md ah g=[]->∀j,j<ah.size->g.getD j false=true:=by
  intro g hs hr j m;cases h:g.getD j false with
  |true=>rfl
  |false=>exact absurd hr (Z8t X hs j m h)
 intro k;induction k with
 |zero=>
   intro g a w hs u hk hI;have hr:Region.ready md ah g=[]:=by
    refine List.eq_nil_iff_forall_not_mem.2 λi hi=>?_;obtain⟨p,o,ho,_⟩:=mem_ready.1 hi;have y:i<ah.size:=(Y1.1 ho).1;have F:i∈L:=(u i y).resolve_left (by rw[<-Zd1 Qe,p];simp);have:i∈L.filter λj=>!g.getD j true:=List.mem_filter.2 ⟨F,by rw[p];rfl⟩;have:=List.length_pos_of_mem this;omega
   exact⟨hr,O g a w (done g hs hr) hI⟩
 |succ k Z=>
   intro g a w hs u hk hI;refine⟨λhr=>O g a w (done g hs hr) hI,λi hi=>?_⟩;obtain⟨p,o,ho,ao⟩:=mem_ready.1 hi;have y:i<ah.size:=(Y1.1 ho).1;have U:g.getD i false=false:=by rw[<-Zd1 Qe];exact p
   have F:i∈L:=(u i y).resolve_left (by rw[U];simp);refine wpOp_mono (λa' w' h=>⟨trivial,Z _ a' w' (by simpa using hs) (λj m=>?_) ?_ h⟩) (Y g i a w hs F y U (λj m=>Z8s m hi) hI)
   .rw[V' Qe];by_cases e:i=j;·rw[Y5 e];exact .inl rfl
    .rw[Y3 e];exact u j m
   .have aA:(L.filter λj=>!(g.setIfInBounds i true).getD j true).length<(L.filter λj=>!g.getD j true).length:=by
     have sub:∀l:List Nat,(l.filter λj=>!(g.setIfInBounds i true).getD j true).length<=(l.filter λj=>!g.getD j true).length/\(i∈l->(l.filter λj=>!(g.setIfInBounds i true).getD j true).length<(l.filter λj=>!g.getD j true).length):=by
      intro l;induction l with
      |nil=>exact⟨Y0 _,λh=>by cases h⟩
      |cons x l I=>
        by_cases e:i=x
        .subst e;have J:(g.setIfInBounds i true).getD i true=true:=by simp[show i<g.size by omega]
         simp only[List.filter_cons,J,p,Bool.not_true,Bool.not_false,if_true,Bool.false_eq_true,if_false,List.length_cons];exact⟨by omega,λ_=>by omega⟩
        .have J:(g.setIfInBounds i true).getD x true=g.getD x true:=getD_set_ne true e;simp only[List.filter_cons,J];cases g.getD x true
         .simp only[Bool.not_false,if_true,List.length_cons];exact⟨by omega,λh=>by have:=I.2 Q6;omega⟩
         .simp only[Bool.not_true,Bool.false_eq_true,if_false];exact⟨I.1,λh=>I.2 Q6⟩
     exact(sub L).2 F
    omega
theorem Zdx{Q:Exit->Act->kV->Prop}(m:Region.noSelect ah=true)(o:∀c a d v w,Q (.panic c) (Act.put a d v) w->Q (.panic c) a w){w:kV}{fuel:Nat} :
 ∀(l:List Nat) (g:Array Bool) (a:Act),Zqc md ah l g=true->(∀i∈l,i<ah.size)->Y' P ah (λa'=>wpAnyH P md ah Q (λ_=>True) fuel (uJ l g) a' w) (l.filterMap (ah[·]?)) a->wpAnyH P md ah Q (λ_=>True) (fuel+l.length) g a w
 | [],g,a,_,_,h=>h
 |i::l,g,a,p,u,h=>by
   simp only[Zqc,Bool.and_eq_true]at p;obtain⟨⟨hr,hf⟩,y⟩:=p;have F:=u i (Yw ..);have ho:ah[i]?=some ah[i]:=Array.getElem?_eq_getElem F;rw[List.filterMap_cons,ho]at h;obtain⟨v,I,J⟩:=h;have e:fuel+(i::l).length=(fuel+l.length)+1:=Qi
   rw[e];exact wpAnyH_take ho m hf hr (λc a w=>o c a _ _ w) I trivial (Zdx m o l _ _ y (λj O=>u j (List.mem_cons_of_mem _ O)) J)
def Zdn{Q:Exit->Act->kV->Prop}{id:Nat}{l:List Oper}{a:Act}{w:kV}(pre L ph:List Nat)(I:P.follows .mixedOrders=true)
 (F:Aby .any l.toArray pre L ph=true)(J:∀c a d v w,Q (.panic c) (Act.put a d v) w->Q (.panic c) a w)(Inv:Array Bool->Act->kV->Prop)
 (O:Y' P l.toArray (λa'=>Inv (uJ pre (uJ ph (Array.replicate l.toArray.size false))) a' w.drew) (pre.filterMap (l.toArray[·]?)) a)
 (U:∀g i a w,g.size=l.toArray.size->i∈L->i<l.toArray.size->g.getD i false=false->(∀j,waits .any l.toArray i j=true->g.getD j false=true)->Inv g a w->wpOp P l.toArray (Ends (wpList P l.toArray Q (ph.filterMap (l.toArray[·]?))) Q) i (λa' w'=>Inv (g.setIfInBounds i true) a' w') a w)
 (X:∀g a w,(∀j,j<l.toArray.size->g.getD j false=true)->Inv g a w->wpList P l.toArray Q (ph.filterMap (l.toArray[·]?)) a w):(Code.region id l.toArray true).wp P Q a w:=by
 simp only[Aby,Bool.and_eq_true,decide_eq_true_eq]at F;obtain⟨⟨⟨⟨⟨⟨Y,r8⟩,rY⟩,Z⟩,aG⟩,EQ⟩,ER⟩:=F;refine wp_region_any I ?_;have jZ:Zna .any l.toArray=true:=by
  cases ph with
  |nil=>simp[Tl]at r8
  |cons t r=>simp only[Tl,Bool.and_eq_true]at r8;exact r8.1.1.1
 have iO:∀t∈ph,t<l.toArray.size:=by
  exact Zwk
 have ba:(uJ pre (uJ ph (Array.replicate l.toArray.size false))).size=l.toArray.size:=by rw[Z3s,Z3s];simp
 have G:∀a w,Inv (uJ pre (uJ ph (Array.replicate l.toArray.size false))) a w->wpAnyH P .any l.toArray (Ends (wpList P l.toArray Q (ph.filterMap (l.toArray[·]?))) Q) (λ_=>True) L.length (uJ pre (uJ ph (Array.replicate l.toArray.size false))) a w:=λa w h=>
  Zkr (P:=P) (Q:=Ends (wpList P l.toArray Q (ph.filterMap (l.toArray[·]?))) Q) Inv jZ U X L.length _ a w ba (λj y=>by
   have h1:=List.all_eq_true.1 ER j (List.mem_range.2 y);simp only[Bool.or_eq_true,List.contains_eq_mem,decide_eq_true_eq]at h1;rcases h1 with(h1|h1)|h1;·exact .inl (Z4k h1 (by rw[Z3s];simpa using y))
   .exact .inr h1
   .exact .inl (Z3g (Z4k h1 (by simpa using y)))) (List.length_filter_le _ _) h
 have mono:∀(os:List Oper) (a:Act),Y' P l.toArray (λa'=>Inv (uJ pre (uJ ph (Array.replicate l.toArray.size false))) a' w.drew) os a->Y' P l.toArray (λa'=>wpAnyH P .any l.toArray (Ends (wpList P l.toArray Q (ph.filterMap (l.toArray[·]?))) Q) (λ_=>True) L.length (uJ pre (uJ ph (Array.replicate l.toArray.size false))) a' w.drew) os a:=by
  intro os;induction os with
  |nil=>intro a h;exact G a w.drew h
  |cons o os ih=>intro a h;obtain⟨v,hy,h⟩:=h;exact⟨v,hy,ih _ h⟩
 have H:=Zdx (P:=P) (md:=.any) (Q:=Ends (wpList P l.toArray Q (ph.filterMap (l.toArray[·]?))) Q) Y J pre _ a Z (λi hi=>by simpa using List.all_eq_true.1 EQ i hi) (mono _ a O);have p:=Zal (Q:=Q) r8 (λm hs rX=>?_) (L.length+pre.length) (Array.replicate l.toArray.size false) a w.drew Qm ?_ ?_ (wpAny_of_held _ _ _ _ H);·rw[show L.length+pre.length+ph.length=l.toArray.size by omega]at p;exact p
 .exact Acy
 .intro j o _ hl;rw[Z6f]at hl;cases hl
 .intro t _;exact Z6f _ _
end
def Tw:List kB:=[SJ,SX,Tt]
def Zu4{ts:List Tok}(h:∀(i:Nat) (x:kB),i<3->Tw[i]?=some x->ad x ts=false):zg ts=0:=by
 have g:=h 0 SJ Qe rfl;have m:=h 1 SX Qe rfl;have o:=h 2 Tt Qe rfl;simp[zg,g,m,o]
def Ztc {ts:List Tok} {k:Nat} {x:kB} (hk:Tw[k]?=some x) (hx:ad x ts=true) (h:∀ (i:Nat) (y:kB),i < k→Tw[i]?=some y→ad y ts=false):zg ts=32 + k∧x.size≤maxLen ∧
 (Uw [(SJ,32),(SX,33),(Tt,34)]).atKey (.string x.data.toList) (.lit (.int .i64 0))=.lit (.int .i64 (32+k)):=by
 match k with
 | 0 => obtain rfl : SJ = x := by simpa [Tw] using hk
        exact⟨by simp[zg,hx],by decide,by kernel_rfl⟩
 | 1 => obtain rfl : SX = x := by simpa [Tw] using hk
        have g:=h 0 SJ Qe rfl;exact⟨by simp[zg,hx,g],by decide,by kernel_rfl⟩
 | 2 => obtain rfl : Tt = x := by simpa [Tw] using hk
        have g:=h 0 SJ Qe rfl;have m:=h 1 SX Qe rfl;exact⟨by simp[zg,hx,g,m],by decide,by kernel_rfl⟩
 |k+3=>simp[Tw]at hk
def Z8p{P:Program}{ah:Array Oper}{Q:Exit->Act->kV->Prop}{i:Nat}{o:Oper}{K:Act->kV->Prop}{a:Act}{w:kV}(hi:ah[i]?=some o)
 (h:if Region.wanted o (yielded ah a.tmps)=true then o.wp P a w K Q else K (a.put o.dst undef) w):wpOp P ah Q i K a w:=by
 unfold wpOp;simp only[hi];split;·rename_i hw;rw[Y5 hw]at h;exact .inl h
 .rename_i hw;rw[Y3 hw]at h;exact h
def Z7m{H:Type}{P:Program}{w:kV}{o:Oper}{a:Act}{K:Act->kV->Prop}{Q:Exit->Act->kV->Prop}
 (m x v:Operand)(t:TypeId)(u:o.op=Op.insert t m x v)
 (k e:TypeId)(y:Keyed P k)(ht:P.underlying t=some (.map k e))(R:Value->Option (DataW H×List MemPlace))(b n:Nat)(D:DataW H)
 (F:a.eval m=.map (some b))(G:w.ownsMap P k R b n D)(hn:n<maxLen)(g val:Value)(p:Lit)(hx:a.eval x=g)(I:a.eval v=val)(J:keyOf P k g=some p)
 (d:DataW H)(ps:List MemPlace)(O:R val=some (d,ps))
 (U:∀w',w'.ownsMap P k R b (n+1) (D.put p d)->w.grownBy w' (some b)->K (a.put o.dst undef) w'):o.wp P a w K Q:=by
 obtain⟨w',X,Y,Z⟩:=G.update y ht hn J O;unfold Oper.wp;simp[execOp,u,F,hx,I,X,Result.andThen];exact U w' Y Z
def Za6{H:Type}{P:Program}{w:kV}{o:Oper}{a:Act}{K:Act->kV->Prop}{Q:Exit->Act->kV->Prop}
 (m x:Operand)(t:TypeId)(u:o.op=Op.lookup t m x false)
 (k e:TypeId)(q:IntKind)(y:Keyed P k)(ht:P.underlying t=some (.map k e))(he:P.underlying e=some (.int q))(F:(zeroValue e).run P w=.ok (.int q 0) w)(b n:Nat)(D:DataW H)
 (G:a.eval m=.map (some b))(I:w.ownsMap P k (plainElem P e) b n D)(g:Value)(p:Lit)(hx:a.eval x=g)(J:keyOf P k g=some p)
 (O:∀c:Int,D.atKey p (.lit (.int q 0))=.lit (.int q c)->K (a.put o.dst (.int q c)) w):o.wp P a w K Q:=by
 obtain⟨c,U,X,Y⟩:=I.lookup_int y ht he F J;unfold Oper.wp;simp[execOp,u,G,hx,U,Result.andThen];exact O c X
def TH(b2 b3 b4:Bool):DataW Unit:=Uw ((if b2 then[(SJ,32)]else[])++(if b3 then[(SX,33)]else[])++(if b4 then[(Tt,34)]else[]))
theorem AbG(b3 b4:Bool):(TH false b3 b4).put (.string [33]) (.lit (.int .i64 32))=TH true b3 b4:=by cases b3<;>cases b4<;>kernel_rfl
theorem Abj(b2 b4:Bool):(TH b2 false b4).put (.string [116,121,112,101,111,102]) (.lit (.int .i64 33))=TH b2 true b4:=by cases b2<;>cases b4<;>kernel_rfl
theorem AbM(b2 b3:Bool):(TH b2 b3 false).put (.string [100,101,108,101,116,101]) (.lit (.int .i64 34))=TH b2 b3 true:=by cases b2<;>cases b3<;>kernel_rfl
def Abc(w0:kV)(k:Nat)(b1 b2 b3 b4 b5 b7:Bool)(fJ gf gh:Value)(w':kV)(mb:Nat):Prop:=
 (b1 = true → fJ = .map (some mb) ∧ w0.heap.size ≤ mb ∧ mb < w'.heap.size ∧ ∃ n, n ≤ b2.toNat + b3.toNat + b4.toNat ∧ w'.ownsMap (H := Unit) Tryz.prog 9 (plainElem Tryz.prog 3) mb n (TH b2 b3 b4)) ∧ (b5 = true → gf = .map (some mb) ∧ b1 = true ∧ b2 = true ∧ b3 = true ∧ b4 = true) ∧ (b7 = true → gh = (vI (32 + (k : Int)))) ∧
  (b1=false->b2=false/\b3=false/\b4=false)
def ZR(w0:kV)(rb B d:Nat)(us:List Tok)(r:Except (Int×Nat) (Tree×List Tok))(b1 jN gi:Bool)(eX fy:Value)(w':kV)(mb:Nat):Prop:=
 (jN = false → Pre w' rb B d us ∧ RFr w0 w' rb ∧ gi = false) ∧ (jN = true → ∃ (a : ATree) (t : Tree) (ts' : List Tok), r = .ok (t, ts') ∧ eX = (vP a.b) ∧ Got w0 B w' a t ∧ Rd w' rb ts' d ∧ RFr w0 w' rb ∧ (b1 = true → mb ∉ a.blocks) ∧
  (gi=true->∃g,fy=.slice (some ⟨g,0,none⟩) 1 1/\(b1=true->g≠mb)/\g∉a.blocks/\w0.heap.size<=g/\w'.heap[g]?=some (.cells #[a.ptr] 22 (0,0))))
def iy(w0:kV)(rb B d:Nat)(us:List Tok)(r:Except (Int×Nat) (Tree×List Tok))(k:Nat)(b1 b2 b3 b4 b5 b7 jN gi:Bool)(fJ gf gh eX fy:Value)(w':kV):Prop:=
 ∃mb,Abc w0 k b1 b2 b3 b4 b5 b7 fJ gf gh w' mb/\ZR w0 rb B d us r b1 jN gi eX fy w' mb/\rb<B/\B<=w0.heap.size/\w0.heap.size<=w'.heap.size
section
variable {w0 w' dN:kV}{rb B d k mb:Nat}{us:List Tok}{r:Except (Int×Nat) (Tree×List Tok)}{fJ gf gh eX fy:Value}{b1 b2 b3 b4 b5 b7 jN gi:Bool}
theorem ZR.keep(h:ZR w0 rb B d us r b1 jN gi eX fy w' mb)(hr:rb<B)(hB:B<=w0.heap.size)(hs:w'.heap.size<=dN.heap.size)(ho:dN.os=w'.os)(ht:dN.tape=w'.tape)(O:dN.output=w'.output)(hb:∀x,x<w'.heap.size->x≠mb->dN.heap[x]?=w'.heap[x]?)
 {U:Bool}(o:w0.heap.size<=mb)(hp:b1=true\/w'.heap.size<=mb):ZR w0 rb B d us r U jN gi eX fy dN mb:=by
 have u:∀{w0:kV},w0.heap.size<=mb->RFr w0 w' rb->RFr w0 dN rb:=λo h=>⟨ho.trans h.os,ht.trans h.tape,O.trans h.output,Y4 h.size hs,λx hx hn=>(hb x (Y7 hx h.size) Qe).trans (h.block x hx hn)⟩;refine⟨λhq=>?_,λhq=>?_⟩
 .obtain⟨m,p,X⟩:=h.1 hq;have:=m.rd.rlt;exact⟨⟨m.rd.keep hs λx hx=>hb x Qe Qe,m.deep,m.lt,Y4 m.le hs,m.few⟩,u o p,X⟩
 .obtain⟨a,t,ts',Y,Z,G,R,F,hn,p⟩:=h.2 hq;have y:mb∉a.blocks:=by
   rcases hp with hp|hp;·exact hn hp
   .intro hx;have:=(G.new mb hx).2;omega
  have:=R.rlt;refine⟨a,t,ts',Y,Z,⟨G.tree,G.at'.keepB λx hx=>hb x (G.new x hx).2 (λe=>y (e▸hx)),G.nodup,λx hx=>⟨(G.new x hx).1,Y7 (G.new x hx).2 hs⟩⟩,R.keep hs λx hx=>hb x Qe Qe,u o F,λ_=>y,λiQ=>?_⟩;obtain⟨g,e3,vJ,ES,tP,I⟩:=p iQ;have cX:g<w'.heap.size:=(Y1.1 I).1;have J:g≠mb:=by
   rcases hp with hp|hp;·exact vJ hp
   .omega
  exact⟨g,e3,λ_=>J,ES,tP,(hb g cX J).trans I⟩
def ZR.any(h:ZR w0 rb B d us r b1 jN gi eX fy w' mb)(hp:b1=false)(m:Nat):ZR w0 rb B d us r b1 jN gi eX fy w' m:=by
 refine⟨h.1,λhq=>?_⟩;obtain⟨a,t,ts',o,p,G,R,F,hn,u⟩:=h.2 hq;refine⟨a,t,ts',o,p,G,R,F,λh=>(by rw[hp]at h;cases h),λy=>?_⟩;obtain⟨g,I,O,J⟩:=u y;exact⟨g,I,λh=>(by rw[hp]at h;cases h),J⟩
def iy.make(h:iy w0 rb B d us r k false b2 b3 b4 b5 b7 jN gi fJ gf gh eX fy w'):iy w0 rb B d us r k true b2 b3 b4 b5 b7 jN gi (.map (some w'.heap.size)) gf gh eX fy (w'.alloc (.map #[] 0)):=by
 obtain⟨mb,m,hc,hr,o,hs⟩:=h;obtain⟨rfl,rfl,rfl⟩:=m.2.2.2 rfl;have g:kW w' (w'.alloc (.map #[] 0)):=(Y2 _ _).alloc (Y0 _) _;refine⟨w'.heap.size,⟨λ_=>⟨rfl,hs,by simp,0,by simp,World.ownsMap_made _ _ _ _⟩,λh=>(by have:=(m.2.1 h).2.1;cases this),m.2.2.1,(λh=>by cases h)⟩,(hc.any rfl w'.heap.size).keep hr o g.size g.os g.tape g.output (λx hx _=>g.block x hx) hs (.inr (Y0 _)),hr,o,Y4 hs g.size⟩
def iy.ins2(h:iy w0 rb B d us r k true false b3 b4 false b7 jN gi fJ gf gh eX fy w'):∃mb n,fJ=.map (some mb)/\n<4/\w'.ownsMap (H:=Unit) Tryz.prog 9 (plainElem Tryz.prog 3) mb n (TH false b3 b4)/\
 ∀dN,dN.ownsMap (H:=Unit) Tryz.prog 9 (plainElem Tryz.prog 3) mb (n+1) ((TH false b3 b4).put (.string [33]) (.lit (.int .i64 32)))->w'.grownBy dN (some mb)->iy w0 rb B d us r k true true b3 b4 false b7 jN gi fJ gf gh eX fy dN:=by
 obtain⟨mb,hm,hc,hr,hB,hs⟩:=h;obtain⟨e,h1,h2,n,m,h5⟩:=hm.1 rfl;have g:n<4:=by have:=Bool.toNat_le b3;have:=Bool.toNat_le b4;have:(false).toNat=0:=rfl;omega
 refine⟨mb,n,e,g,h5,λdN ho hg=>?_⟩;rw[AbG]at ho;exact XP
def iy.ins3(h:iy w0 rb B d us r k true b2 false b4 false b7 jN gi fJ gf gh eX fy w'):∃mb n,fJ=.map (some mb)/\n<4/\w'.ownsMap (H:=Unit) Tryz.prog 9 (plainElem Tryz.prog 3) mb n (TH b2 false b4)/\
 ∀dN,dN.ownsMap (H:=Unit) Tryz.prog 9 (plainElem Tryz.prog 3) mb (n+1) ((TH b2 false b4).put (.string [116,121,112,101,111,102]) (.lit (.int .i64 33)))->w'.grownBy dN (some mb)->iy w0 rb B d us r k true b2 true b4 false b7 jN gi fJ gf gh eX fy dN:=by
 obtain⟨mb,hm,hc,hr,hB,hs⟩:=h;obtain⟨e,h1,h2,n,m,h5⟩:=hm.1 rfl;have g:n<4:=by have:=Bool.toNat_le b2;have:=Bool.toNat_le b4;have:(false).toNat=0:=rfl;omega
 refine⟨mb,n,e,g,h5,λdN ho hg=>?_⟩;rw[Abj]at ho;exact XP
def iy.ins4(h:iy w0 rb B d us r k true b2 b3 false false b7 jN gi fJ gf gh eX fy w'):∃mb n,fJ=.map (some mb)/\n<4/\w'.ownsMap (H:=Unit) Tryz.prog 9 (plainElem Tryz.prog 3) mb n (TH b2 b3 false)/\
 ∀dN,dN.ownsMap (H:=Unit) Tryz.prog 9 (plainElem Tryz.prog 3) mb (n+1) ((TH b2 b3 false).put (.string [100,101,108,101,116,101]) (.lit (.int .i64 34)))->w'.grownBy dN (some mb)->iy w0 rb B d us r k true b2 b3 true false b7 jN gi fJ gf gh eX fy dN:=by
 obtain⟨mb,hm,hc,hr,hB,hs⟩:=h;obtain⟨e,h1,h2,n,m,h5⟩:=hm.1 rfl;have g:n<4:=by have:=Bool.toNat_le b2;have:=Bool.toNat_le b3;have:(false).toNat=0:=rfl;omega
 refine⟨mb,n,e,g,h5,λdN ho hg=>?_⟩;rw[AbM]at ho;exact XP
def iy.move(h:iy w0 rb B d us r k true true true true false b7 jN gi fJ gf gh eX fy w'):iy w0 rb B d us r k true true true true true b7 jN gi fJ fJ gh eX fy w':=by
 obtain⟨mb,g,hc,hr,m,hs⟩:=h;exact⟨mb,⟨g.1,λ_=>⟨(g.1 rfl).1,rfl,rfl,rfl,rfl⟩,g.2.2.1,g.2.2.2⟩,hc,hr,m,hs⟩
def iy.look(h:iy w0 rb B d us r k b1 b2 b3 b4 true false jN gi fJ gf gh eX fy w'):(∃mb n,gf=.map (some mb)/\w'.ownsMap (H:=Unit) Tryz.prog 9 (plainElem Tryz.prog 3) mb n (Uw [(SJ,32),(SX,33),(Tt,34)]))/\iy w0 rb B d us r k b1 b2 b3 b4 true true jN gi fJ gf (vI (32+(k:Int))) eX fy w':=by
 obtain⟨mb,g,hc,hr,m,hs⟩:=h;obtain⟨e,rfl,rfl,rfl,rfl⟩:=g.2.1 rfl;obtain⟨o,p,u,n,y,h5⟩:=g.1 rfl;exact⟨⟨mb,n,e,h5⟩,mb,⟨g.1,g.2.1,λ_=>rfl,g.2.2.2⟩,hc,hr,m,hs⟩
def iy.pre(h:iy w0 rb B d us r k b1 b2 b3 b4 b5 b7 false gi fJ gf gh eX fy w'):Pre w' rb B d us/\RFr w0 w' rb:=by
 obtain⟨mb,g,hc,hr,m,hs⟩:=h;exact⟨(hc.1 rfl).1,(hc.1 rfl).2.1⟩
def iy.call(h:iy w0 rb B d us r k b1 b2 b3 b4 b5 b7 false gi fJ gf gh eX fy w'){a:ATree}{t:Tree}{ts':List Tok}(hr:r=.ok (t,ts'))(G:Got w' B dN a t)(R:Rd dN rb ts' d)(F:RFr w' dN rb) :
 iy w0 rb B d us r k b1 b2 b3 b4 b5 b7 true gi fJ gf gh (vP a.b) fy dN:=by
 obtain⟨mb,g,hc,u,y,hs⟩:=h;obtain⟨I,o,rfl⟩:=hc.1 rfl;refine⟨mb,⟨λhp=>?_,g.2.1,g.2.2.1,g.2.2.2⟩,⟨(λh=>by cases h),λ_=>⟨a,t,ts',hr,rfl,G.pre o,R,o.trans F,λhp=>?_,(λh=>by cases h)⟩⟩,u,y,Y4 hs F.size⟩
 .obtain⟨e,p,m,n,J,h5⟩:=g.1 hp;have:=I.rd.rlt;have rl:dN.heap[mb]?=w'.heap[mb]?:=F.block mb m Qe;refine⟨e,p,Y7 m F.size,n,J,?_⟩;exact Zwc
 .obtain⟨e,p,m,_⟩:=g.1 hp;intro hx;have:=(G.new mb hx).1;omega
def iy.ptr(h:iy w0 rb B d us r k b1 b2 b3 b4 b5 b7 true gi fJ gf gh eX fy w'):∃pb,eX=(vP pb):=by
 obtain⟨mb,m,hc,o,p,hs⟩:=h;obtain⟨a,t,ts',u,g,_⟩:=hc.2 rfl;exact⟨_,g⟩
def iy.box(h:iy w0 rb B d us r k b1 b2 b3 b4 b5 b7 true false fJ gf gh eX fy w'):iy w0 rb B d us r k b1 b2 b3 b4 b5 b7 true true fJ gf gh eX (.slice (some ⟨w'.heap.size,0,none⟩) 1 1) (w'.alloc (.cells #[eX] 22)):=by
 obtain⟨mb,m,hc,p,y,hs⟩:=h;have g:kW w' (w'.alloc (.cells #[eX] 22)):=(Y2 _ _).alloc (Y0 _) _;obtain⟨a,t,ts',I,rfl,G,R,F,hn,_⟩:=hc.2 rfl;refine⟨mb,⟨λhp=>?_,m.2.1,m.2.2.1,m.2.2.2⟩,⟨(λh=>by cases h),λ_=>⟨a,t,ts',I,rfl,G.rfr p (RFr.below g),R.below g,F.trans (RFr.below g),hn,λ_=>⟨w'.heap.size,rfl,λhp=>?_,λhx=>?_,hs,Yq w' _⟩⟩⟩,p,y,Y4 hs g.size⟩
 .obtain⟨e,u,o,n,J,h5⟩:=m.1 hp;have rl:=g.block mb o;refine⟨e,u,Y7 o g.size,n,J,?_⟩;exact Zwc
 .obtain⟨e,u,o,_⟩:=m.1 hp;omega
 .have:=(G.new _ hx).2;omega
def iy.fin(h:iy w0 rb B d us r k b1 b2 b3 b4 b5 true true true fJ gf gh eX fy w'):∃(a:ATree) (t:Tree) (ts':List Tok) (g:Nat),r=.ok (t,ts')/\gh=(vI (32+(k:Int)))/\fy=.slice (some ⟨g,0,none⟩) 1 1/\RFr w0 w' rb/\Rd w' rb ts' d/\
 Got w0 B (w'.alloc (.cells #[vI (32+(k:Int)),.string ⟨#[]⟩,vI 0,.slice (some ⟨g,0,none⟩) 1 1] 28)) (.mk w'.heap.size (.slice (some ⟨g,0,none⟩) 1 1) (32+(k:Int)) ⟨#[]⟩ 0 [a]) (.mk (32+(k:Int)) ⟨#[]⟩ 0 [t]):=by
 obtain⟨mb,o,hc,U,p,hs⟩:=h;obtain⟨a,t,ts',u,rfl,G,R,F,hn,y⟩:=hc.2 rfl;obtain⟨g,rfl,X,I,J,m⟩:=y rfl;have O:kW w' (w'.alloc (.cells #[vI (32+(k:Int)),.string ⟨#[]⟩,vI 0,.slice (some ⟨g,0,none⟩) 1 1] 28)):=(Y2 _ _).alloc (Y0 _) _;have Y:g<w'.heap.size:=(Y1.1 m).1;refine⟨a,t,ts',g,u,o.2.2.1 rfl,rfl,F,R,⟨by simp[ATree.tree,f6,G.tree],?_,?_,?_⟩⟩
 .refine TreeAt.new (Y4 p hs) ⟨by simp,.inr ⟨g,1,#[a.ptr],rfl,by omega,m,by simp,by unfold maxLen;omega,by simp,by simp⟩⟩ λx hx=>?_;simp only[List.mem_singleton]at hx;subst hx;exact G.at'
 .simp only[ATree.blocks,Value.ownBlock,Option.toList,x6,List.append_nil,List.nodup_cons,List.cons_append,List.nil_append,List.mem_cons,not_or];exact⟨⟨by omega,λhx=>by have:=(G.new _ hx).2;omega⟩,I,G.nodup⟩
 .intro x hx;simp only[ATree.blocks,Value.ownBlock,Option.toList,x6,List.append_nil,List.cons_append,List.nil_append,List.mem_cons]at hx;have :=O.size;rcases hx with rfl|rfl|hx;·exact⟨hs,by simp⟩
  .exact⟨J,by omega⟩
  .have:=G.new x hx;omega
end
def AaS(w0:kV)(rb B d:Nat)(us:List Tok)(r:Except (Int×Nat) (Tree×List Tok))(k:Nat)(g:Value->Value->Value->Value->Value->Act)(m:Array Bool)(a':Act)(w':kV):Prop:=
 ∃fJ gf gh eX fy,a'=g fJ gf gh eX fy/\iy w0 rb B d us r k (m.getD 1 false) (m.getD 2 false) (m.getD 3 false) (m.getD 4 false) (m.getD 5 false) (m.getD 7 false) (m.getD 11 false) (m.getD 12 false) fJ gf gh eX fy w'
def Ziq(f:Nat)(hU:ay 138 bO .unary f)(Jl:ay 151 bO .postfix_ f):ay 138 bO .unary (f+1):=by
 intro w rb B d ts r hP hp;have hw:(if zg ts=0 then Z0 f .postfix_ d ts else Zn (qH d ts.tail (Z0 f .unary (d+1) ts.tail)) λx ts'=>fH (.mk (zg ts) ByteArray.empty 0 [x]) ts')=some r:=hp;obtain⟨HP,HU,Jm,H1⟩:=gp hP hU Jl hw;obtain⟨X,Y⟩:=zX w.heap.size
 obtain⟨w1,dU⟩:=zX (w.alloc (.cells #[.string SJ,.string SX,.string Tt] 9))
 have aQ:kW w w1:=Rc
 have ET:X<w1.heap.size:=by rw[dU,Y];simp
 have iG:∀(i:Nat) (x:kB),Tw[i]?=some x->w1.cell? ⟨X,i,none⟩=some (.string x):=by
  intro i x hx;have hb:w1.heap[X]?=some (.cells #[.string SJ,.string SX,.string Tt] 9 (0,0)):=by rw[dU,Y];exact Yq w _
  match i,hx with
  | 0, hx => obtain rfl : SJ = x := by simpa [Tw] using hx
             simp[vC,World.cell?,hb]
  | 1, hx => obtain rfl : SX = x := by simpa [Tw] using hx
             simp[vC,World.cell?,hb]
  | 2, hx => obtain rfl : Tt = x := by simpa [Tw] using hx
             simp[vC,World.cell?,hb]
  |i+3,hx=>simp[Tw]at hx
 have EL:=lh iG;have B1:=lh aQ;unfold SJ SX Tt at dU;refine D8 ?_;intro iT;have Mt:=lh iT;clear hP hp hw hU Jl iG aQ iT;unfold bO;go_enter func138,ntmps138
 go_wp2_with fail
 rw[<-dU,<-Y];have Pc:=lh Y;have od:=lh dU;clear dU Y;go_loopw [7] (λi wr=>∃k:Nat,k<=3/\i=(vI k)/\Hid (∀(j:Nat) (y:kB),j<k->Tw[j]?=some y->ad y ts=false)/\Hid (kW w1 wr)) (λi _=>3-(intOf i).toNat)
 case atStart=>exact⟨0,by omega,rfl,lh (λj y Z=>by omega),lh (Y2 _ _)⟩
 case round=>
  obtain⟨k,hk,rfl,NO,BW⟩:=hrel;have I:=(HP.o.below B1.o).below BW.o;have F2:=lh ((RFr.below (rb:=rb) B1.o).trans (RFr.below BW.o));by_cases bY:k<3
  .obtain⟨x,hx⟩:∃x,Tw[k]? =some x:=⟨_,Y6 bY⟩
   have cx:=(BW.o.cell (p:=⟨X,k,none⟩) ET).trans (EL.o k x hx);have HX:=lh hx;clear hx;by_cases hs:ad x ts=true
   .have ic:=Ztc HX.o hs (λj y Z hy=>NO.o j y Z hy);have HT:=lh (xi wr rb ts d x I.rd hs);have Jm:=Zo hs;have I:=lh I;have US:=lh ic;have cj:Zn (qH d ts.tail (Z0 f .unary (d+1) ts.tail)) (λx ts'=>fH (.mk (zg ts) ByteArray.empty 0 [x]) ts')=some r:=by
     have h:=H1.o;rw[Y3 (by rw[ic.1];omega)]at h;exact h
    rw[ic.1]at cj;have H2:=lh cj;clear hs ic cj;go_wp2_with fail
    refine Tq ?_;intro w2 an ap;have P3:=I.o.tail an ap;have F3:=F2.o.trans ap;have P3:=lh P3;have F3:=lh F3;clear an ap HT;go_wp2_with fail
    obtain⟨J,si,HE,HK⟩:∃J,qH d ts.tail (Z0 f .unary (d+1) ts.tail)=some J/\Hid (∀e,J=.error e->r=.error e)/\Hid (∀t vs,J=.ok (t,vs)->r=.ok (.mk (32+(k:Int)) ByteArray.empty 0 [t],vs)):=by
     rcases Zg H2.o with⟨e,he,rfl⟩|⟨t,vs,he,h2⟩;·exact⟨_,he,lh (λe' h=>by cases h;rfl),lh (λt vs h=>by cases h)⟩
     .exact⟨_,he,lh (λe' h=>by cases h),lh (λt' nD h=>by cases h;exact(Yc h2).symm)⟩
    have Mu:=lh si;have lp:=@run_makeMap Tryz.prog;clear si
    refine Zdn [0,6,8,9,10] [1,2,3,4,5,7,11,12] [13,14] Qh Qh (λ_ _ d _ _ h=>by cases d<;>exact h)
     (AaS w2 rb B d ts.tail J k λfJ gf gh eX fy=>{tmps:=#[vP rb,undef,u2,undef,.string x,.slice (some ⟨X,0,none⟩) 3 3,vI 3,vI k,.bool true,.pointer (some ⟨X,k,none⟩),.string x,vP rb,.string x,.bool true,vP rb,fJ,gf,.string x,gh,vP rb,vP rb,.func (.func 138) #[vP rb] #[],eX,fy,u24,u25,undef,undef],defers:=[]}) ?_ ?_ ?_
    .have ST:Hid (∀fJ gf gh eX fy,iy w2 rb B d ts.tail J k false false false false false false false false fJ gf gh eX fy w2.drew):=lh λ_ _ _ _ _=>
      ⟨0,⟨(λh=>by cases h),(λh=>by cases h),(λh=>by cases h),λ_=>⟨rfl,rfl,rfl⟩⟩,⟨λ_=>⟨P3.o.below (Y2 _ _).drew,(RFr.refl w2 rb).drew,rfl⟩,(λh=>by cases h)⟩,P3.o.lt,P3.o.le,Y0 _⟩
     simp only[List.filterMap_cons,List.filterMap_nil,List.getElem?_toArray,List.getElem?_cons_zero,List.getElem?_cons_succ];have iT:=Mt.o;iterate 5 (refine Zjd ?_ Qt (λw' _=>?_) ?_;rotate_left;(go_simp;first|done|with_reducible rfl);simp only[Act.put,zA,zB,zC])
     exact⟨_,_,_,_,_,rfl,ST.o _ _ _ _ _⟩
    .intro m i a' w3 u hi _ F hd hI;obtain⟨fJ,gf,gh,eX,fy,rfl,o⟩:=hI;have HS:=lh o;clear o;have u:m.size=15:=u;simp only[List.mem_cons,List.not_mem_nil,or_false]at hi;have EU:∀j,(j=2\/j=3\/j=4)->m.getD j false=false->m.getD 5 false=false:=λj Z hf=>by
      cases h5:m.getD 5 false with
      |false=>rfl
      |true=>
        obtain⟨mb,u,_⟩:=HS.o;obtain⟨_,_,e2,e3,e4⟩:=u.2.1 h5;rcases Z with rfl|rfl|rfl;·rw[hf]at e2;cases e2
        .rw[hf]at e3;cases e3
        .rw[hf]at e4;cases e4
     rcases hi with rfl|rfl|rfl|rfl|rfl|rfl|rfl|rfl
     .have o:=HS.o;rw[F]at o;refine Zt1 ?_;simp only[V' (show 1<m.size by rw[u];decide)];refine Zjv ?_;exact o.make
     .have n5:=EU 2 (.inl rfl) F;have d1:=hd 1 Qh;have o:=HS.o;rw[d1,F,n5]at o;obtain⟨mb,n,rfl,hn,O,hK⟩:=o.ins2;refine Z8p Qt ?_;rw[Y5 Qt];refine Z7m _ _ _ 229 rfl 9 3 dR underlying229 _ mb n _ rfl O Qj _ _ _ rfl rfl (Yo Yj Qg) _ [] (plainElem_int Yk Qg) λw4 h4 g4=>?_;refine⟨_,_,_,_,_,rfl,?_⟩;simp only[V' (show 2<m.size by rw[u];decide)];exact Zuh
     .have n5:=EU 3 (.inr (.inl rfl)) F;have d1:=hd 1 Qh;have o:=HS.o;rw[d1,F,n5]at o;obtain⟨mb,n,rfl,hn,O,hK⟩:=o.ins3;refine Z8p Qt ?_;rw[Y5 Qt];refine Z7m _ _ _ 229 rfl 9 3 dR underlying229 _ mb n _ rfl O Qj _ _ _ rfl rfl (Yo Yj Qg) _ [] (plainElem_int Yk Qg) λw4 h4 g4=>?_;refine⟨_,_,_,_,_,rfl,?_⟩;simp only[V' (show 3<m.size by rw[u];decide)];exact Zuh
     .have n5:=EU 4 (.inr (.inr rfl)) F;have d1:=hd 1 Qh;have o:=HS.o;rw[d1,F,n5]at o;obtain⟨mb,n,rfl,hn,O,hK⟩:=o.ins4;refine Z8p Qt ?_;rw[Y5 Qt];refine Z7m _ _ _ 229 rfl 9 3 dR underlying229 _ mb n _ rfl O Qj _ _ _ rfl rfl (Yo Yj Qg) _ [] (plainElem_int Yk Qg) λw4 h4 g4=>?_;refine⟨_,_,_,_,_,rfl,?_⟩;simp only[V' (show 4<m.size by rw[u];decide)];exact Zuh
     .have d1:=hd 1 Qh;have d2:=hd 2 Qh;have d3:=hd 3 Qh;have d4:=hd 4 Qh;have o:=HS.o;rw[d1,d2,d3,d4,F]at o;refine Zt1 ?_;simp only[V' (show 5<m.size by rw[u];decide)];refine Zjv ?_;rw[d1,d2,d3,d4];exact o.move
     .have d5:=hd 5 Qh;have o:=HS.o;rw[d5,F]at o;obtain⟨⟨mb,n,rfl,O⟩,hK⟩:=o.look;refine Z8p Qt ?_;rw[Y5 Qt];refine Za6 _ _ 229 rfl 9 3 .i64 dR underlying229 Yk (Xd _) mb n _ rfl O _ _ rfl (Yo Yj US.o.2.1) λc hc=>?_;obtain rfl:32+(k:Int)=c:=by
       have e:=US.o.2.2.symm.trans hc;simpa using e
      refine⟨_,_,_,_,_,rfl,?_⟩;simp only[V' (show 7<m.size by rw[u];decide)];refine Zjv ?_;rw[d5];exact hK
     .have o:=HS.o;rw[F]at o;obtain⟨U,F4⟩:=o.pre;have HC:=Zf6 w3 rb B ts.tail d _ J U.rd (by have :=U.deep;omega) U.lt Mu.o λhd h1 w4 hR hs=>HU.o w4 rb B (d+1) ts.tail J ⟨hR,hd,U.lt,by have :=U.le;omega,U.few⟩ h1;have HC:=lh HC;have F4:=lh F4;have cH:=lh o;clear U o;refine Z8p Qt ?_;go_simp
      refine HC.o.mono ?_;rcases J with⟨c,p⟩|⟨t,ts'⟩
      .rintro e w4⟨⟨b,rfl,h1,h2⟩,hF⟩;obtain rfl:=HE.o _ rfl;exact⟨rfl,mA.pre (F3.o.trans F4.o) (r:=.error (c,p)) ⟨⟨b,rfl,h1,h2⟩,hF⟩⟩
      .rintro e w4⟨a,rfl,hG,hR,hF⟩;refine⟨_,_,_,_,_,rfl,?_⟩;simp only[V' (show 11<m.size by rw[u];decide)];refine Zjv ?_;exact cH.o.call rfl hG hR hF
     .have Jn:=hd 11 Qh;have o:=HS.o;rw[Jn,F]at o;obtain⟨pb,rfl⟩:=o.ptr;refine Zt1 ?_;simp only[V' (show 12<m.size by rw[u];decide)];refine Zjv ?_;rw[Jn];exact o.box
    .rintro m a' w3 ao⟨fJ,gf,gh,eX,fy,rfl,o⟩;rw[ao 7 Qg,ao 11 Qg,ao 12 Qg]at o;obtain⟨a,t,ts',g,e1,rfl,rfl,hF,hR,hG⟩:=o.fin;simp only[List.filterMap_cons,List.filterMap_nil,List.getElem?_toArray,List.getElem?_cons_zero,List.getElem?_cons_succ];obtain rfl:=HK.o _ _ e1;have HG:=lh hG;have HR:=lh hR;have HF:=lh (F3.o.trans hF);clear hG hR hF o e1 ao;go_wp2_with fail
     refine(wj w3 rb (32+(k:Int)) ⟨#[]⟩ (some ⟨g,0,none⟩) 1 1).mono ?_;rintro e w7⟨rfl,EV⟩;have cR:kW w3 w7:=by rw[EV];exact(Y2 _ _).alloc (Y0 _) _
     have yF:=lh EV;have uZ:=lh cR;clear EV cR;go_wp2;go_ret;refine⟨_,?pt,(by rw[yF.o];exact HG.o.pre F3.o),HR.o.below uZ.o,HF.o.trans (RFr.below uZ.o)⟩;case pt=>simp[ATree.b]
   .have dT:ad x ts=false:=by simpa using hs
    obtain⟨HT,HS,I⟩:=ds (yn wr rb ts d x I.rd dT) dT I;clear hs dT;go_wp2_with fail
    refine HT.o.mono ?_;rintro e w2⟨rfl,ar⟩;have B2:=lh ar;clear ar;go_wp2;go_roundw
    case rel=>exact⟨k+1,by omega,by go_num,lh (λj y Z hy=>by
     by_cases e:j=k;·exact Zwr
     .exact NO.o j y Qe hy),lh (BW.o.trans (B2.o.mono BW.o.size))⟩
    case measure=>simp[intOf];omega
  .have h3:k=3:=by omega
   subst h3;have hn:=Zu4 λi y hi hy=>NO.o i y hi hy;have hq:=H1.o;rw[Y5 hn]at hq;have HC:=Jm.o wr rb B d ts r I hq;unfold bO at HC;have HC:=lh HC;clear hn hq I;go_wp2_with fail
   refine HC.o.mono ?_;rcases r with⟨c,p⟩|⟨t,ts'⟩
   .rintro e w2⟨⟨b,rfl,h1,h2⟩,hF⟩;exact AaC
   .rintro e w2⟨a,rfl,hG,hR,hF⟩;exact ZX
