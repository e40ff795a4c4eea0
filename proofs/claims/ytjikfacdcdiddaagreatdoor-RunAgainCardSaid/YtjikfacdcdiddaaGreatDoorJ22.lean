/- Package run: Run: its end. -/
import Derived.Test.YtjikfacdcdiddaaGreatDoorJ21
set_option maxRecDepth 100000
set_option maxHeartbeats 20000000
set_option linter.unusedVariables false
set_option linter.unusedSimpArgs false
namespace Go.Proofs.YtjikfacdcdiddaaGreatDoor
open Go Go.RowKit
def YH(l:List (Int×Int)):List Value:=l.flatMap λp=>[vI p.1,vI p.2]
def Ws(w:World)(B:Nat)(v:Value)(r:Res):Prop:=∃g m c1 o p c2,v=.agg #[.slice g m c1,vI r.code,.string r.value,vI r.steps,.slice o p c2]∧Zy w B (.slice g m c1) r.log∧w.ownsRow B 78 2 (.slice o p c2) r.seen.length (YH r.seen)
def U4(w:World)(r:Res)(y:Value)(w':World):Prop:=∃v,y=.tuple #[v,.nilIface]∧Ws w' w.heap.size v r∧Below w.heap.size w w'
theorem Zbu{w w':World}{B:Nat}{T:TypeId}{k n:Nat}{v:Value}{m:List Value}(h:w.ownsRow 0 T k v n m)(hb:∀g,v.ownBlock=some g->B<=g∧w'.heap[g]?=w.heap[g]?):w'.ownsRow B T k v n m:=by
 have o:=Z2 (w':=w') h λg p=>(hb g p).2;rcases o with⟨a,b|⟨g,cap,u,e,y,r⟩⟩;·exact⟨a,.inl b⟩
 .exact⟨a,.inr ⟨g,cap,u,e,(hb g (by rw[e];rfl)).1,r⟩⟩
theorem Zef{w:World}{B:Nat}{T:TypeId}{k n:Nat}{v:Value}{o:List Value}(h:w.ownsRow B T k v n o):∃p n c,v=.slice p n c:=by
 rcases Z4 h with⟨m,-⟩|⟨g,c,m,-⟩;·exact⟨_,_,_,m⟩
 .exact⟨_,_,_,m⟩
section
variable {C:RCtx}{M M1:MRep}{w z W:World}{s:MSt}{B:Nat}{a:ATree}{d fb:Nat}{st:Bool}{A:Act}{K:Act->World->Prop}{Q:Exit->Act->World->Prop}
theorem Zk6(F:Below w.heap.size w C.w0)(xS:w.heap.size<C.w0.heap.size)(o:MAt C M1 W s){m:World}(I:∀k,k≠C.mb->m.heap[k]?=W.heap[k]?)(be:m.heap.size=W.heap.size)(J:m.os=W.os∧m.tape=W.tape∧m.output=W.output){code:Int}{val:ByteArray}
 (c2:vC m C.mb 2 (M1.row 0))(c3:vC m C.mb 3 (vI code))(c4:vC m C.mb 4 (.string val))(c5:vC m C.mb 5 (vI s.steps))(c6:vC m C.mb 6 (M1.row 1))
 (mS:C.w0.heap[w.heap.size]?=some (.cells #[.slice none 0 0,vI 0,.string ⟨#[]⟩,vI 0,.slice none 0 0] 29 (0,0)))(fr:FrA 201 (K' C w a []) [] A)
 (hR:∀y a' w',(results Tryz.f6 a'.tmps).run Tryz.prog w'=.ok y w'->a'.defers=[]->U4 w ⟨s.log,code,val,s.steps,s.seen⟩ y w'->Q .ret a' w') :
 (fa [1,1,1,1,1,1,1,1,1,1,1,1,1,1,1,1]).wp Tryz.prog Q A m:=by
 have jo:C.w0.heap.size<=C.mb:=Nat.not_lt.1 λh=>o.far _ h o.mbHas;have X:=o.rows 0 Pa;have Y:=o.rows 1 Pa;obtain⟨p1,n1,k1,O⟩:=Zef X;obtain⟨p2,n2,k2,u⟩:=Zef Y;have E:∀i g,i<4->(M1.row i).ownBlock=some g->w.heap.size<g∧g≠C.mb:=λi g hi p=>by
  have h1:C.w0.heap.size<=g:=Nat.not_lt.1 λh=>o.far _ h (.inr ⟨i,hi,p⟩);exact⟨by omega,λe=>o.rowNe hi (e▸p)⟩
 have i8:m.heap[w.heap.size]?=some (.cells #[.slice none 0 0,vI 0,.string ⟨#[]⟩,vI 0,.slice none 0 0] 29 (0,0)):=(I _ O').trans ((o.old.block _ xS).trans mS);have aK:w.heap.size≠C.mb:=O'
 have q0:vC m w.heap.size 0 (.slice none 0 0):=Qd
 have q1:vC m w.heap.size 1 (vI 0):=Qd
 have q2:vC m w.heap.size 2 (.string ⟨#[]⟩):=Qd
 have q3:vC m w.heap.size 3 (vI 0):=Qd
 have q4:vC m w.heap.size 4 (.slice none 0 0):=Qd
 have z0:m.frozen? ⟨w.heap.size,0,none⟩=false:=Qh
 have z1:m.frozen? ⟨w.heap.size,1,none⟩=false:=Qh
 have z2:m.frozen? ⟨w.heap.size,2,none⟩=false:=Qh
 have z3:m.frozen? ⟨w.heap.size,3,none⟩=false:=Qh
 have z4:m.frozen? ⟨w.heap.size,4,none⟩=false:=Qh
 have aj:∀(v0 U v2 v3 v4:Value),U4 w ⟨s.log,code,val,s.steps,s.seen⟩ (.tuple #[.agg #[M1.row 0,vI code,.string val,vI s.steps,M1.row 1],.nilIface]) (((((m.setCell ⟨w.heap.size,0,none⟩ v0).setCell ⟨w.heap.size,1,none⟩ U).setCell ⟨w.heap.size,2,none⟩ v2).setCell ⟨w.heap.size,3,none⟩ v3).setCell ⟨w.heap.size,4,none⟩ v4):=λv0 U v2 v3 v4=>by
  have Z:∀k,k≠w.heap.size->(((((m.setCell ⟨w.heap.size,0,none⟩ v0).setCell ⟨w.heap.size,1,none⟩ U).setCell ⟨w.heap.size,2,none⟩ v2).setCell ⟨w.heap.size,3,none⟩ v3).setCell ⟨w.heap.size,4,none⟩ v4).heap[k]?=m.heap[k]?:=λk hk=>by
   rw[Y8 _ _ _ _ hk,Y8 _ _ _ _ hk,Y8 _ _ _ _ hk,Y8 _ _ _ _ hk,Y8 _ _ _ _ hk]
  refine⟨_,rfl,⟨p1,n1,k1,p2,n2,k2,by rw[O,u],?_,?_⟩,⟨?_,?_,?_,?_,λk hk=>?_⟩⟩
  .rw[<-O];exact Zbu X λg p=>⟨by have:=(E 0 g Pa p).1;omega,(Z g (by have:=(E 0 g Pa p).1;omega)).trans (I g (E 0 g Pa p).2)⟩
  .rw[<-u];exact Zbu Y λg p=>⟨by have:=(E 1 g Pa p).1;omega,(Z g (by have:=(E 1 g Pa p).1;omega)).trans (I g (E 1 g Pa p).2)⟩
  .exact J.1.trans (o.old.os.trans F.os)
  .exact J.2.1.trans (o.old.tape.trans F.tape)
  .exact J.2.2.trans (o.old.output.trans F.output)
  .have h1:=F.size;have h2:=o.old.size;simp only[World.setCell,Array.size_modify];omega
  .exact(Z k O').trans ((I k O').trans ((o.old.block k O').trans (F.block k hk)))
 have bR:=lh aj;have HR:=lh hR;obtain⟨U,JD⟩:=zX (M1.row 0)
 obtain⟨v2,xT⟩:=zX (M1.row 1)
 rw[<-JD]at c2 O bR;rw[<-xT]at c6 u bR;subst O;subst u;unfold K' at fr;obtain⟨xt,rfl,e0,u,e5,-⟩:=Wo fr;rw[e0,u,e5];clear e0 u e5 fr;clear hR aj o X Y E i8 mS I be J JD xT;conv=>arg 2;whnf
 go_wp2_with fail
 refine HR.o (.tuple #[.agg #[.slice p1 n1 k1,vI code,.string val,vI s.steps,.slice p2 n2 k2],.nilIface]) _ _ ?_ rfl (bR.o _ _ _ _ _);simp[results,Tryz.results6,go_sem,q0,q1,q2,q3,q4]
end
noncomputable def dX(p:List Nat):Code:=Cb p (Tryz.f131.body.getD .skip)
theorem Zqb:Tryz.f131.body=some (dX []):=by kernel_rfl
def Ys(P:Program)(g:Func)(R:Ending->World->Prop):Exit->Act->World->Prop
 | .ret,a,w=>Go.Leaves P g a.tmps R a.defers .returning w
 |_,_,_=>False
theorem Zas{P:Program}{f:FuncId}{g:Func}{c:Code}{args:Array Value}{w:World}{R:Ending->World->Prop}(hf:P.funcs[f]?=some g)(hb:g.body=some c)
 (h:c.wp P (Ys P g R) {tmps:=args++Array.replicate (g.ntmps-args.size) undef,defers:=[]} w):Calls P f args w R:=
 calls_of_wp_defers hf hb (Code.wp_mono (λe a w h=>by cases e<;>first|exact h|exact h.elim) h)
def Sm(C:RCtx)(w:World)(a:ATree)(sc:Int)(l:List (Nat×Value)):List (Nat×Value):=
 (1,vP a.b)::(2,vI sc)::(4,vP w.heap.size)::(7,.pointer (some ⟨w.heap.size+1,0,none⟩))::(8,.pointer (some ⟨w.heap.size+1+1,0,none⟩))::l
structure CaC(C:RCtx)(M:MRep)(w z:World)(a x0:ATree)(l:List ATree)(B:Nat)(fr:Frm):Prop where
 ok:C.Ok
 old:C.w0.heap.size<=w.heap.size
 below:Below w.heap.size w z
 lm:Lo C M w z w.heap.size #[vP C.mb] 45
 lf:Lo C M w z (w.heap.size+1) #[.bool fr.strict,vI fr.vars] 63
 lr:Lo C M w z (w.heap.size+1+1) #[vI 0,vI 0,.string ⟨#[]⟩] 55
 tr:TreeAt z B a
 fre:a.free M
 kids:a.kids=x0::l
section
variable {C:RCtx}{M M1:MRep}{w z W:World}{s:MSt}{B:Nat}{a x0:ATree}{l:List ATree}{V:VF}{D:DF}{b sc:Int}{fr:Frm}{d:Nat}{A:Act}{K:Act->World->Prop}{RR:MSt×Except Er LVal}
theorem Zsj(h:MAt C M w s)(fr:Frm):∃z,z=((w.alloc (.cells #[vP C.mb] 45)).alloc (.cells #[.bool fr.strict,vI fr.vars] 63)).alloc (.cells #[vI 0,vI 0,.string ⟨#[]⟩] 55)∧Below w.heap.size w z∧Lo C M w z w.heap.size #[vP C.mb] 45∧Lo C M w z (w.heap.size+1) #[.bool fr.strict,vI fr.vars] 63∧
 Lo C M w z (w.heap.size+1+1) #[vI 0,vI 0,.string ⟨#[]⟩] 55:=by
 have b1:=Z1 w (.cells #[vP C.mb] 45);have o:=Lo.new (wE:=w) h (Y0 _) h.old.size #[vP C.mb] 45;have s1:(w.alloc (.cells #[vP C.mb] 45)).heap.size=w.heap.size+1:=World.size_alloc _ _;generalize w.alloc (.cells #[vP C.mb] 45)=w1 at *;have b2:=Z1 w1 (.cells #[.bool fr.strict,vI fr.vars] 63);have g:=Lo.new (wE:=w) (h.below b1) b1.size h.old.size #[.bool fr.strict,vI fr.vars] 63
 have p:(w1.alloc (.cells #[.bool fr.strict,vI fr.vars] 63)).heap.size=w1.heap.size+1:=World.size_alloc _ _;generalize w1.alloc (.cells #[.bool fr.strict,vI fr.vars] 63)=w2 at *;have gI:=b1.trans (b2.mono b1.size);have b3:=Z1 w2 (.cells #[vI 0,vI 0,.string ⟨#[]⟩] 55);have m:=Lo.new (wE:=w) (h.below gI) gI.size h.old.size #[vI 0,vI 0,.string ⟨#[]⟩] 55;rw[s1]at g;rw[p,s1]at m;exact⟨_,rfl,gI.trans (b3.mono gI.size),(o.bel b2).bel b3,g.bel b3,m⟩
theorem CaC.two(h:CaC C M w z a x0 l B fr):∃g m,l.length+1<=m∧m<=9223372036854775807∧∀p W,MFr M p z W->vC W w.heap.size 0 (vP C.mb)∧vC W (w.heap.size+1) 0 (.bool fr.strict)∧vC W (w.heap.size+1) 1 (vI fr.vars)∧
 vC W a.b 3 (.slice (some ⟨g,0,none⟩) (l.length+1) m)∧vC W g 0 (vP x0.b)∧∀(i:Nat) (y:ATree),l[i]?=some y->W.cell? ⟨g,1+i,none⟩=some (vP y.b):=by
 obtain⟨g,m,c3,u,F,o,E,h5⟩:=h.tr.row h.fre Qq;rw[h.kids]at c3 u o;refine⟨g,m,u,F,λp W f=>⟨(h.lm.fr f).cell rfl,(h.lf.fr f).cell rfl,(h.lf.fr f).cell rfl,(f.cell h.tr.lt h.fre.blk).trans c3,(f.cell E h5).trans (o 0 x0 rfl),λi y I=>(f.cell E h5).trans ?_⟩⟩;rw[Nat.add_comm 1 i];exact o (i+1) y I
theorem CaC.kid(h:CaC C M w z a x0 l B fr){y:ATree}(g:y∈x0::l):TreeAt z B y∧y.free M:=⟨h.tr.kid (by rw[h.kids];exact g),h.fre.kid (by rw[h.kids];exact g)⟩
theorem Zlr{V:VF}{x:NT}{l:List NT}{f:List LVal->RM LVal}:gE (Sn V sc fr (x::l)) f s=match V x sc fr s with
 |(s1,.error e)=>(s1,.error e)
 |(s1,.ok v)=>gE (Sn V sc fr l) (λvs=>f (v::vs)) s1:=by
 simp only[Sn,gE];rcases V x sc fr s with⟨s1,e|v⟩;·rfl
 .simp only;rcases Sn V sc fr l s1 with⟨g,e|vs⟩<;>rfl
theorem Tryz.infoValK:(Tryz.prog.info? 55).map (λi=>(i.zero,i.size,i.bytes))=some (some (.agg #[vI 0,vI 0,.string ⟨#[]⟩]),3,32):=by kernel_rfl
theorem Ztv(w:World)(o o':Obj):Below w.heap.size w ((w.alloc o).alloc o'):=(Z1 w o).trans ((Z1 (w.alloc o) o').mono (Z1 w o).size)
theorem Zx9(w:World)(o:Obj)(cs:Array Value)(T:TypeId):∀j u,cs.toList[j]?=some u->((w.alloc o).alloc (.cells cs T)).cell? ((⟨w.heap.size+1,0,none⟩:Addr).add j)=some u:=by
 have h:=heap_alloc_new (w.alloc o) (.cells cs T);rw[World.size_alloc]at h;exact Ya (cs:=cs) (t:=T) (fr:=(0,0)) h
theorem Zro(cA:xH C V b)(hV:VH V b)(hc:CaC C M w z a x0 l B fr)(hM:MAt C M1 W s)(Y:MFr M M1 z W)(hI:Inv s d)(hA:FAt s sc fr)(hb:b<=s.steps)(hs:s.steps<=20000)
 (eV:∀k∈l,(k.nt C.N).wf .v∧(k.nt C.N).tree.many<=1500)(hl:l.length<=1500){G:List LVal->RM LVal}(hG:RR=gE (Sn V sc fr (l.map (ATree.nt C.N))) G s){v10:Value}(lI:FrA 214 (Sm C w a sc [(10,v10),(12,.slice none 0 0)]) [] A)
 (HK:∀A' W' M' s' v vs,FrA 214 (Sm C w a sc [(10,v10),(12,v)]) [] A'->MAt C M' W' s'->MFr M1 M' W W'->VRow C M' W W' v vs->vs.length=l.length->Inv s' d->Ext s s'->s'.steps<=20000->s'.calls=s.calls->(∀u∈vs,VQ s' u)->RR=G vs s'->K A' W') :
 (dX [1,1,1,1,0]).wp Tryz.prog (Exit.then K (Ys Tryz.prog Tryz.f131 (λe w'=>al C M w RR e w'))) A W:=by
 obtain⟨i0,hi,aD,bo,bT⟩:=info_parts Tryz.infoValK;obtain⟨kg,kc,ct,aR,hk⟩:=hc.two;obtain⟨q,hq⟩:=zX l.length
 rw[<-hq]at ct hk hl;obtain⟨f0,f1,f2,d3,nP,-⟩:=hk M1 W Y;have Az:=lh hk;have HO:=lh (Y4 (Y4 hc.old hc.below.size) Y.size);have qV:=lh (show∀y∈l,TreeAt W B y∧y.free M1 from λy hy=>Y.tree (hc.kid (List.mem_cons_of_mem _ hy)).1 (hc.kid (List.mem_cons_of_mem _ hy)).2);have ar:=lh hc.lr;have bJ:=lh hc.below;have oS:=lh cA;have HV:=lh hV;have HM:=lh hM;have HF:=lh Y;have ip:=lh hI;have HA:=lh hA;have HB:=lh (And.intro hb hs);have jv:=lh eV;have HQ:=lh hq;have HG:=lh hG;have eg:=lh HK
 have hn0:0<q+1:=O'
 have iY:(1:Int)<=((q+1:Nat):Int):=O'
 unfold Sm at lI;obtain⟨xt,rfl,e1,e2,e4,e7,e8,ia,lJ,-⟩:=YA lI;rw[e1,e2,e4,e7,e8,ia,lJ];clear e1 e2 e4 e7 e8 ia lJ lI;clear cA hV hc hM Y hI hA hb hs eV hG HK hk hq;conv=>arg 2;whnf
 by_cases kI:q=0
 .subst kI;have og:l=[]:=List.eq_nil_of_length_eq_zero HQ.o.symm;have mB:RR=G [] s:=by have :=HG.o;rw[og]at this;exact this
  have mQ:=lh mB;clear mB;go_wp2_with fail
  all_goals
   clear f0 f1 f2 d3 nP;go_loopw [12,46] (λv i wr=>v=.slice none 0 0∧i=(vI 0)∧wr=W) (λ_ _ _=>0)
   case atStart=>exact⟨rfl,rfl,rfl⟩
   case round=>
    obtain⟨rfl,rfl,rfl⟩:=hrel;go_wp2_with fail
    exact eg.o _ _ M1 s (.slice none 0 0) [] ⟨rfl,⟨rfl,rfl,rfl,rfl,rfl,rfl,rfl,trivial⟩,rfl⟩ HM.o (.refl _ _) (.nil HO.o) (by rw[og];rfl) ip.o (.refl _) HB.o.2 rfl (λv Z=>by cases Z) mQ.o
 have AA:¬kc=1:=O'
 go_wp2_with fail
 clear f0 f1 f2 d3 nP
 go_loopw [12,46] (λv i wr=>∃(k:Nat) (F:MRep) (m:MSt) (vs:List LVal),k<=q∧i=(vI k)∧vs.length=k∧Hid (MAt C F wr m)∧Hid (MFr M1 F W wr)∧Hid (VRow C F W wr v vs)∧Hid (Inv m d)∧Hid (Ext s m∧m.steps<=20000∧m.calls=s.calls)∧Hid (∀v∈vs,VQ m v)∧
  Hid (RR=gE (Sn V sc fr ((l.drop k).map (ATree.nt C.N))) (λcN s=>G (vs++cN) s) m)) (λ_ i _=>q-(intOf i).toNat)
 case atStart=>exact⟨0,M1,s,[],Yh _,rfl,rfl,HM,lh (.refl _ _),lh (.nil HO.o),ip,lh ⟨.refl _,HB.o.2,rfl⟩,lh (λv Z=>by cases Z),lh (by rw[List.drop_zero];exact HG.o)⟩
 case round=>
  obtain⟨k,F,m,vs,MA,rfl,dA,da,U,oD,eA,E,JE,dY⟩:=hrel;obtain⟨pv,cv,ic,jT,iT,-⟩:=oD.o.form;rcases Nat.lt_or_ge k q with hk|hk
  .obtain⟨y,hy⟩:∃y,l[k]? =some y:=⟨_,Y6 (by have :=HQ.o;omega)⟩
   have I:=Yd hy;have F0:=HF.o.trans U.o;have im:=U.o.tree (qV.o y I).1 (qV.o y I).2;have J:=dY.o;have e9:l.drop k=y::l.drop (k+1):=by
    exact Zw5
   rw[e9,List.map_cons,Zlr]at J;obtain⟨f0,f1,f2,d3,nP,Cy⟩:=Az.o F wr F0;have Cy:=Cy k y hy;obtain⟨r2,hr2⟩:=zX (V (y.nt C.N) sc fr m)
   have gM:b<=m.steps:=by have:=HB.o.1;have h3:s.steps<=m.steps:=E.o.1.steps;omega
   have co:=HA.o.ext E.o.1;have bS:=lh (oS.o.from da.o eA.o co gM E.o.2.1 (jv.o y I).1 (jv.o y I).2 im.1 im.2);have aj:=(HV.o (y.nt C.N) sc fr m _ (jv.o y I).1 (jv.o y I).2 eA.o co gM E.o.2.1).1;rw[<-hr2]at bS aj J;have bC:=lh aj;have bD:=lh J;have bM:=lh F0;have MB:=lh (show VRow C F W wr (.slice pv k cv) vs by rw[<-dA];exact ic▸oD.o);subst ic;rw[dA];have fX:=lh dA;clear dA;clear hy I F0 im J e9 hr2 gM co aj jT iT;go_wp2_with fail
   refine(bS.o _ (Y2 _ _)).mono ?_;rintro e W2⟨M2,o,p,t2,nH,rfl,X⟩;have bW:=lh X.1;have aZ:=lh X.2.1;have nI:=lh X.2.2;have aB:=Z1 W2 (.cells #[vI o,vI p,.string t2] 55);obtain⟨W3,xU⟩:=zX (W2.alloc (.cells #[vI o,vI p,.string t2] 55))
   have AB:=Lo.new (wE:=W) X.1 (Y4 U.o.size X.2.1.size) HO.o #[vI o,vI p,.string t2] 55;rw[<-xU]at aB AB;have bP:=lh aB;have oO:=lh AB;have xJ:=lh xU;obtain⟨p3,wg⟩:=zX W2.heap.size
   rw[<-wg]at AB;obtain⟨m0,m1,m2,-,-,-⟩:=AB.six;clear X f0 f1 f2 d3 nP Cy aB AB xU bS;simp only[ag];obtain⟨O,q3⟩:=r2;cases q3 with
   | error x3 =>
     have he:ak C M2 W2 x3 nH:=nI.o;have bK:RR=(O,.error x3):=bD.o;have il:=lh (he.bel bP.o);obtain⟨T1,P1,rfl,hP⟩:=he.ne;obtain⟨q0,q1,q2,z0,z1,z2⟩:=(ar.o.fr ((bM.o.trans aZ.o).trans (.of_below bP.o))).six;rw[xJ.o]at q0 q1 q2 z0 z1 z2;clear he bD m0 m1 m2;go_wp2_with fail
     simp only[<-xJ.o]at q0 q1 q2 ⊢;refine⟨.tuple #[.agg #[vI 0,vI 0,.string ⟨#[]⟩],.iface T1 (.pointer P1)],?_,?_⟩;·simp[results,Tryz.results131,go_sem,q0,q1,q2]
     .exact al.err ar.o bJ.o (bW.o.below bP.o) ((bM.o.trans aZ.o).trans (.of_below bP.o)) il.o
   | ok v3 =>
     obtain⟨rfl,rfl⟩:v3=⟨o,p,t2⟩∧nH=.nilIface:=nI.o;have bK:RR=gE (Sn V sc fr ((l.drop (k+1)).map (ATree.nt C.N))) (λcN s=>G (vs++(⟨o,p,t2⟩::cN)) s) O:=bD.o;have dU:=lh bK;have mT:=MB.o.fr aZ.o;have af:=mT.row;rw[fX.o]at af;have mG:=lh af;have MC:=lh mT;obtain⟨i1,x1,c1,ey,i2⟩:=bC.o;have tz:=lh i1;have Fx:=lh (show Ext s O∧O.steps<=20000∧O.calls=s.calls from⟨E.o.1.trans x1,i2,c1.trans E.o.2.2⟩);have MD:=lh (show∀v∈vs++[⟨o,p,t2⟩],VQ O v from λv Z=>by
      rcases List.mem_append.1 Z with h|h;·exact VQ.ext (JE.o v h) x1
      .rw[List.mem_singleton]at h;rw[h];exact ey)
     clear bD bK af mT i1 x1 c1 ey i2 m0 m1 m2;rw[wg]at *;clear wg;have eQ:=Ztv W2 (.cells #[vI o,vI p,.string t2] 55) (.cells #[vI o,vI p,.string t2] 55);have fc:=lh eQ;clear eQ
     go_wp2_with (at_builtin;go_must (refine wpList_append_lies _ rfl (.tmp 62) (.tmp 64) 217 rfl W.heap.size 55 i0 _ 3 32 Tryz.underlying217 hi aD bo bT rfl Pa (.slice pv k cv) k (vs.flatMap words) rfl ((mG.o.alloc _).alloc _) ⟨W2.heap.size+1,0,none⟩ 1 1 [vI o,vI p,.string t2] rfl rfl (Zx9 W2 _ _ _) (by intro u hu;simp at hu;rcases hu with rfl|rfl|rfl<;>rfl) O' Pc O' (by have h1:=U.o.size;have h2:=aZ.o.size;simp;omega) (W2.heap.size+2) Pg ?_);intro g cap W5 lK gT qt Fy;have ME:=lh gT;have MF:=lh lK;have vJ:=lh qt;clear gT lK qt Fy)
     go_roundw
     case rel=>
      obtain⟨u1,u2,u3,-⟩:=MC.o.push (x:=⟨o,p,t2⟩) bW.o (U.o.trans aZ.o) fc.o ME.o (by rw[fX.o];exact MF.o) (vJ.o.imp id λh=>by omega);rw[fX.o]at u3;exact⟨k+1,M2,O,vs++[⟨o,p,t2⟩],by omega,by go_num,by rw[Yi,fX.o];rfl,lh u1,lh u2,lh u3,tz,Fx,MD,by
       have:=dU.o;exact lh (by simpa using this)⟩
     case measure=>simp[intOf];omega
  .obtain rfl:k=q:=by omega
   have J:RR=G vs m:=by
    have:=dY.o;rw[List.drop_eq_nil_of_le Rm]at this;simpa[Sn,gE,f7]using this
   have HR:=lh J;have AC:=lh (show VRow C F W wr (.slice pv vs.length cv) vs from ic▸oD.o);subst ic;clear J oD;go_wp2_with fail
   exact eg.o _ _ F m _ vs ⟨rfl,⟨rfl,rfl,rfl,rfl,rfl,rfl,rfl,trivial⟩,rfl⟩ da.o U.o AC.o (by rw[dA];exact HQ.o) eA.o E.o.1 E.o.2.1 E.o.2.2 JE.o HR.o
end
def oH(C:RCtx)(M:MRep)(w:World)(q:MSt×LVal×Value)(w':World)(M':MRep)(k n:Int)(t:ByteArray)(ev:Value):Prop:=
 MAt C M' w' q.1∧MFr M M' w w'∧q.2.1=⟨k,n,t⟩∧ev=q.2.2
def V7(C:RCtx)(wE:World)(M:MRep)(w:World)(q:MSt×LVal×Value)(W:World)(p:Nat)(M':MRep)(k n:Int)(t:ByteArray)(ev:Value):Prop:=
 oH C M w q W M' k n t ev∧Lo C M' w W p #[vI k,vI n,.string t] 55
section
variable {C:RCtx}{M M':MRep}{w w':World}{s s':MSt}{B:Nat}{a:ATree}{V:VF}{D:DF}{b:Int}{sc:Int}{fr:Frm}{d:Nat}
variable {W wE:World}{k n:Int}{t:ByteArray}{ev:Value}{q:MSt×LVal×Value}
theorem oH.pre(g:Below W.heap.size W w)(h:oH C M w q w' M' k n t ev):oH C M W q w' M' k n t ev:=⟨h.1,(MFr.of_below g).trans h.2.1,h.2.2⟩
theorem oH.bel(h:oH C M w q w' M' k n t ev)(g:Below w'.heap.size w' W):oH C M w q W M' k n t ev:=⟨h.1.below g,h.2.1.trans (.of_below g),h.2.2⟩
theorem oH.boxA(h:oH C M w q w' M' k n t ev)(g:wE.heap.size<=w.heap.size)(m:C.w0.heap.size<=wE.heap.size) :
 V7 C wE M w q (w'.alloc (vO k n t)) w'.heap.size M' k n t ev:=
 ⟨h.bel (Z1 _ _),Lo.new h.1 h.2.1.size (Y4 m g) _ _⟩
theorem oH.lo{k0 n0:Int}{t0:ByteArray}(h:oH C M (w.alloc (vO k0 n0 t0)).drew q w' M' k n t ev)(hM:MAt C M w s)(hE:wE.heap.size<=w.heap.size)(hO:C.w0.heap.size<=wE.heap.size) :
 Lo C M' wE w' w.heap.size #[vI k0,vI n0,.string t0] 55:=by
 exact VN
theorem oH.boxB{g m:Int}{t0:ByteArray}(h:oH C M (w.alloc (vO g m t0)).drew q w' M' k n t ev)(o:MAt C M w s)(p:wE.heap.size<=w.heap.size)(u:C.w0.heap.size<=wE.heap.size) :
 V7 C wE M w q (((w'.setCell ⟨w.heap.size,0,none⟩ (vI k)).setCell ⟨w.heap.size,1,none⟩ (vI n)).setCell ⟨w.heap.size,2,none⟩ (.string t)) w.heap.size M' k n t ev:=by
 have y:=oH.lo (wE:=w) h o (Y0 _) (Y4 u p);obtain⟨E,F,G,I⟩:=y.fill (x':=(vI k)) (y':=(vI n)) (z':=.string t) h.1 ((MFr.of_below ((Z1 w (vO g m t0)).drew)).trans h.2.1) (Y0 _);exact⟨⟨E,F,h.2.2⟩,G⟩
theorem Zqf(hC:C.Ok)(h:MAt C M w s)(hI:Inv s 0)(t7:d+1<=20000)(ha:TreeAt w B a)(hf:a.free M)(hs:s.steps<20000)(hk:a.kind=23) :
 Calls Tryz.prog 77 #[vP C.mb,a.ptr,vI sc,.agg #[.bool fr.strict,vI fr.vars]] w λe w'=>al C M w (yk (x4 V D (a.nt C.N) sc fr) s) e w':=by
 refine I4 ?_;intro s1 aG bY hst jF bc dt du dv z0 aD;rw[<-aD]at bc dt du dv;refine o9 ?_;intro cF f5 y5 aE aY;rw[<-aG]at aE;refine pN ?_;intro z hz;rw[<-hz]at aE aY;refine Kw ?_;intro eT aJ bz lf lr ln g5 c0;rw[aD]at f5 y5;rw[hz,aD]at g5 c0;refine NS ?_;intro hR R aS;rw[<-aS];rw[<-aS]at hR;clear aS;refine L3 ?_;intro dC HZ ar bQ dH bM HM fI ea HO HE;have Y:Inv s1 (d+1):=Pw
 have eL:=lh Y;have c1:=aJ.c1;rw[hz,aD]at c1;unfold x4 at hR;rw[Zc,hk]at hR;simp only[show¬(23:Int)=17 from by decide,show¬(23:Int)=18 from by decide,show¬(23:Int)=19 from by decide,show¬(23:Int)=20 from by decide,show¬(23:Int)=21 from by decide,show¬(23:Int)=22 from by decide,or_self,if_false,if_true,Zo6,Zz]at hR;rw[hk]at c0;obtain⟨ix,iR⟩:=zX (s1.H.find sc a.text)
 obtain⟨p,cO⟩:=zX (s1.look (a.nt C.N) sc a.text)
 have fE:p.H=s1.H:=by rw[cO];exact Zh5.1
 obtain⟨u,y⟩:=zX ((s1.H.read ix a.text).2)
 obtain⟨rv,sM⟩:=zX ((s1.H.read ix a.text).1)
 have fR:=Zd1 hC aE Y.wf Y.own aJ sc a.text Y.lens.2.2.2.2.2.2.2;rw[<-iR,<-cO]at fR;rw[<-iR,<-cO,<-y,<-sM]at hR;have oB:=lh fR;have JF:=lh (λg M' (MG:MAt C M' g p)=>by
  have:=Zx2 MG ix a.text;rw[fE,<-y,<-sM]at this;exact this)
 clear hz aD bc cF aE aY eT aJ bz dt du dv lf lr ln ha hf h hI aG fR cO fE y sM iR Y hk;obtain⟨vk,vn,E⟩:=rv;have HR:=lh hR;clear hR;unfold ATree.ptr at oB ⊢;have dr:decide (ix<0)=true∧ix<0∨decide (ix<0)=false∧¬ix<0:=by
  exact Zsk
 go_enter Tryz.func77,Tryz.ntmps77
 go_wp2_with fail
 rw[<-HZ.o];clear f5 y5 g5 c0 c1;refine oB.o.mono ?_;rintro e m⟨rfl,M0,cF,fJ⟩;have J:=lh cF;have F:=lh fJ;obtain⟨m0,m1,m2,-,-,-⟩:=(bQ.o.fr fJ).six
 have xN:=lh (show∀g M',MFr M0 M' m g->vC g (w.heap.size+1+1) 0 (vI 0)∧vC g (w.heap.size+1+1) 1 (vI 0)∧vC g (w.heap.size+1+1) 2 (.string ⟨#[]⟩)from
  λg M' f=>⟨(bQ.o.fr (F.o.trans f)).cell rfl,(bQ.o.fr (F.o.trans f)).cell rfl,(bQ.o.fr (F.o.trans f)).cell rfl⟩)
 have O:=lh (show∀g M',MFr M0 M' m g->vC g a.b 1 (.string a.text)from λg M' f=>((F.o.trans f).tree fI.o ea.o).1.c1);have rP:=lh (Y4 HE.o fJ.size);clear cF fJ;rcases dr with⟨d0,Z⟩|⟨d0,Z⟩
 .have am:R=(p,.error (.thr (.say RO))):=by rw[HR.o,Y5 Z];rfl
  clear HR;subst am;have HP:=lh (KB J.o.drew RO);have HD:=lh Z;clear Z;go_wp2_with fail
  refine VR ?_;intro bu K hK W3 fg ko aB;have cj:MFr M0 M0 m W3:=(MFr.drew (.refl M0 m)).trans (.of_below aB);refine hK _ _ (xN.o _ _ cj) ?_;clear hK K m0 m1 m2;obtain⟨q0,q1,q2,z0,z1,z2⟩:=(ar.o.fr (F.o.trans cj)).six;have dq:=lh (J.o.drew.below aB);have bE:=lh (F.o.trans cj);exact Xx
 .have bD:=lh (show R=if u≠0 then tG RO p else f7 ⟨vk,vn,E⟩ p by rw[HR.o,Y3 O'])
  have bS:=lh (show∀g,Below m.heap.size m g->Calls Tryz.prog 117 #[vP C.mb,vI ix,.string a.text] g λe w'=>∃M' k n t ev,e=.returned (.tuple #[ag k n t,ev])∧oH C M0 g (p,⟨vk,vn,E⟩,df u) w' M' k n t ev from
   λg hB=>(JF.o g M0 (J.o.below hB)).mono λe w' ⟨he,dx⟩=>⟨M0,vk,vn,E,df u,he,(J.o.below hB).below dx,.of_below dx,rfl,rfl⟩)
  clear HR Z JF;go_wp2_with fail
  refine uY (.take 0 (.take 1 (.take 2 (.take 3 (.take 4 (.take 5 (.take 6 (.take 7 (.two 8 (.take 9 (.take 10 (.take 11 (.go 12 (.go 13 (.go 14 (.nil))))))) 12 (.go 8 (.take 9 (.take 10 (.take 11 (.go 13 (.go 14 (.nil)))))))))))))))) 13 (λW=>vC W a.b 1 (.string a.text)) (O.o _ _ (MFr.drew (.refl _ _))) ?_;refine lM ?_;refine Zt ?_;apply L4 (H:=V7 C w M0 m (p,⟨vk,vn,E⟩,df u))
  .intro ci;refine mH (λK hK=>?_);refine(bS.o _ (Ze _)).mono ?_;rintro e w1⟨M1,k,n,t,ev,rfl,hr⟩;have bA:=hr.pre (Ze _);refine hK _ _ (O.o _ _ bA.2.1) ?_;have gA:=lh bA;clear bA hr hK K;simp only[ag];try simp only[Act.put,zA,zB,zC]
   refine lM ?_;refine mH (λK hK=>?_);refine hK _ _ (O.o _ _ (gA.o.2.1.trans (.of_below (Z1 _ _)))) ?_;clear hK K;try simp only[Act.put,zA,zB,zC]
   refine mA ?_;have o:=gA.o.boxA (wE:=w) rP.o HO.o;unfold vO at o;generalize w1.alloc (.cells #[vI k,vI n,.string t] 55)=W2 at o ⊢;generalize w1.heap.size=p2 at o ⊢;exact ci.o W2 p2 M1 k n t ev o
  .intro ci;refine mH (λK hK=>?_);refine hK _ _ (O.o _ _ (.drew (.of_below (Z1 _ _)))) ?_;clear hK K;try simp only[Act.put,zA,zB,zC]
   refine mH (λK hK=>?_);refine(bS.o _ (Z1 _ _).drew).mono ?_;rintro e w1⟨M1,k,n,t,ev,rfl,hr⟩;refine hK _ _ (O.o _ _ ((MFr.of_below (Z1 _ _).drew).trans hr.2.1)) ?_;obtain⟨q0,q1,q2,z0,z1,z2⟩:=(oH.lo (wE:=w) hr J.o rP.o HO.o).six;have o:=oH.boxB (wE:=w) hr J.o rP.o HO.o;have cJ:=lh (O.o _ _ ((MFr.of_below (Z1 _ _).drew).trans hr.2.1));have fK:=lh o;clear hr hK K o;simp only[ag];try simp only[Act.put,zA,zB,zC]
   refine lM ?_;refine mA ?_;clear q0 q1 q2 z0 z1 z2;have o:=fK.o;clear fK;generalize((w1.setCell ⟨m.heap.size,0,none⟩ (vI k)).setCell ⟨m.heap.size,1,none⟩ (vI n)).setCell ⟨m.heap.size,2,none⟩ (.string t)=W2 at o ⊢;generalize m.heap.size=p2 at o ⊢;exact ci.o W2 p2 M1 k n t ev o
  rintro W1 p1 M1 k1 n1 t1 bU U;obtain⟨rfl,rfl,rfl⟩:vk=k1∧vn=n1∧E=t1:=by have:=U.1.2.2.1;simpa using this
  obtain rfl:bU=df u:=U.1.2.2.2;have F1:=F.o.trans U.1.2.1;have I:=lh F1;have bZ:=lh (show MAt C M1 W1 p from U.1.1);obtain⟨b0,b1,b2,-,-,-⟩:=U.2.six;obtain⟨m0,m1,m2,-,-,-⟩:=(bQ.o.fr F1).six;clear U F1;by_cases y:u=0
  .subst y;have am:R=(p,.ok ⟨vk,vn,E⟩):=bD.o;clear bD;subst am;rw[show df 0= .nilIface from rfl];obtain⟨q0,q1,q2,z0,z1,z2⟩:=(ar.o.fr I.o).six;go_wp2;refine bodyPost_ret (v:=.tuple #[.agg #[vI vk,vI vn,.string E],.nilIface]) ?_ rfl ?_;·simp[results,Tryz.results77,go_sem,q0,q1,q2]
   .exact .fine' ar.o bM.o bZ.o I.o
  .have am:R=(p,.error (.thr (.say RO))):=by rw[bD.o,Y5 y];rfl
   clear bD;subst am;rw[show df u=.iface 34 (vI u) by unfold df;rw[Y3 y]];have HP:=lh (KB bZ.o.drew RO)
   have MH:=lh (show∀g M',MFr M1 M' W1 g->vC g (w.heap.size+1+1) 0 (vI 0)∧vC g (w.heap.size+1+1) 1 (vI 0)∧vC g (w.heap.size+1+1) 2 (.string ⟨#[]⟩)from
    λg M' f=>⟨(bQ.o.fr (I.o.trans f)).cell rfl,(bQ.o.fr (I.o.trans f)).cell rfl,(bQ.o.fr (I.o.trans f)).cell rfl⟩)
   clear y;go_wp2_with fail
   refine VR ?_;intro bu K hK W3 fg ko aB;have cj:MFr M1 M1 W1 W3:=(MFr.drew (.refl M1 W1)).trans (.of_below aB);refine hK _ _ (MH.o _ _ cj) ?_;clear hK K m0 m1 m2 b0 b1 b2;obtain⟨q0,q1,q2,z0,z1,z2⟩:=(ar.o.fr (I.o.trans cj)).six;have dq:=lh (bZ.o.drew.below aB);have bE:=lh (I.o.trans cj);exact Xx
theorem Zu1(h:MAt C M w s)(hI:Inv s 0)(I:d+1<=20000)(ha:TreeAt w B a)(hf:a.free M)(hs:s.steps<20000)(hk:a.kind=24)
 (g:∀W M',MAt C M' W {s with steps:=s.steps+1}->TreeAt W B a->a.free M'->Calls Tryz.prog 118 #[vP C.mb,vP a.b,vI sc,.agg #[.bool fr.strict,vI fr.vars]] W λe w'=>al C M' W (t8 V (a.nt C.N) sc fr {s with steps:=s.steps+1}) e w') :
 Calls Tryz.prog 77 #[vP C.mb,a.ptr,vI sc,.agg #[.bool fr.strict,vI fr.vars]] w λe w'=>al C M w (yk (x4 V D (a.nt C.N) sc fr) s) e w':=by
 refine I4 ?_;intro s1 aG bY hst jF bc dt du dv z0 aD;rw[<-aD]at bc dt du dv;refine o9 ?_;intro cF f5 y5 aE aY;rw[<-aG]at aE;refine pN ?_;intro z hz;rw[<-hz]at aE aY;refine Kw ?_;intro eT aJ bz lf lr ln g5 c0;rw[aD]at f5 y5;rw[hz,aD]at g5 c0;refine NS ?_;intro hR R aS;rw[<-aS];rw[<-aS]at hR;clear aS;refine L3 ?_;intro dC HZ ar bQ dH bM HM fI ea HO HE;unfold x4 at hR;rw[Zc]at hR;rw[<-aG]at g;obtain⟨p,u⟩:=lf.two;rw[hz,aD]at p u;have y:=lh (Calls.vres (g z M aE aJ bz))
 obtain⟨E,m⟩:=zX (t8 V (a.nt C.N) sc fr s1)
 rw[<-m]at y;clear hz aD bc cF aE aY eT aJ bz dt du dv lf lr ln ha hf h hI aG g;unfold ATree.ptr;rw[hk]at hR c0;simp at hR;have F:R=E:=by rw[hR,m]
 clear hR m;subst F;go_enter Tryz.func77,Tryz.ntmps77
 go_wp2_with fail
 rw[<-HZ.o];clear f5 y5 g5 c0 p u;refine y.o.mono ?_;rintro e W1⟨M1,k1,n1,t1,bU,rfl,o⟩;simp only[ag];obtain⟨q0,q1,q2,z0,J,z2⟩:=(ar.o.fr o.2.1).six;have av:=lh o;clear o;obtain⟨O,q1⟩:=R;cases q1 with
 | error x1 =>
   exact YT
 | ok v1 =>
   exact XI
theorem Ztn(h:MAt C M w s)(hI:Inv s 0)(t7:d+1<=20000)(ha:TreeAt w B a)(hf:a.free M)(hs:s.steps<20000)(hk:a.kind=37)
 (g:∀W M',MAt C M' W {s with steps:=s.steps+1}->TreeAt W B a->a.free M'->Calls Tryz.prog 21 #[vP C.mb,vP a.b,vI sc,.agg #[.bool fr.strict,vI fr.vars]] W λe w'=>e=.returned (.agg #[vI 5,.int .i64 {s with steps:=s.steps+1}.nextO,.string ⟨#[]⟩])∧Does C M' W (({s with steps:=s.steps+1}:MSt).funS (a.nt C.N) sc fr) w') :
 Calls Tryz.prog 77 #[vP C.mb,a.ptr,vI sc,.agg #[.bool fr.strict,vI fr.vars]] w λe w'=>al C M w (yk (x4 V D (a.nt C.N) sc fr) s) e w':=by
 refine I4 ?_;intro s1 aG bY hst jF bc dt du dv z0 aD;rw[<-aD]at bc dt du dv;refine o9 ?_;intro cF f5 y5 aE aY;rw[<-aG]at aE;refine pN ?_;intro z hz;rw[<-hz]at aE aY;refine Kw ?_;intro eT aJ bz lf lr ln g5 c0;rw[aD]at f5 y5;rw[hz,aD]at g5 c0;refine NS ?_;intro hR R aS;rw[<-aS];rw[<-aS]at hR;clear aS;refine L3 ?_;intro dC HZ ar bQ dH bM HM fI ea HO HE;unfold x4 at hR;rw[Zc]at hR;rw[<-aG]at g;obtain⟨u,y⟩:=lf.two;rw[hz,aD]at u y;have E:=lh (g z M aE aJ bz)
 obtain⟨J,m⟩:=zX (s1.funS (a.nt C.N) sc fr)
 obtain⟨F,o⟩:=zX s1.nextO
 rw[<-m,<-o]at E;clear hz aD bc cF aE aY eT aJ bz dt du dv lf lr ln ha hf h hI aG g;unfold ATree.ptr;rw[hk]at hR c0;simp at hR;have O:R=(J,.ok ⟨5,F,⟨#[]⟩⟩):=by rw[hR,m,o];rfl
 clear hR m o;subst O;go_enter Tryz.func77,Tryz.ntmps77
 go_wp2_with fail
 rw[<-HZ.o];clear f5 y5 g5 c0 u y;refine E.o.mono ?_;rintro e W1⟨rfl,M1,I,p⟩;obtain⟨U,X,Y,z0,z1,z2⟩:=(ar.o.fr p).six;have Z:=lh I;have bw:=lh p;clear I p;go_wp2;refine bodyPost_ret (v:=.tuple #[.agg #[vI 5,vI F,.string ⟨#[]⟩],.nilIface]) ?_ rfl ?_;·simp[results,Tryz.results77,go_sem,U,X,Y]
 .exact .fine' ar.o bM.o Z.o bw.o
theorem Zp4(h:MAt C M w s)(hI:Inv s 0)(I:d+1<=20000)(ha:TreeAt w B a)(hf:a.free M)(hs:s.steps<20000)(hk:a.kind=32∨a.kind=33∨a.kind=34∨a.kind=35∨a.kind=36∨a.kind=38)
 (g:∀W M',MAt C M' W {s with steps:=s.steps+1}->TreeAt W B a->a.free M'->Calls Tryz.prog 120 #[vP C.mb,vP a.b,vI sc,.agg #[.bool fr.strict,vI fr.vars]] W λe w'=>al C M' W (xn V D (a.nt C.N) sc fr {s with steps:=s.steps+1}) e w') :
 Calls Tryz.prog 77 #[vP C.mb,a.ptr,vI sc,.agg #[.bool fr.strict,vI fr.vars]] w λe w'=>al C M w (yk (x4 V D (a.nt C.N) sc fr) s) e w':=by
 refine I4 ?_;intro s1 aG bY hst jF bc dt du dv z0 aD;rw[<-aD]at bc dt du dv;refine o9 ?_;intro cF f5 y5 aE aY;rw[<-aG]at aE;refine pN ?_;intro z hz;rw[<-hz]at aE aY;refine Kw ?_;intro eT aJ bz lf lr ln g5 c0;rw[aD]at f5 y5;rw[hz,aD]at g5 c0;refine NS ?_;intro hR R aS;rw[<-aS];rw[<-aS]at hR;clear aS;refine L3 ?_;intro dC HZ ar bQ dH bM HM fI ea HO HE;unfold x4 at hR;rw[Zc]at hR;rw[<-aG]at g;obtain⟨p,u⟩:=lf.two;rw[hz,aD]at p u;have y:=lh (Calls.vres (g z M aE aJ bz))
 obtain⟨E,m⟩:=zX (xn V D (a.nt C.N) sc fr s1)
 rw[<-m]at y;clear hz aD bc cF aE aY eT aJ bz dt du dv lf lr ln ha hf h hI aG g;unfold ATree.ptr;rcases hk with hk|hk|hk|hk|hk|hk
 all_goals
  rw[hk]at hR c0;simp at hR;have F:R=E:=by rw[hR,m]
  clear hR m;subst F;go_enter Tryz.func77,Tryz.ntmps77
  go_wp2_with fail
  rw[<-HZ.o];clear f5 y5 g5 c0 p u;refine y.o.mono ?_;rintro e W1⟨M1,k1,n1,t1,bU,rfl,o⟩;simp only[ag];obtain⟨q0,q1,q2,z0,J,z2⟩:=(ar.o.fr o.2.1).six;have av:=lh o;clear o;obtain⟨O,q1⟩:=R;cases q1 with
  | error x1 =>
    exact YT
  | ok v1 =>
    exact XI
end
