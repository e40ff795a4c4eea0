import Derived.Test.YtkjdnecemhilpaaGreatDoorJ22
set_option maxRecDepth 100000
set_option maxHeartbeats 20000000
set_option linter.all false
namespace Go.Proofs.YtkjdnecemhilpaaGreatDoor
open Go Go.RowKit Go.Proofs.Tryz Tryz
def AbU(l:List (Int×Int)):List Value:=l.flatMap λp=>[vI p.1,vI p.2]
def Ab3(w:kV)(B:Nat)(v:Value)(r:Res):Prop:=∃g m c1 o p c2,v=.agg #[.slice g m c1,vI r.code,.string r.value,vI r.steps,.slice o p c2]/\Zx w B (.slice g m c1) r.log/\w.ownsRow B 209 2 (.slice o p c2) r.seen.length (AbU r.seen)
def XW(w:kV)(r:Res)(y:Value)(w':kV):Prop:=∃v,y=.tuple #[v,.nilIface]/\Ab3 w' w.heap.size v r/\kW w w'
def Zc3{w w':kV}{B:Nat}{T:TypeId}{k n:Nat}{v:Value}{m:List Value}(h:w.ownsRow 0 T k v n m)(hb:∀g,v.ownBlock=some g->B<=g/\w'.heap[g]?=w.heap[g]?):w'.ownsRow B T k v n m:=by
 have o:=Z3 (w':=w') h λg p=>(hb g p).2;rcases o with⟨a,b|⟨g,cap,u,e,y,r⟩⟩;·exact⟨a,.inl b⟩
 .exact⟨a,.inr ⟨g,cap,u,e,(hb g (by rw[e];rfl)).1,r⟩⟩
def Zf3{w:kV}{B:Nat}{T:TypeId}{k n:Nat}{v:Value}{o:List Value}(h:w.ownsRow B T k v n o):∃p n c,v=.slice p n c:=by
 rcases Z4 h with⟨m,-⟩|⟨g,c,m,-⟩;·exact⟨_,_,_,m⟩
 .exact⟨_,_,_,m⟩
section
variable {C:RCtx}{M M1:MRep}{w z W:kV}{s:MSt}{B:Nat}{a:ATree}{d fb:Nat}{st:Bool}{A:Act}{K:Act->kV->Prop}{Q:Exit->Act->kV->Prop}
def Zlf(I:kW w C.w0)(yl:w.heap.size<C.w0.heap.size)(o:MAt C M1 W s){m:kV}(J:∀k,k≠C.mb->m.heap[k]?=W.heap[k]?)(ba:m.heap.size=W.heap.size)(O:m.os=W.os/\m.tape=W.tape/\m.output=W.output){code:Int}{val:kB}
 (c2:vC m C.mb 2 (M1.row 0))(c3:vC m C.mb 3 (vI code))(c4:vC m C.mb 4 (.string val))(c5:vC m C.mb 5 (vI s.steps))(c6:vC m C.mb 6 (M1.row 1))
 (mY:C.w0.heap[w.heap.size]?=some (.cells #[.slice none 0 0,vI 0,.string ⟨#[]⟩,vI 0,.slice none 0 0] 40 (0,0)))(fr:FrA 201 (MZ C w a []) [] A)
 (hR:∀y a' w',(results f9 a'.tmps).run Tryz.prog w'=.ok y w'->a'.defers=[]->XW w ⟨s.log,code,val,s.steps,s.seen⟩ y w'->Q .ret a' w') :
 (f8 [1,1,1,1,1,1,1,1,1,1,1,1,1,1,1,1]).wp Tryz.prog Q A m:=by
 have jn:C.w0.heap.size<=C.mb:=Nat.not_lt.1 λh=>o.far _ h o.mbHas;have Y:=o.rows 0 Qg;have Z:=o.rows 1 Qg;obtain⟨p1,n1,k1,U⟩:=Zf3 Y;obtain⟨p2,n2,k2,u⟩:=Zf3 Z;have F:∀i g,i<4->(M1.row i).ownBlock=some g->w.heap.size<g/\g≠C.mb:=λi g hi p=>by
  have h1:C.w0.heap.size<=g:=Nat.not_lt.1 λh=>o.far _ h (.inr ⟨i,hi,p⟩);exact⟨by omega,λe=>o.rowNe hi (e▸p)⟩
 have ii:m.heap[w.heap.size]?=some (.cells #[.slice none 0 0,vI 0,.string ⟨#[]⟩,vI 0,.slice none 0 0] 40 (0,0)):=(J _ Qe).trans ((o.old.block _ yl).trans mY);have aH:w.heap.size≠C.mb:=Qe
 have q0:m.cell? ⟨w.heap.size,0,none⟩=some (.slice none 0 0):=Q7
 have q1:m.cell? ⟨w.heap.size,1,none⟩=some (vI 0):=Q7
 have q2:m.cell? ⟨w.heap.size,2,none⟩=some (.string ⟨#[]⟩):=Q7
 have q3:m.cell? ⟨w.heap.size,3,none⟩=some (vI 0):=Q7
 have q4:m.cell? ⟨w.heap.size,4,none⟩=some (.slice none 0 0):=Q7
 have z0:m.frozen? ⟨w.heap.size,0,none⟩=false:=Rb
 have z1:m.frozen? ⟨w.heap.size,1,none⟩=false:=Rb
 have z2:m.frozen? ⟨w.heap.size,2,none⟩=false:=Rb
 have z3:m.frozen? ⟨w.heap.size,3,none⟩=false:=Rb
 have z4:m.frozen? ⟨w.heap.size,4,none⟩=false:=Rb
 have am:∀(v0 X v2 v3 v4:Value),XW w ⟨s.log,code,val,s.steps,s.seen⟩ (.tuple #[.agg #[M1.row 0,vI code,.string val,vI s.steps,M1.row 1],.nilIface]) (((((m.setCell ⟨w.heap.size,0,none⟩ v0).setCell ⟨w.heap.size,1,none⟩ X).setCell ⟨w.heap.size,2,none⟩ v2).setCell ⟨w.heap.size,3,none⟩ v3).setCell ⟨w.heap.size,4,none⟩ v4):=λv0 X v2 v3 v4=>by
  have oA:∀k,k≠w.heap.size->(((((m.setCell ⟨w.heap.size,0,none⟩ v0).setCell ⟨w.heap.size,1,none⟩ X).setCell ⟨w.heap.size,2,none⟩ v2).setCell ⟨w.heap.size,3,none⟩ v3).setCell ⟨w.heap.size,4,none⟩ v4).heap[k]?=m.heap[k]?:=λk hk=>by
   rw[Y8 _ _ _ _ hk,Y8 _ _ _ _ hk,Y8 _ _ _ _ hk,Y8 _ _ _ _ hk,Y8 _ _ _ _ hk]
  refine⟨_,rfl,⟨p1,n1,k1,p2,n2,k2,by rw[U,u],?_,?_⟩,⟨?_,?_,?_,?_,λk hk=>?_⟩⟩
  .rw[<-U];exact Zc3 Y λg p=>⟨by have:=(F 0 g Qg p).1;omega,(oA g (by have:=(F 0 g Qg p).1;omega)).trans (J g (F 0 g Qg p).2)⟩
  .rw[<-u];exact Zc3 Z λg p=>⟨by have:=(F 1 g Qg p).1;omega,(oA g (by have:=(F 1 g Qg p).1;omega)).trans (J g (F 1 g Qg p).2)⟩
  .exact O.1.trans (o.old.os.trans I.os)
  .exact O.2.1.trans (o.old.tape.trans I.tape)
  .exact O.2.2.trans (o.old.output.trans I.output)
  .have h1:=I.size;have h2:=o.old.size;simp only[World.setCell,Array.size_modify];omega
  .exact(oA k Qe).trans ((J k Qe).trans ((o.old.block k Qe).trans (I.block k hk)))
 have bL:=lh am;have HR:=lh hR;obtain⟨X,Ki⟩:=zX (M1.row 0)
 obtain⟨v2,ym⟩:=zX (M1.row 1)
 rw[<-Ki]at c2 U bL;rw[<-ym]at c6 u bL;subst U;subst u;unfold MZ at fr;obtain⟨xt,rfl,e0,u,e5,-⟩:=Zcu fr;rw[e0,u,e5];clear e0 u e5 fr;clear hR am o Y Z F ii mY J ba O Ki ym;conv=>arg 2;whnf
 go_wp2_with fail
 refine HR.o (.tuple #[.agg #[.slice p1 n1 k1,vI code,.string val,vI s.steps,.slice p2 n2 k2],.nilIface]) _ _ ?_ rfl (bL.o _ _ _ _ _);simp[results,results9,go_sem,q0,q1,q2,q3,q4]
end
noncomputable def ef(p:List Nat):Code:=Hr p (f133.body.getD .skip)
theorem Zs2:f133.body=some (ef []):=by kernel_rfl
def Znz(P:Program)(g:Func)(R:Ending->kV->Prop):Exit->Act->kV->Prop
 | .ret,a,w=>Go.Leaves P g a.tmps R a.defers .returning w
 |_,_,_=>False
def Zbi{P:Program}{f:FuncId}{g:Func}{c:Code}{args:Array Value}{w:kV}{R:Ending->kV->Prop}(hf:P.funcs[f]?=some g)(hb:g.body=some c)
 (h:c.wp P (Znz P g R) {tmps:=args++Array.replicate (g.ntmps-args.size) undef,defers:=[]} w):Calls P f args w R:=
 calls_of_wp_defers hf hb (Code.wp_mono (λe a w h=>by cases e<;>first|exact h|exact h.elim) h)
def Us(C:RCtx)(w:kV)(a:ATree)(sc:Int)(l:List (Nat×Value)):List (Nat×Value):=
 (1,vP a.b)::(2,vI sc)::(4,vP w.heap.size)::(7,.pointer (some ⟨w.heap.size+1,0,none⟩))::(8,.pointer (some ⟨w.heap.size+1+1,0,none⟩))::l
structure CaC(C:RCtx)(M:MRep)(w z:kV)(a x0:ATree)(l:List ATree)(B:Nat)(fr:Frm):Prop where
 ok:C.Ok
 old:C.w0.heap.size<=w.heap.size
 below:kW w z
 lm:Lo C M w z w.heap.size #[vP C.mb] 61
 lf:Lo C M w z (w.heap.size+1) #[.bool fr.strict,vI fr.vars] 78
 lr:Lo C M w z (w.heap.size+1+1) #[vI 0,vI 0,.string ⟨#[]⟩] 71
 tr:TreeAt z B a
 fre:a.free M
 kids:a.kids=x0::l
section
variable {C:RCtx}{M M1:MRep}{w z W:kV}{s:MSt}{B:Nat}{a x0:ATree}{l:List ATree}{V:VF}{D:DF}{b sc:Int}{fr:Frm}{d:Nat}{A:Act}{K:Act->kV->Prop}{RR:MSt×Except Er LVal}
def Zx4(h:MAt C M w s)(fr:Frm):∃z,z=((w.alloc (.cells #[vP C.mb] 61)).alloc (.cells #[.bool fr.strict,vI fr.vars] 78)).alloc (.cells #[vI 0,vI 0,.string ⟨#[]⟩] 71)/\kW w z/\Lo C M w z w.heap.size #[vP C.mb] 61/\Lo C M w z (w.heap.size+1) #[.bool fr.strict,vI fr.vars] 78/\
 Lo C M w z (w.heap.size+1+1) #[vI 0,vI 0,.string ⟨#[]⟩] 71:=by
 have b1:=Z2 w (.cells #[vP C.mb] 61);have o:=Lo.new (wE:=w) h (Y0 _) h.old.size #[vP C.mb] 61;have s1:(w.alloc (.cells #[vP C.mb] 61)).heap.size=w.heap.size+1:=World.size_alloc _ _;generalize w.alloc (.cells #[vP C.mb] 61)=w1 at *;have b2:=Z2 w1 (.cells #[.bool fr.strict,vI fr.vars] 78);have g:=Lo.new (wE:=w) (h.below b1) b1.size h.old.size #[.bool fr.strict,vI fr.vars] 78
 have p:(w1.alloc (.cells #[.bool fr.strict,vI fr.vars] 78)).heap.size=w1.heap.size+1:=World.size_alloc _ _;generalize w1.alloc (.cells #[.bool fr.strict,vI fr.vars] 78)=w2 at *;have gi:=b1.trans (b2.mono b1.size);have b3:=Z2 w2 (.cells #[vI 0,vI 0,.string ⟨#[]⟩] 71);have m:=Lo.new (wE:=w) (h.below gi) gi.size h.old.size #[vI 0,vI 0,.string ⟨#[]⟩] 71;rw[s1]at g;rw[p,s1]at m;exact⟨_,rfl,gi.trans (b3.mono gi.size),(o.bel b2).bel b3,g.bel b3,m⟩
def CaC.two(h:CaC C M w z a x0 l B fr):∃g m,l.length+1<=m/\m<=9223372036854775807/\∀p W,MFr M p z W->vC W w.heap.size 0 (vP C.mb)/\vC W (w.heap.size+1) 0 (.bool fr.strict)/\vC W (w.heap.size+1) 1 (vI fr.vars)/\
 vC W a.b 3 (.slice (some ⟨g,0,none⟩) (l.length+1) m)/\vC W g 0 (vP x0.b)/\∀(i:Nat) (y:ATree),l[i]?=some y->W.cell? ⟨g,1+i,none⟩=some (vP y.b):=by
 obtain⟨g,m,c3,u,I,o,F,h5⟩:=h.tr.row h.fre Rn;rw[h.kids]at c3 u o;refine⟨g,m,u,I,λp W f=>⟨(h.lm.fr f).cell rfl,(h.lf.fr f).cell rfl,(h.lf.fr f).cell rfl,(f.cell h.tr.lt h.fre.blk).trans c3,(f.cell F h5).trans (o 0 x0 rfl),λi y J=>(f.cell F h5).trans ?_⟩⟩;rw[Nat.add_comm 1 i];exact o (i+1) y J
theorem CaC.kid(h:CaC C M w z a x0 l B fr){y:ATree}(g:y∈x0::l):TreeAt z B y/\y.free M:=⟨h.tr.kid (by rw[h.kids];exact g),h.fre.kid (by rw[h.kids];exact g)⟩
def Zli{V:VF}{x:NT}{l:List NT}{f:List LVal->RM LVal}:iC (Uq V sc fr (x::l)) f s=match V x sc fr s with
 |(s1,.error e)=>(s1,.error e)
 |(s1,.ok v)=>iC (Uq V sc fr l) (λvs=>f (v::vs)) s1:=by
 simp only[Uq,iC];rcases V x sc fr s with⟨s1,e|v⟩;·rfl
 .simp only;rcases Uq V sc fr l s1 with⟨g,e|vs⟩<;>rfl
theorem UZ:(Tryz.prog.info? 71).map (λi=>(i.zero,i.size,i.bytes))=some (some (.agg #[vI 0,vI 0,.string ⟨#[]⟩]),3,32):=by kernel_rfl
theorem Zwl(w:kV)(o o':Obj):kW w ((w.alloc o).alloc o'):=(Z2 w o).trans ((Z2 (w.alloc o) o').mono (Z2 w o).size)
def AbX(w:kV)(o:Obj)(cs:Array Value)(T:TypeId):∀j u,cs.toList[j]?=some u->((w.alloc o).alloc (.cells cs T)).cell? ((⟨w.heap.size+1,0,none⟩:Addr).add j)=some u:=by
 have h:=Yq (w.alloc o) (.cells cs T);rw[World.size_alloc]at h;exact Ya (cs:=cs) (t:=T) (fr:=(0,0)) h
def Zse(co:zd C V b)(hV:VH V b)(hc:CaC C M w z a x0 l B fr)(hM:MAt C M1 W s)(hF:MFr M M1 z W)(hI:Inv s d)(hA:FAt s sc fr)(hb:b<=s.steps)(hs:s.steps<=20000)
 (fm:∀k∈l,(k.nt C.N).wf .v/\(k.nt C.N).tree.many<=1500)(hl:l.length<=1500){G:List LVal->RM LVal}(hG:RR=iC (Uq V sc fr (l.map (ATree.nt C.N))) G s){v10:Value}(lM:FrA 214 (Us C w a sc [(10,v10),(12,.slice none 0 0)]) [] A)
 (HK:∀A' W' M' s' v vs,FrA 214 (Us C w a sc [(10,v10),(12,v)]) [] A'->MAt C M' W' s'->MFr M1 M' W W'->VRow C M' W W' v vs->vs.length=l.length->Inv s' d->Ext s s'->s'.steps<=20000->s'.calls=s.calls->(∀u∈vs,VQ s' u)->RR=G vs s'->K A' W') :
 (ef [1,1,1,1,0]).wp Tryz.prog (Exit.then K (Znz Tryz.prog f133 (λe w'=>bK C M w RR e w'))) A W:=by
 obtain⟨i0,hi,aC,bj,bJ⟩:=info_parts UZ;obtain⟨kg,kc,cB,aT,hk⟩:=hc.two;obtain⟨q,hq⟩:=zX l.length
 rw[<-hq]at cB hk hl;obtain⟨f0,f1,f2,d3,nW,-⟩:=hk M1 W hF;obtain⟨AU,HO,re,HLR,HBZ,oV,HV,HM,HF,il,HA,HB⟩:=tq hk (Y4 (Y4 hc.old hc.below.size) hF.size) (show∀y∈l,TreeAt W B y/\y.free M1 from λy hy=>hF.tree (hc.kid (List.mem_cons_of_mem _ hy)).1 (hc.kid (List.mem_cons_of_mem _ hy)).2) hc.lr hc.below co hV hM hF hI hA (Yu hb hs);obtain⟨kL,HQ,HG,HKK⟩:=gp fm hq hG HK
 have hn0:0<q+1:=Qe
 have iW:(1:Int)<=((q+1:Nat):Int):=Qe
 unfold Us at lM;obtain⟨xt,rfl,e1,e2,e4,e7,e8,gU,lN,-⟩:=Zer lM;rw[e1,e2,e4,e7,e8,gU,lN];clear e1 e2 e4 e7 e8 gU lN lM;clear co hV hc hM hF hI hA hb hs fm hG HK hk hq;conv=>arg 2;whnf
 by_cases kA:q=0
 .subst kA;have oq:l=[]:=List.eq_nil_of_length_eq_zero HQ.o.symm;have mH:RR=G [] s:=by have :=HG.o;rw[oq]at this;exact this
  have mW:=lh mH;clear mH;go_wp2_with fail
  all_goals
   clear f0 f1 f2 d3 nW;go_loopw [12,46] (λv i wr=>v=.slice none 0 0/\i=(vI 0)/\wr=W) (λ_ _ _=>0)
   case atStart=>exact⟨rfl,rfl,rfl⟩
   case round=>
    obtain⟨rfl,rfl,rfl⟩:=hrel;go_wp2_with fail
    exact HKK.o _ _ M1 s (.slice none 0 0) [] ⟨rfl,⟨rfl,rfl,rfl,rfl,rfl,rfl,rfl,trivial⟩,rfl⟩ HM.o (.refl _ _) (.nil HO.o) (by rw[oq];rfl) il.o (.refl _) HB.o.2 rfl (λv hv=>by cases hv) mW.o
 have AV:¬kc=1:=Qe
 go_wp2_with fail
 clear f0 f1 f2 d3 nW
 go_loopw [12,46] (λv i wr=>∃(k:Nat) (O:MRep) (m:MSt) (vs:List LVal),k<=q/\i=(vI k)/\vs.length=k/\Hid (MAt C O wr m)/\Hid (MFr M1 O W wr)/\Hid (VRow C O W wr v vs)/\Hid (Inv m d)/\Hid (Ext s m/\m.steps<=20000/\m.calls=s.calls)/\Hid (∀v∈vs,VQ m v)/\
  Hid (RR=iC (Uq V sc fr ((l.drop k).map (ATree.nt C.N))) (λcJ s=>G (vs++cJ) s) m)) (λ_ i _=>q-(intOf i).toNat)
 case atStart=>exact⟨0,M1,s,[],Yh _,rfl,rfl,HM,lh (.refl _ _),lh (.nil HO.o),il,lh ⟨.refl _,HB.o.2,rfl⟩,lh (λv hv=>by cases hv),lh (by rw[List.drop_zero];exact HG.o)⟩
 case round=>
  obtain⟨k,O,m,vs,Nv,rfl,dr,HMk,o,oH,eu,I,Kj,HRk⟩:=hrel;obtain⟨pv,cv,gV,jP,iR,-⟩:=oH.o.form;rcases Nat.lt_or_ge k q with hk|hk
  .obtain⟨y,hy⟩:∃y,l[k]? =some y:=⟨_,Y6 (by have :=HQ.o;omega)⟩
   have U:=Yd hy;have F0:=HF.o.trans o.o;have ij:=o.o.tree (re.o y U).1 (re.o y U).2;have X:=HRk.o;have e9:l.drop k=y::l.drop (k+1):=by
    exact Zz0
   rw[e9,List.map_cons,Zli]at X;obtain⟨f0,f1,f2,d3,nW,C8⟩:=AU.o O wr F0;have C8:=C8 k y hy;obtain⟨r2,hr2⟩:=zX (V (y.nt C.N) sc fr m)
   have gA:b<=m.steps:=by have:=HB.o.1;have h3:s.steps<=m.steps:=I.o.1.steps;omega
   have ch:=HA.o.ext I.o.1;have bS:=lh (oV.o.from HMk.o eu.o ch gA I.o.2.1 (kL.o y U).1 (kL.o y U).2 ij.1 ij.2);have am:=(HV.o (y.nt C.N) sc fr m _ (kL.o y U).1 (kL.o y U).2 eu.o ch gA I.o.2.1).1;rw[<-hr2]at bS am X;obtain⟨bF,bD,HFz⟩:=ds am X F0;have Nw:=lh (show VRow C O W wr (.slice pv k cv) vs by rw[<-dr];exact gV▸oH.o);subst gV;rw[dr];have fP:=lh dr;clear dr;clear hy U F0 ij X e9 hr2 gA ch am jP iR;go_wp2_with fail
   refine(bS.o _ (Y2 _ _)).mono ?_;rintro e W2⟨M2,p,F,t2,nN,rfl,aw⟩;obtain⟨bU,bc,nP⟩:=ds aw.1 aw.2.1 aw.2.2;have Y:=Z2 W2 (.cells #[vI p,vI F,.string t2] 71);obtain⟨W3,yo⟩:=zX (W2.alloc (.cells #[vI p,vI F,.string t2] 71))
   have AW:=Lo.new (wE:=W) aw.1 (Y4 o.o.size aw.2.1.size) HO.o #[vI p,vI F,.string t2] 71;rw[<-yo]at Y AW;obtain⟨J,oR,ya⟩:=ds Y AW yo;obtain⟨p3,wC⟩:=zX W2.heap.size
   rw[<-wC]at AW;obtain⟨m0,m1,m2,-,-,-⟩:=AW.six;clear aw f0 f1 f2 d3 nW C8 Y AW yo bS;simp only[ag];obtain⟨Z,q3⟩:=r2;cases q3 with
   |error x3=>
     have he:ax C M2 W2 x3 nN:=nP.o;have bI:RR=(Z,.error x3):=bD.o;have iS:=lh (he.bel J.o);obtain⟨T1,P1,rfl,hP⟩:=he.ne;obtain⟨q0,q1,q2,z0,z1,z2⟩:=(HLR.o.fr ((HFz.o.trans bc.o).trans (.of_below J.o))).six;rw[ya.o]at q0 q1 q2 z0 z1 z2;clear he bD m0 m1 m2;go_wp2_with fail
     simp only[<-ya.o]at q0 q1 q2 ⊢;refine⟨.tuple #[.agg #[vI 0,vI 0,.string ⟨#[]⟩],.iface T1 (.pointer P1)],?_,?_⟩;·exact UL
     .exact bK.err HLR.o HBZ.o (bU.o.below J.o) ((HFz.o.trans bc.o).trans (.of_below J.o)) iS.o
   |ok v3=>
     obtain⟨rfl,rfl⟩:v3=⟨p,F,t2⟩/\nN=.nilIface:=nP.o;have bI:RR=iC (Uq V sc fr ((l.drop (k+1)).map (ATree.nt C.N))) (λcJ s=>G (vs++(⟨p,F,t2⟩::cJ)) s) Z:=bD.o;have dP:=lh bI;have mZ:=Nw.o.fr bc.o;have af:=mZ.row;rw[fP.o]at af;have mL:=lh af;have Nx:=lh mZ;obtain⟨i1,x1,c1,eo,i2⟩:=bF.o;have tC:=lh i1;have Gp:=lh (show Ext s Z/\Z.steps<=20000/\Z.calls=s.calls from⟨I.o.1.trans x1,i2,c1.trans I.o.2.2⟩);have Ny:=lh (show∀v∈vs++[⟨p,F,t2⟩],VQ Z v from λv hv=>by
      rcases List.mem_append.1 hv with h|h;·exact VQ.ext (Kj.o v h) x1
      .rw[List.mem_singleton]at h;rw[h];exact eo)
     clear bD bI af mZ i1 x1 c1 eo i2 m0 m1 m2;rw[wC]at *;clear wC;have eI:=Zwl W2 (.cells #[vI p,vI F,.string t2] 71) (.cells #[vI p,vI F,.string t2] 71);have ep:=lh eI;clear eI
     go_wp2_with (at_builtin;go_must (refine wpList_append_lies _ rfl (.tmp 62) (.tmp 64) 219 rfl W.heap.size 71 i0 _ 3 32 underlying219 hi aC bj bJ rfl Qg (.slice pv k cv) k (vs.flatMap words) rfl ((mL.o.alloc _).alloc _) ⟨W2.heap.size+1,0,none⟩ 1 1 [vI p,vI F,.string t2] rfl rfl (AbX W2 _ _ _) (by intro u hu;simp at hu;rcases hu with rfl|rfl|rfl<;>rfl) Qe Qj Qe (by have h1:=o.o.size;have h2:=bc.o.size;simp;omega) (W2.heap.size+2) Qm ?_);intro g cap W5 lO gH qC Gq;have Nz:=lh gH;have NB:=lh lO;have vW:=lh qC;clear gH lO qC Gq)
     go_roundw
     case rel=>
      obtain⟨u1,u2,u3,-⟩:=Nx.o.push (x:=⟨p,F,t2⟩) bU.o (o.o.trans bc.o) ep.o Nz.o (by rw[fP.o];exact NB.o) (vW.o.imp id λh=>by omega);rw[fP.o]at u3;exact⟨k+1,M2,Z,vs++[⟨p,F,t2⟩],by omega,by go_num,by rw[Yi,fP.o];rfl,lh u1,lh u2,lh u3,tC,Gp,Ny,by
       have:=dP.o;exact lh (by simpa using this)⟩
     case measure=>simp[intOf];omega
  .obtain rfl:k=q:=by omega
   have X:RR=G vs m:=by
    have:=HRk.o;rw[List.drop_eq_nil_of_le So]at this;simpa[Uq,iC,ga]using this
   have HR:=lh X;have AX:=lh (show VRow C O W wr (.slice pv vs.length cv) vs from gV▸oH.o);subst gV;clear X oH;go_wp2_with fail
   exact HKK.o _ _ O m _ vs ⟨rfl,⟨rfl,rfl,rfl,rfl,rfl,rfl,rfl,trivial⟩,rfl⟩ HMk.o o.o AX.o (by rw[dr];exact HQ.o) eu.o I.o.1 I.o.2.1 I.o.2.2 Kj.o HR.o
end
def qK(C:RCtx)(M:MRep)(w:kV)(q:MSt×LVal×Value)(w':kV)(M':MRep)(k n:Int)(t:kB)(ev:Value):Prop:=
 MAt C M' w' q.1/\MFr M M' w w'/\q.2.1=⟨k,n,t⟩/\ev=q.2.2
def YM(C:RCtx)(wE:kV)(M:MRep)(w:kV)(q:MSt×LVal×Value)(W:kV)(p:Nat)(M':MRep)(k n:Int)(t:kB)(ev:Value):Prop:=
 qK C M w q W M' k n t ev/\Lo C M' w W p #[vI k,vI n,.string t] 71
section
variable {C:RCtx}{M M':MRep}{w w':kV}{s s':MSt}{B:Nat}{a:ATree}{V:VF}{D:DF}{b:Int}{sc:Int}{fr:Frm}{d:Nat}
variable {W wE:kV}{k n:Int}{t:kB}{ev:Value}{q:MSt×LVal×Value}
theorem qK.pre(g:kW W w)(h:qK C M w q w' M' k n t ev):qK C M W q w' M' k n t ev:=⟨h.1,(MFr.of_below g).trans h.2.1,h.2.2⟩
theorem qK.bel(h:qK C M w q w' M' k n t ev)(g:kW w' W):qK C M w q W M' k n t ev:=⟨h.1.below g,h.2.1.trans (.of_below g),h.2.2⟩
def qK.boxA(h:qK C M w q w' M' k n t ev)(g:wE.heap.size<=w.heap.size)(m:C.w0.heap.size<=wE.heap.size) :
 YM C wE M w q (w'.alloc (vO k n t)) w'.heap.size M' k n t ev:=
 ⟨h.bel (Z2 _ _),Lo.new h.1 h.2.1.size (Y4 m g) _ _⟩
def qK.lo{k0 n0:Int}{t0:kB}(h:qK C M (w.alloc (vO k0 n0 t0)).drew q w' M' k n t ev)(hM:MAt C M w s)(hE:wE.heap.size<=w.heap.size)(hO:C.w0.heap.size<=wE.heap.size) :
 Lo C M' wE w' w.heap.size #[vI k0,vI n0,.string t0] 71:=by
 exact YV
def qK.boxB{g m:Int}{t0:kB}(h:qK C M (w.alloc (vO g m t0)).drew q w' M' k n t ev)(o:MAt C M w s)(p:wE.heap.size<=w.heap.size)(u:C.w0.heap.size<=wE.heap.size) :
 YM C wE M w q (((w'.setCell ⟨w.heap.size,0,none⟩ (vI k)).setCell ⟨w.heap.size,1,none⟩ (vI n)).setCell ⟨w.heap.size,2,none⟩ (.string t)) w.heap.size M' k n t ev:=by
 have y:=qK.lo (wE:=w) h o (Y0 _) (Y4 u p);obtain⟨F,G,I,J⟩:=y.fill (x':=(vI k)) (y':=(vI n)) (z':=.string t) h.1 ((MFr.of_below ((Z2 w (vO g m t0)).drew)).trans h.2.1) (Y0 _);exact⟨⟨F,G,h.2.2⟩,I⟩
def Zsf(hC:C.Ok)(h:MAt C M w s)(hI:Inv s 0)(rE:d+1<=20000)(ha:TreeAt w B a)(hf:a.free M)(hs:s.steps<20000)(hk:a.kind=23) :
 kC 95 #[vP C.mb,a.ptr,vI sc,.agg #[.bool fr.strict,vI fr.vars]] w λe w'=>bK C M w (zJ (zz V D (a.nt C.N) sc fr) s) e w':=by
 refine OW ?_;intro s1 aL bT hst jB aZ dh di dj z0 aC;rw[<-aC]at aZ dh di dj;refine rs ?_;intro cw f5 y5 aE aX;rw[<-aL]at aE;refine rH ?_;intro z hz;rw[<-hz]at aE aX;refine MJ ?_;intro eJ aJ bz lf lr ln g5 c0;rw[aC]at f5 y5;rw[hz,aC]at g5 c0;refine SU ?_;intro hR R aS;rw[<-aS];rw[<-aS]at hR;clear aS;refine S7 ?_;intro dv HZ HLR bR dC HFz HM fB dW HO HE;have Z:Inv s1 (d+1):=Qz
 have eF:=lh Z;have c1:=aJ.c1;rw[hz,aC]at c1;unfold zz at hR;rw[Za,hk]at hR;simp only[show¬(23:Int)=17 from by decide,show¬(23:Int)=18 from by decide,show¬(23:Int)=19 from by decide,show¬(23:Int)=20 from by decide,show¬(23:Int)=21 from by decide,show¬(23:Int)=22 from by decide,or_self,if_false,if_true,Zox,sw]at hR;rw[hk]at c0;obtain⟨ix,ie⟩:=zX (s1.H.find sc a.text)
 obtain⟨o,dp⟩:=zX (s1.look (a.nt C.N) sc a.text)
 have fp:o.H=s1.H:=by rw[dp];exact Zhy.1
 obtain⟨u,y⟩:=zX ((s1.H.read ix a.text).2)
 obtain⟨rv,sQ⟩:=zX ((s1.H.read ix a.text).1)
 have fK:=Zfh hC aE Z.wf Z.own aJ sc a.text Z.lens.2.2.2.2.2.2.2;rw[<-ie,<-dp]at fK;rw[<-ie,<-dp,<-y,<-sQ]at hR;have oF:=lh fK;have Kk:=lh (λg M' (NC:MAt C M' g o)=>by
  have:=Abf NC ix a.text;rw[fp,<-y,<-sQ]at this;exact this)
 clear hz aC aZ cw aE aX eJ aJ bz dh di dj lf lr ln ha hf h hI aL fK dp fp y sQ ie Z hk;obtain⟨vk,vn,F⟩:=rv;have HR:=lh hR;clear hR;unfold ATree.ptr at oF ⊢;have cS:decide (ix<0)=true/\ix<0\/decide (ix<0)=false/\¬ix<0:=by
  exact Zxb
 go_enter func95,ntmps95
 go_wp2_with fail
 rw[<-HZ.o];clear f5 y5 g5 c0 c1;refine oF.o.mono ?_;rintro e p⟨rfl,M0,cw,fC⟩;have I:=lh cw;have J:=lh fC;obtain⟨m0,m1,m2,-,-,-⟩:=(bR.o.fr fC).six
 have ye:=lh (show∀g M',MFr M0 M' p g->vC g (w.heap.size+1+1) 0 (vI 0)/\vC g (w.heap.size+1+1) 1 (vI 0)/\vC g (w.heap.size+1+1) 2 (.string ⟨#[]⟩)from
  λg M' f=>⟨(bR.o.fr (J.o.trans f)).cell rfl,(bR.o.fr (J.o.trans f)).cell rfl,(bR.o.fr (J.o.trans f)).cell rfl⟩)
 have O:=lh (show∀g M',MFr M0 M' p g->vC g a.b 1 (.string a.text)from λg M' f=>((J.o.trans f).tree fB.o dW.o).1.c1);have rW:=lh (Y4 HE.o fC.size);clear cw fC;rcases cS with⟨d0,d1⟩|⟨d0,d1⟩
 .have an:R=(o,.error (.thr (.say T8))):=by rw[HR.o,Y5 d1];rfl
  clear HR;subst an;have HP:=lh (LW I.o.drew T8);have HD:=lh d1;clear d1;go_wp2_with fail
  refine ZD ?_;intro bw;refine iB ?_;intro K hK;refine HP.o.mono ?_;rintro e W3⟨fj,rfl,j9,hB3⟩;have hF3':MFr M0 M0 p W3:=(MFr.drew (.refl M0 p)).trans (.of_below hB3);refine hK _ _ (ye.o _ _ hF3') ?_;clear hK K m0 m1 m2;exact tu8 J I
 .have bD:=lh (show R=if u≠0 then va T8 o else ga ⟨vk,vn,F⟩ o by rw[HR.o,Y3 Qe])
  have bS:=lh (show∀g,kW p g->kC 121 #[vP C.mb,vI ix,.string a.text] g λe w'=>∃M' k n t ev,e=.returned (.tuple #[ag k n t,ev])/\qK C M0 g (o,⟨vk,vn,F⟩,cL u) w' M' k n t ev from
   λg hB=>(Kk.o g M0 (I.o.below hB)).mono λe w' ⟨he,dn⟩=>⟨M0,vk,vn,F,cL u,he,(I.o.below hB).below dn,.of_below dn,rfl,rfl⟩)
  clear HR d1 Kk;go_wp2_with fail
  refine v7 (.take 0 (.take 1 (.take 2 (.take 3 (.take 4 (.take 5 (.take 6 (.take 7 (.two 8 (.take 9 (.take 10 (.take 11 (.go 12 (.go 13 (.go 14 (.nil))))))) 12 (.go 8 (.take 9 (.take 10 (.take 11 (.go 13 (.go 14 (.nil)))))))))))))))) 13 (λW=>vC W a.b 1 (.string a.text)) (O.o _ _ (MFr.drew (.refl _ _))) ?_;refine ra ?_;refine Zu ?_;apply Te (H:=YM C w M0 p (o,⟨vk,vn,F⟩,cL u))
  .intro cg;refine oK (λK hK=>?_);refine(bS.o _ (Zd _)).mono ?_;rintro e w1⟨M1,k,n,t,ev,rfl,hr⟩;have bB:=hr.pre (Zd _);refine hK _ _ (O.o _ _ bB.2.1) ?_;have fY:=lh bB;clear bB hr hK K;refine Uv ?_;refine oK (λK hK=>?_);refine hK _ _ (O.o _ _ (fY.o.2.1.trans (.of_below (Z2 _ _)))) ?_;clear hK K;try simp only[Act.put,zA,zB,zC]
   refine ta ?_;have m:=fY.o.boxA (wE:=w) rW.o HO.o;unfold vO at m;generalize w1.alloc (.cells #[vI k,vI n,.string t] 71)=W2 at m ⊢;generalize w1.heap.size=p2 at m ⊢;exact cg.o W2 p2 M1 k n t ev m
  .intro cg;refine oK (λK hK=>?_);refine hK _ _ (O.o _ _ (.drew (.of_below (Z2 _ _)))) ?_;clear hK K;refine U9 ?_;intro K hK;refine(bS.o _ (Z2 _ _).drew).mono ?_;rintro e w1⟨M1,k,n,t,ev,rfl,hr⟩;refine hK _ _ (O.o _ _ ((MFr.of_below (Z2 _ _).drew).trans hr.2.1)) ?_;obtain⟨q0,q1,q2,z0,z1,z2⟩:=(qK.lo (wE:=w) hr I.o rW.o HO.o).six;have m:=qK.boxB (wE:=w) hr I.o rW.o HO.o;have cD:=lh (O.o _ _ ((MFr.of_below (Z2 _ _).drew).trans hr.2.1));have fD:=lh m;clear hr hK K m;refine Uv ?_;refine ta ?_;clear q0 q1 q2 z0 z1 z2
   have m:=fD.o;clear fD;generalize((w1.setCell ⟨p.heap.size,0,none⟩ (vI k)).setCell ⟨p.heap.size,1,none⟩ (vI n)).setCell ⟨p.heap.size,2,none⟩ (.string t)=W2 at m ⊢;generalize p.heap.size=p2 at m ⊢;exact cg.o W2 p2 M1 k n t ev m
  rintro W1 p1 M1 k1 n1 t1 bQ U;obtain⟨rfl,rfl,rfl⟩:vk=k1/\vn=n1/\F=t1:=by have:=U.1.2.2.1;simpa using this
  obtain rfl:bQ=cL u:=U.1.2.2.2;have F1:=J.o.trans U.1.2.1;have Y:=lh F1;have bX:=lh (show MAt C M1 W1 o from U.1.1);obtain⟨b0,b1,b2,-,-,-⟩:=U.2.six;obtain⟨m0,m1,m2,-,-,-⟩:=(bR.o.fr F1).six;clear U F1;by_cases y:u=0
  .subst y;have an:R=(o,.ok ⟨vk,vn,F⟩):=bD.o;clear bD;subst an;rw[show cL 0= .nilIface from rfl];obtain⟨q0,q1,q2,z0,z1,z2⟩:=(HLR.o.fr Y.o).six;go_wp2;refine Yp (v:=.tuple #[.agg #[vI vk,vI vn,.string F],.nilIface]) ?_ rfl ?_;·exact ru
   .exact .fine' HLR.o HFz.o bX.o Y.o
  .have an:R=(o,.error (.thr (.say T8))):=by rw[bD.o,Y5 y];rfl
   clear bD;subst an;rw[show cL u=.iface 35 (vI u) by unfold cL;rw[Y3 y]];have HP:=lh (LW bX.o.drew T8)
   have ND:=lh (show∀g M',MFr M1 M' W1 g->vC g (w.heap.size+1+1) 0 (vI 0)/\vC g (w.heap.size+1+1) 1 (vI 0)/\vC g (w.heap.size+1+1) 2 (.string ⟨#[]⟩)from
    λg M' f=>⟨(bR.o.fr (Y.o.trans f)).cell rfl,(bR.o.fr (Y.o.trans f)).cell rfl,(bR.o.fr (Y.o.trans f)).cell rfl⟩)
   clear y;go_wp2_with fail
   refine ZD ?_;intro bw;refine iB ?_;intro K hK;refine Zue ?_;intro W3 fj j9 hB3 hF3';refine hK _ _ (ND.o _ _ hF3') ?_;clear hK K m0 m1 m2 b0 b1 b2;exact tu8 Y bX
def Zye(h:MAt C M w s)(hI:Inv s 0)(F:d+1<=20000)(ha:TreeAt w B a)(hf:a.free M)(hs:s.steps<20000)(hk:a.kind=24)
 (g:∀W M',MAt C M' W {s with steps:=s.steps+1}->TreeAt W B a->a.free M'->kC 122 #[vP C.mb,vP a.b,vI sc,.agg #[.bool fr.strict,vI fr.vars]] W λe w'=>bK C M' W (vu V (a.nt C.N) sc fr {s with steps:=s.steps+1}) e w') :
 kC 95 #[vP C.mb,a.ptr,vI sc,.agg #[.bool fr.strict,vI fr.vars]] w λe w'=>bK C M w (zJ (zz V D (a.nt C.N) sc fr) s) e w':=by
 refine OW ?_;intro s1 aL bT hst jB aZ dh di dj z0 aC;rw[<-aC]at aZ dh di dj;refine rs ?_;intro cw f5 y5 aE aX;rw[<-aL]at aE;refine rH ?_;intro z hz;rw[<-hz]at aE aX;refine MJ ?_;intro eJ aJ bz lf lr ln g5 c0;rw[aC]at f5 y5;rw[hz,aC]at g5 c0;refine SU ?_;intro hR R aS;rw[<-aS];rw[<-aS]at hR;clear aS;refine S7 ?_;intro dv HZ HLR bR dC HFz HM fB dW HO HE;unfold zz at hR;rw[Za]at hR;rw[<-aL]at g;obtain⟨o,p⟩:=lf.two;rw[hz,aC]at o p;have bG:=lh (Calls.vres (g z M aE aJ bz))
 obtain⟨u,m⟩:=zX (vu V (a.nt C.N) sc fr s1)
 rw[<-m]at bG;clear hz aC aZ cw aE aX eJ aJ bz dh di dj lf lr ln ha hf h hI aL g;unfold ATree.ptr;rw[hk]at hR c0;simp at hR;have y:R=u:=by rw[hR,m]
 clear hR m;subst y;go_enter func95,ntmps95
 go_wp2_with fail
 rw[<-HZ.o];clear f5 y5 g5 c0 o p;refine Zv4 ?_;intro W1 M1 k1 n1 t1 bQ q0 q1 q2 z0 z1 z2 au;obtain⟨I,q1⟩:=R;cases q1 with
 |error x1=>
   exact Acw
 |ok v1=>
   exact AbL
def Zxx(h:MAt C M w s)(hI:Inv s 0)(Z:d+1<=20000)(ha:TreeAt w B a)(hf:a.free M)(hs:s.steps<20000)(hk:a.kind=37)
 (g:∀W M',MAt C M' W {s with steps:=s.steps+1}->TreeAt W B a->a.free M'->kC 27 #[vP C.mb,vP a.b,vI sc,.agg #[.bool fr.strict,vI fr.vars]] W λe w'=>e=.returned (.agg #[vI 5,.int .i64 {s with steps:=s.steps+1}.nextO,.string ⟨#[]⟩])/\Does C M' W (({s with steps:=s.steps+1}:MSt).funS (a.nt C.N) sc fr) w') :
 kC 95 #[vP C.mb,a.ptr,vI sc,.agg #[.bool fr.strict,vI fr.vars]] w λe w'=>bK C M w (zJ (zz V D (a.nt C.N) sc fr) s) e w':=by
 refine OW ?_;intro s1 aL bT hst jB aZ dh di dj z0 aC;rw[<-aC]at aZ dh di dj;refine rs ?_;intro cw f5 y5 aE aX;rw[<-aL]at aE;refine rH ?_;intro z hz;rw[<-hz]at aE aX;refine MJ ?_;intro eJ aJ bz lf lr ln g5 c0;rw[aC]at f5 y5;rw[hz,aC]at g5 c0;refine SU ?_;intro hR R aS;rw[<-aS];rw[<-aS]at hR;clear aS;refine S7 ?_;intro dv HZ HLR bR dC HFz HM fB dW HO HE;unfold zz at hR;rw[Za]at hR;rw[<-aL]at g;obtain⟨u,y⟩:=lf.two;rw[hz,aC]at u y;have F:=lh (g z M aE aJ bz)
 obtain⟨O,m⟩:=zX (s1.funS (a.nt C.N) sc fr)
 obtain⟨I,o⟩:=zX s1.nextO
 rw[<-m,<-o]at F;clear hz aC aZ cw aE aX eJ aJ bz dh di dj lf lr ln ha hf h hI aL g;unfold ATree.ptr;rw[hk]at hR c0;simp at hR;have U:R=(O,.ok ⟨5,I,⟨#[]⟩⟩):=by rw[hR,m,o];rfl
 clear hR m o;subst U;go_enter func95,ntmps95
 go_wp2_with fail
 rw[<-HZ.o];clear f5 y5 g5 c0 u y;refine F.o.mono ?_;rintro e W1⟨rfl,M1,J,p⟩;obtain⟨q0,q1,q2,z0,z1,z2⟩:=(HLR.o.fr p).six;have X:=lh J;have Y:=lh p;clear J p;go_wp2;refine Yp (v:=.tuple #[.agg #[vI 5,vI I,.string ⟨#[]⟩],.nilIface]) ?_ rfl ?_;·exact ru
 .exact .fine' HLR.o HFz.o X.o Y.o
def Zp4(h:MAt C M w s)(hI:Inv s 0)(F:d+1<=20000)(ha:TreeAt w B a)(hf:a.free M)(hs:s.steps<20000)(hk:a.kind=32\/a.kind=33\/a.kind=34\/a.kind=35\/a.kind=36\/a.kind=38)
 (g:∀W M',MAt C M' W {s with steps:=s.steps+1}->TreeAt W B a->a.free M'->kC 124 #[vP C.mb,vP a.b,vI sc,.agg #[.bool fr.strict,vI fr.vars]] W λe w'=>bK C M' W (EG V D (a.nt C.N) sc fr {s with steps:=s.steps+1}) e w') :
 kC 95 #[vP C.mb,a.ptr,vI sc,.agg #[.bool fr.strict,vI fr.vars]] w λe w'=>bK C M w (zJ (zz V D (a.nt C.N) sc fr) s) e w':=by
 refine OW ?_;intro s1 aL bT hst jB aZ dh di dj z0 aC;rw[<-aC]at aZ dh di dj;refine rs ?_;intro cw f5 y5 aE aX;rw[<-aL]at aE;refine rH ?_;intro z hz;rw[<-hz]at aE aX;refine MJ ?_;intro eJ aJ bz lf lr ln g5 c0;rw[aC]at f5 y5;rw[hz,aC]at g5 c0;refine SU ?_;intro hR R aS;rw[<-aS];rw[<-aS]at hR;clear aS;refine S7 ?_;intro dv HZ HLR bR dC HFz HM fB dW HO HE;unfold zz at hR;rw[Za]at hR;rw[<-aL]at g;obtain⟨o,p⟩:=lf.two;rw[hz,aC]at o p;have bG:=lh (Calls.vres (g z M aE aJ bz))
 obtain⟨u,m⟩:=zX (EG V D (a.nt C.N) sc fr s1)
 rw[<-m]at bG;clear hz aC aZ cw aE aX eJ aJ bz dh di dj lf lr ln ha hf h hI aL g;unfold ATree.ptr;rcases hk with hk|hk|hk|hk|hk|hk
 all_goals
  rw[hk]at hR c0;simp at hR;have y:R=u:=by rw[hR,m]
  clear hR m;subst y;go_enter func95,ntmps95
  go_wp2_with fail
  rw[<-HZ.o];clear f5 y5 g5 c0 o p;refine Zv4 ?_;intro W1 M1 k1 n1 t1 bQ q0 q1 q2 z0 z1 z2 au;obtain⟨I,q1⟩:=R;cases q1 with
  |error x1=>
    exact Acw
  |ok v1=>
    exact AbL
end
