import Derived.Test.YtkebnpemgkjpkaaGreatDoorJ21
set_option maxRecDepth 100000
set_option maxHeartbeats 20000000
set_option linter.all false
namespace Go.Proofs.YtkebnpemgkjpkaaGreatDoor
open Go Go.RowKit Go.Proofs.Tryz Tryz
def Znv(l:List (Int×Int)):List Value:=l.flatMap λp=>[vI p.1,vI p.2]
def X7(w:kV)(B:Nat)(v:Value)(r:Res):Prop:=∃g m c1 p u c2,v=.agg #[.slice g m c1,vI r.code,.string r.value,vI r.steps,.slice p u c2]/\Zz w B (.slice g m c1) r.log/\w.ownsRow B 77 2 (.slice p u c2) r.seen.length (Znv r.seen)
def Y'(w:kV)(r:Res)(y:Value)(w':kV):Prop:=∃v,y=.tuple #[v,.nilIface]/\X7 w' w.heap.size v r/\kW w w'
def Zbz{w w':kV}{B:Nat}{T:TypeId}{k n:Nat}{v:Value}{xs:List Value}(h:w.ownsRow 0 T k v n xs)(hb:∀g,v.ownBlock=some g->B<=g/\w'.heap[g]?=w.heap[g]?):w'.ownsRow B T k v n xs:=by
 have h1:=Z3 (w':=w') h λg m=>(hb g m).2;rcases h1 with⟨a,b|⟨g,cap,p,e,u,r⟩⟩;·exact⟨a,.inl b⟩
 .exact⟨a,.inr ⟨g,cap,p,e,(hb g (by rw[e];rfl)).1,r⟩⟩
def Zfk{w:kV}{B:Nat}{T:TypeId}{k n:Nat}{v:Value}{xs:List Value}(h:w.ownsRow B T k v n xs):∃p n c,v=.slice p n c:=by
 rcases Z4 h with⟨h1,-⟩|⟨g,c,h1,-⟩;·exact⟨_,_,_,h1⟩
 .exact⟨_,_,_,h1⟩
section
variable {C:RCtx}{M M1:MRep}{w z W:kV}{s:MSt}{B:Nat}{a:ATree}{d fb:Nat}{st:Bool}{A:Act}{K:Act->kV->Prop}{Q:Exit->Act->kV->Prop}
def Zmp(J:kW w C.w0)(xU:w.heap.size<C.w0.heap.size)(p:MAt C M1 W s){m:kV}(O:∀k,k≠C.mb->m.heap[k]?=W.heap[k]?)(aZ:m.heap.size=W.heap.size)(U:m.os=W.os/\m.tape=W.tape/\m.output=W.output){code:Int}{val:kB}
 (c2:vC m C.mb 2 (M1.row 0))(c3:vC m C.mb 3 (vI code))(c4:vC m C.mb 4 (.string val))(c5:vC m C.mb 5 (vI s.steps))(c6:vC m C.mb 6 (M1.row 1))
 (mS:C.w0.heap[w.heap.size]?=some (.cells #[.slice none 0 0,vI 0,.string ⟨#[]⟩,vI 0,.slice none 0 0] 30 (0,0)))(fr:FrA 201 (O' C w a []) [] A)
 (hR:∀y a' w',(results Tryz.f7 a'.tmps).run Tryz.prog w'=.ok y w'->a'.defers=[]->Y' w ⟨s.log,code,val,s.steps,s.seen⟩ y w'->Q .ret a' w') :
 (fD [1,1,1,1,1,1,1,1,1,1,1,1,1,1,1,1]).wp Tryz.prog Q A m:=by
 have jg:C.w0.heap.size<=C.mb:=Nat.not_lt.1 λh=>p.far _ h p.mbHas;have Z:=p.rows 0 Py;have r1:=p.rows 1 Py;obtain⟨p1,n1,k1,X⟩:=Zfk Z;obtain⟨p2,n2,k2,F⟩:=Zfk r1;have I:∀i g,i<4->(M1.row i).ownBlock=some g->w.heap.size<g/\g≠C.mb:=λi g hi u=>by
  have h1:C.w0.heap.size<=g:=Nat.not_lt.1 λh=>p.far _ h (.inr ⟨i,hi,u⟩);exact⟨by omega,λe=>p.rowNe hi (e▸u)⟩
 have gO:m.heap[w.heap.size]?=some (.cells #[.slice none 0 0,vI 0,.string ⟨#[]⟩,vI 0,.slice none 0 0] 30 (0,0)):=(O _ Px).trans ((p.old.block _ xU).trans mS);have aG:w.heap.size≠C.mb:=Px
 have q0:m.cell? ⟨w.heap.size,0,none⟩=some (.slice none 0 0):=QD
 have q1:m.cell? ⟨w.heap.size,1,none⟩=some (vI 0):=QD
 have q2:m.cell? ⟨w.heap.size,2,none⟩=some (.string ⟨#[]⟩):=QD
 have q3:m.cell? ⟨w.heap.size,3,none⟩=some (vI 0):=QD
 have q4:m.cell? ⟨w.heap.size,4,none⟩=some (.slice none 0 0):=QD
 have z0:m.frozen? ⟨w.heap.size,0,none⟩=false:=QI
 have z1:m.frozen? ⟨w.heap.size,1,none⟩=false:=QI
 have z2:m.frozen? ⟨w.heap.size,2,none⟩=false:=QI
 have z3:m.frozen? ⟨w.heap.size,3,none⟩=false:=QI
 have z4:m.frozen? ⟨w.heap.size,4,none⟩=false:=QI
 have an:∀(v0 Y v2 v3 v4:Value),Y' w ⟨s.log,code,val,s.steps,s.seen⟩ (.tuple #[.agg #[M1.row 0,vI code,.string val,vI s.steps,M1.row 1],.nilIface]) (((((m.setCell ⟨w.heap.size,0,none⟩ v0).setCell ⟨w.heap.size,1,none⟩ Y).setCell ⟨w.heap.size,2,none⟩ v2).setCell ⟨w.heap.size,3,none⟩ v3).setCell ⟨w.heap.size,4,none⟩ v4):=λv0 Y v2 v3 v4=>by
  have oA:∀k,k≠w.heap.size->(((((m.setCell ⟨w.heap.size,0,none⟩ v0).setCell ⟨w.heap.size,1,none⟩ Y).setCell ⟨w.heap.size,2,none⟩ v2).setCell ⟨w.heap.size,3,none⟩ v3).setCell ⟨w.heap.size,4,none⟩ v4).heap[k]?=m.heap[k]?:=λk hk=>by
   rw[Y8 _ _ _ _ hk,Y8 _ _ _ _ hk,Y8 _ _ _ _ hk,Y8 _ _ _ _ hk,Y8 _ _ _ _ hk]
  refine⟨_,rfl,⟨p1,n1,k1,p2,n2,k2,by rw[X,F],?_,?_⟩,⟨?_,?_,?_,?_,λk hk=>?_⟩⟩
  .rw[<-X];exact Zbz Z λg u=>⟨by have:=(I 0 g Py u).1;omega,(oA g (by have:=(I 0 g Py u).1;omega)).trans (O g (I 0 g Py u).2)⟩
  .rw[<-F];exact Zbz r1 λg u=>⟨by have:=(I 1 g Py u).1;omega,(oA g (by have:=(I 1 g Py u).1;omega)).trans (O g (I 1 g Py u).2)⟩
  .exact U.1.trans (p.old.os.trans J.os)
  .exact U.2.1.trans (p.old.tape.trans J.tape)
  .exact U.2.2.trans (p.old.output.trans J.output)
  .have h1:=J.size;have h2:=p.old.size;simp only[World.setCell,Array.size_modify];omega
  .exact(oA k Px).trans ((O k Px).trans ((p.old.block k Px).trans (J.block k hk)))
 have bI:=lh an;have HR:=lh hR;obtain⟨Y,JX⟩:=zX (M1.row 0)
 obtain⟨v2,xV⟩:=zX (M1.row 1)
 rw[<-JX]at c2 X bI;rw[<-xV]at c6 F bI;subst X;subst F;unfold O' at fr;obtain⟨xt,rfl,e0,F,e5,-⟩:=Zcn fr;rw[e0,F,e5];clear e0 F e5 fr;clear hR an p Z r1 I gO mS O aZ U JX xV;conv=>arg 2;whnf
 go_wp2_with fail
 refine HR.o (.tuple #[.agg #[.slice p1 n1 k1,vI code,.string val,vI s.steps,.slice p2 n2 k2],.nilIface]) _ _ ?_ rfl (bI.o _ _ _ _ _);simp[results,results7,go_sem,q0,q1,q2,q3,q4]
end
noncomputable def dT(p:List Nat):Code:=Ip p (f133.body.getD .skip)
theorem Zvc:f133.body=some (dT []):=by kernel_rfl
def Zny(P:Program)(g:Func)(R:Ending->kV->Prop):Exit->Act->kV->Prop
 | .ret,a,w=>Go.Leaves P g a.tmps R a.defers .returning w
 |_,_,_=>False
def Zbr{P:Program}{f:FuncId}{g:Func}{c:Code}{args:Array Value}{w:kV}{R:Ending->kV->Prop}(hf:P.funcs[f]?=some g)(hb:g.body=some c)
 (h:c.wp P (Zny P g R) {tmps:=args++Array.replicate (g.ntmps-args.size) undef,defers:=[]} w):Calls P f args w R:=
 calls_of_wp_defers hf hb (Code.wp_mono (λe a w h=>by cases e<;>first|exact h|exact h.elim) h)
def T5(C:RCtx)(w:kV)(a:ATree)(sc:Int)(l:List (Nat×Value)):List (Nat×Value):=
 (1,vP a.b)::(2,vI sc)::(4,vP w.heap.size)::(7,.pointer (some ⟨w.heap.size+1,0,none⟩))::(8,.pointer (some ⟨w.heap.size+1+1,0,none⟩))::l
structure CaC(C:RCtx)(M:MRep)(w z:kV)(a x0:ATree)(l:List ATree)(B:Nat)(fr:Frm):Prop where
 ok:C.Ok
 old:C.w0.heap.size<=w.heap.size
 below:kW w z
 lm:Lo C M w z w.heap.size #[vP C.mb] 46
 lf:Lo C M w z (w.heap.size+1) #[.bool fr.strict,vI fr.vars] 63
 lr:Lo C M w z (w.heap.size+1+1) #[vI 0,vI 0,.string ⟨#[]⟩] 56
 tr:TreeAt z B a
 fre:a.free M
 kids:a.kids=x0::l
section
variable {C:RCtx}{M M1:MRep}{w z W:kV}{s:MSt}{B:Nat}{a x0:ATree}{l:List ATree}{V:VF}{D:DF}{b sc:Int}{fr:Frm}{d:Nat}{A:Act}{K:Act->kV->Prop}{RR:MSt×Except Er LVal}
def Zwp(h:MAt C M w s)(fr:Frm):∃z,z=((w.alloc (.cells #[vP C.mb] 46)).alloc (.cells #[.bool fr.strict,vI fr.vars] 63)).alloc (.cells #[vI 0,vI 0,.string ⟨#[]⟩] 56)/\kW w z/\Lo C M w z w.heap.size #[vP C.mb] 46/\Lo C M w z (w.heap.size+1) #[.bool fr.strict,vI fr.vars] 63/\
 Lo C M w z (w.heap.size+1+1) #[vI 0,vI 0,.string ⟨#[]⟩] 56:=by
 have b1:=Z1 w (.cells #[vP C.mb] 46);have p:=Lo.new (wE:=w) h (Y0 _) h.old.size #[vP C.mb] 46;have s1:(w.alloc (.cells #[vP C.mb] 46)).heap.size=w.heap.size+1:=World.size_alloc _ _;generalize w.alloc (.cells #[vP C.mb] 46)=w1 at *;have b2:=Z1 w1 (.cells #[.bool fr.strict,vI fr.vars] 63);have g:=Lo.new (wE:=w) (h.below b1) b1.size h.old.size #[.bool fr.strict,vI fr.vars] 63
 have u:(w1.alloc (.cells #[.bool fr.strict,vI fr.vars] 63)).heap.size=w1.heap.size+1:=World.size_alloc _ _;generalize w1.alloc (.cells #[.bool fr.strict,vI fr.vars] 63)=w2 at *;have gh:=b1.trans (b2.mono b1.size);have b3:=Z1 w2 (.cells #[vI 0,vI 0,.string ⟨#[]⟩] 56);have m:=Lo.new (wE:=w) (h.below gh) gh.size h.old.size #[vI 0,vI 0,.string ⟨#[]⟩] 56;rw[s1]at g;rw[u,s1]at m;exact⟨_,rfl,gh.trans (b3.mono gh.size),(p.bel b2).bel b3,g.bel b3,m⟩
def CaC.two(h:CaC C M w z a x0 l B fr):∃g m,l.length+1<=m/\m<=9223372036854775807/\∀u W,MFr M u z W->vC W w.heap.size 0 (vP C.mb)/\vC W (w.heap.size+1) 0 (.bool fr.strict)/\vC W (w.heap.size+1) 1 (vI fr.vars)/\
 vC W a.b 3 (.slice (some ⟨g,0,none⟩) (l.length+1) m)/\vC W g 0 (vP x0.b)/\∀(i:Nat) (y:ATree),l[i]?=some y->W.cell? ⟨g,1+i,none⟩=some (vP y.b):=by
 obtain⟨g,m,c3,h1,I,p,F,h5⟩:=h.tr.row h.fre QR;rw[h.kids]at c3 h1 p;refine⟨g,m,h1,I,λu W f=>⟨(h.lm.fr f).cell rfl,(h.lf.fr f).cell rfl,(h.lf.fr f).cell rfl,(f.cell h.tr.lt h.fre.blk).trans c3,(f.cell F h5).trans (p 0 x0 rfl),λi y J=>(f.cell F h5).trans ?_⟩⟩;rw[Nat.add_comm 1 i];exact p (i+1) y J
theorem CaC.kid(h:CaC C M w z a x0 l B fr){y:ATree}(g:y∈x0::l):TreeAt z B y/\y.free M:=⟨h.tr.kid (by rw[h.kids];exact g),h.fre.kid (by rw[h.kids];exact g)⟩
def Zmx{V:VF}{x:NT}{l:List NT}{f:List LVal->RM LVal}:Zx (Sv V sc fr (x::l)) f s=match V x sc fr s with
 |(s1,.error e)=>(s1,.error e)
 |(s1,.ok v)=>Zx (Sv V sc fr l) (λvs=>f (v::vs)) s1:=by
 simp only[Sv,Zx];rcases V x sc fr s with⟨s1,e|v⟩;·rfl
 .simp only;rcases Sv V sc fr l s1 with⟨g,e|vs⟩<;>rfl
theorem Uj:(Tryz.prog.info? 56).map (λi=>(i.zero,i.size,i.bytes))=some (some (.agg #[vI 0,vI 0,.string ⟨#[]⟩]),3,32):=by kernel_rfl
theorem Zwz(w:kV)(o o':Obj):kW w ((w.alloc o).alloc o'):=(Z1 w o).trans ((Z1 (w.alloc o) o').mono (Z1 w o).size)
def AbG(w:kV)(o:Obj)(cs:Array Value)(T:TypeId):∀j u,cs.toList[j]?=some u->((w.alloc o).alloc (.cells cs T)).cell? ((⟨w.heap.size+1,0,none⟩:Addr).add j)=some u:=by
 have h:=Yq (w.alloc o) (.cells cs T);rw[World.size_alloc]at h;exact Ya (cs:=cs) (t:=T) (fr:=(0,0)) h
def Zur(cj:zm C V b)(hV:VH V b)(hc:CaC C M w z a x0 l B fr)(hM:MAt C M1 W s)(hF:MFr M M1 z W)(hI:Inv s d)(hA:FAt s sc fr)(hb:b<=s.steps)(hs:s.steps<=20000)
 (fj:∀k∈l,(k.nt C.N).wf .v/\(k.nt C.N).tree.many<=1500)(hl:l.length<=1500){G:List LVal->RM LVal}(hG:RR=Zx (Sv V sc fr (l.map (ATree.nt C.N))) G s){v10:Value}(lM:FrA 214 (T5 C w a sc [(10,v10),(12,.slice none 0 0)]) [] A)
 (HK:∀A' W' M' s' v vs,FrA 214 (T5 C w a sc [(10,v10),(12,v)]) [] A'->MAt C M' W' s'->MFr M1 M' W W'->VRow C M' W W' v vs->vs.length=l.length->Inv s' d->Ext s s'->s'.steps<=20000->s'.calls=s.calls->(∀u∈vs,VQ s' u)->RR=G vs s'->K A' W') :
 (dT [1,1,1,1,0]).wp Tryz.prog (Exit.then K (Zny Tryz.prog f133 (λe w'=>cK C M w RR e w'))) A W:=by
 obtain⟨i0,hi,aC,bo,bQ⟩:=info_parts Uj;obtain⟨kg,kc,cC,aR,hk⟩:=hc.two;obtain⟨q,hq⟩:=zX l.length
 rw[<-hq]at cC hk hl;obtain⟨f0,f1,f2,d3,nS,-⟩:=hk M1 W hF;obtain⟨AI,HO,qZ,HLR,HBZ,oV,HV,HM,HF,ii,HA,HB⟩:=oh hk (Y4 (Y4 hc.old hc.below.size) hF.size) (show∀y∈l,TreeAt W B y/\y.free M1 from λy hy=>hF.tree (hc.kid (List.mem_cons_of_mem _ hy)).1 (hc.kid (List.mem_cons_of_mem _ hy)).2) hc.lr hc.below cj hV hM hF hI hA (Yu hb hs);obtain⟨jy,HQ,HG,HKK⟩:=en fj hq hG HK
 have hn0:0<q+1:=Px
 have iR:(1:Int)<=((q+1:Nat):Int):=Px
 unfold T5 at lM;obtain⟨xt,rfl,e1,e2,e4,e7,e8,gU,lN,-⟩:=Zej lM;rw[e1,e2,e4,e7,e8,gU,lN];clear e1 e2 e4 e7 e8 gU lN lM;clear cj hV hc hM hF hI hA hb hs fj hG HK hk hq;conv=>arg 2;whnf
 by_cases ku:q=0
 .subst ku;have om:l=[]:=List.eq_nil_of_length_eq_zero HQ.o.symm;have mw:RR=G [] s:=by have :=HG.o;rw[om]at this;exact this
  have mQ:=lh mw;clear mw;go_wp2_with fail
  all_goals
   clear f0 f1 f2 d3 nS;go_loopw [12,46] (λv i wr=>v=.slice none 0 0/\i=(vI 0)/\wr=W) (λ_ _ _=>0)
   case atStart=>exact⟨rfl,rfl,rfl⟩
   case round=>
    obtain⟨rfl,rfl,rfl⟩:=hrel;go_wp2_with fail
    exact HKK.o _ _ M1 s (.slice none 0 0) [] ⟨rfl,⟨rfl,rfl,rfl,rfl,rfl,rfl,rfl,trivial⟩,rfl⟩ HM.o (.refl _ _) (.nil HO.o) (by rw[om];rfl) ii.o (.refl _) HB.o.2 rfl (λv hv=>by cases hv) mQ.o
 have AJ:¬kc=1:=Px
 go_wp2_with fail
 clear f0 f1 f2 d3 nS
 go_loopw [12,46] (λv i wr=>∃(k:Nat) (U:MRep) (m:MSt) (vs:List LVal),k<=q/\i=(vI k)/\vs.length=k/\Hid (MAt C U wr m)/\Hid (MFr M1 U W wr)/\Hid (VRow C U W wr v vs)/\Hid (Inv m d)/\Hid (Ext s m/\m.steps<=20000/\m.calls=s.calls)/\Hid (∀v∈vs,VQ m v)/\
  Hid (RR=Zx (Sv V sc fr ((l.drop k).map (ATree.nt C.N))) (λcI s=>G (vs++cI) s) m)) (λ_ i _=>q-(intOf i).toNat)
 case atStart=>exact⟨0,M1,s,[],Yh _,rfl,rfl,HM,lh (.refl _ _),lh (.nil HO.o),ii,lh ⟨.refl _,HB.o.2,rfl⟩,lh (λv hv=>by cases hv),lh (by rw[List.drop_zero];exact HG.o)⟩
 case round=>
  obtain⟨k,U,m,vs,MY,rfl,dr,HMk,p,oH,ep,J,JY,HRk⟩:=hrel;obtain⟨pv,cv,gV,jN,iM,-⟩:=oH.o.form;rcases Nat.lt_or_ge k q with hk|hk
  .obtain⟨y,hy⟩:∃y,l[k]? =some y:=⟨_,Y6 (by have :=HQ.o;omega)⟩
   have X:=Yd hy;have F0:=HF.o.trans p.o;have ie:=p.o.tree (qZ.o y X).1 (qZ.o y X).2;have Y:=HRk.o;have e9:l.drop k=y::l.drop (k+1):=by
    exact Zzp
   rw[e9,List.map_cons,Zmx]at Y;obtain⟨f0,f1,f2,d3,nS,CL⟩:=AI.o U wr F0;have CL:=CL k y hy;obtain⟨r2,hr2⟩:=zX (V (y.nt C.N) sc fr m)
   have gz:b<=m.steps:=by have:=HB.o.1;have h3:s.steps<=m.steps:=J.o.1.steps;omega
   have cg:=HA.o.ext J.o.1;have bP:=lh (oV.o.from HMk.o ep.o cg gz J.o.2.1 (jy.o y X).1 (jy.o y X).2 ie.1 ie.2);have an:=(HV.o (y.nt C.N) sc fr m _ (jy.o y X).1 (jy.o y X).2 ep.o cg gz J.o.2.1).1;rw[<-hr2]at bP an Y;obtain⟨bC,bA,HFz⟩:=ds an Y F0;have MZ:=lh (show VRow C U W wr (.slice pv k cv) vs by rw[<-dr];exact gV▸oH.o);subst gV;rw[dr];have fO:=lh dr;clear dr;clear hy X F0 ie Y e9 hr2 gz cg an jN iM;go_wp2_with fail
   refine(bP.o _ (Y2 _ _)).mono ?_;rintro e W2⟨M2,F,I,t2,nK,rfl,aA⟩;obtain⟨bR,ba,nL⟩:=ds aA.1 aA.2.1 aA.2.2;have Z:=Z1 W2 (.cells #[vI F,vI I,.string t2] 56);obtain⟨W3,xW⟩:=zX (W2.alloc (.cells #[vI F,vI I,.string t2] 56))
   have AK:=Lo.new (wE:=W) aA.1 (Y4 p.o.size aA.2.1.size) HO.o #[vI F,vI I,.string t2] 56;rw[<-xW]at Z AK;obtain⟨O,oR,xL⟩:=ds Z AK xW;obtain⟨p3,vZ⟩:=zX W2.heap.size
   rw[<-vZ]at AK;obtain⟨m0,m1,m2,-,-,-⟩:=AK.six;clear aA f0 f1 f2 d3 nS CL Z AK xW bP;simp only[ag];obtain⟨s3,q3⟩:=r2;cases q3 with
   |error x3=>
     have he:ax C M2 W2 x3 nK:=nL.o;have bG:RR=(s3,.error x3):=bA.o;have iN:=lh (he.bel O.o);obtain⟨T1,P1,rfl,hP⟩:=he.ne;obtain⟨q0,q1,q2,z0,z1,z2⟩:=(HLR.o.fr ((HFz.o.trans ba.o).trans (.of_below O.o))).six;rw[xL.o]at q0 q1 q2 z0 z1 z2;clear he bA m0 m1 m2;go_wp2_with fail
     simp only[<-xL.o]at q0 q1 q2 ⊢;refine⟨.tuple #[.agg #[vI 0,vI 0,.string ⟨#[]⟩],.iface T1 (.pointer P1)],?_,?_⟩;·exact UI
     .exact cK.err HLR.o HBZ.o (bR.o.below O.o) ((HFz.o.trans ba.o).trans (.of_below O.o)) iN.o
   |ok v3=>
     obtain⟨rfl,rfl⟩:v3=⟨F,I,t2⟩/\nK=.nilIface:=nL.o;have bG:RR=Zx (Sv V sc fr ((l.drop (k+1)).map (ATree.nt C.N))) (λcI s=>G (vs++(⟨F,I,t2⟩::cI)) s) s3:=bA.o;have dQ:=lh bG;have mT:=MZ.o.fr ba.o;have af:=mT.row;rw[fO.o]at af;have mD:=lh af;have Na:=lh mT;obtain⟨i1,x1,c1,em,i2⟩:=bC.o;have tv:=lh i1;have FW:=lh (show Ext s s3/\s3.steps<=20000/\s3.calls=s.calls from⟨J.o.1.trans x1,i2,c1.trans J.o.2.2⟩);have Nb:=lh (show∀v∈vs++[⟨F,I,t2⟩],VQ s3 v from λv hv=>by
      rcases List.mem_append.1 hv with h|h;·exact VQ.ext (JY.o v h) x1
      .rw[List.mem_singleton]at h;rw[h];exact em)
     clear bA bG af mT i1 x1 c1 em i2 m0 m1 m2;rw[vZ]at *;clear vZ;have eF:=Zwz W2 (.cells #[vI F,vI I,.string t2] 56) (.cells #[vI F,vI I,.string t2] 56);have eg:=lh eF;clear eF
     go_wp2_with (at_builtin;go_must (refine wpList_append_lies _ rfl (.tmp 62) (.tmp 64) 217 rfl W.heap.size 56 i0 _ 3 32 underlying217 hi aC bo bQ rfl Py (.slice pv k cv) k (vs.flatMap words) rfl ((mD.o.alloc _).alloc _) ⟨W2.heap.size+1,0,none⟩ 1 1 [vI F,vI I,.string t2] rfl rfl (AbG W2 _ _ _) (by intro u hu;simp at hu;rcases hu with rfl|rfl|rfl<;>rfl) Px PA Px (by have h1:=p.o.size;have h2:=ba.o.size;simp;omega) (W2.heap.size+2) PE ?_);intro g cap W5 lO gH qA FY;have Nc:=lh gH;have Nd:=lh lO;have vH:=lh qA;clear gH lO qA FY)
     go_roundw
     case rel=>
      obtain⟨u1,u2,u3,-⟩:=Na.o.push (x:=⟨F,I,t2⟩) bR.o (p.o.trans ba.o) eg.o Nc.o (by rw[fO.o];exact Nd.o) (vH.o.imp id λh=>by omega);rw[fO.o]at u3;exact⟨k+1,M2,s3,vs++[⟨F,I,t2⟩],by omega,by go_num,by rw[Yi,fO.o];rfl,lh u1,lh u2,lh u3,tv,FW,Nb,by
       have:=dQ.o;exact lh (by simpa using this)⟩
     case measure=>simp[intOf];omega
  .obtain rfl:k=q:=by omega
   have Y:RR=G vs m:=by
    have:=HRk.o;rw[List.drop_eq_nil_of_le RQ]at this;simpa[Sv,Zx,d9]using this
   have HR:=lh Y;have AM:=lh (show VRow C U W wr (.slice pv vs.length cv) vs from gV▸oH.o);subst gV;clear Y oH;go_wp2_with fail
   exact HKK.o _ _ U m _ vs ⟨rfl,⟨rfl,rfl,rfl,rfl,rfl,rfl,rfl,trivial⟩,rfl⟩ HMk.o p.o AM.o (by rw[dr];exact HQ.o) ep.o J.o.1 J.o.2.1 J.o.2.2 JY.o HR.o
end
def qJ(C:RCtx)(M:MRep)(w:kV)(q:MSt×LVal×Value)(w':kV)(M':MRep)(k n:Int)(t:kB)(ev:Value):Prop:=
 MAt C M' w' q.1/\MFr M M' w w'/\q.2.1=⟨k,n,t⟩/\ev=q.2.2
def Aat(C:RCtx)(wE:kV)(M:MRep)(w:kV)(q:MSt×LVal×Value)(W:kV)(p:Nat)(M':MRep)(k n:Int)(t:kB)(ev:Value):Prop:=
 qJ C M w q W M' k n t ev/\Lo C M' w W p #[vI k,vI n,.string t] 56
section
variable {C:RCtx}{M M':MRep}{w w':kV}{s s':MSt}{B:Nat}{a:ATree}{V:VF}{D:DF}{b:Int}{sc:Int}{fr:Frm}{d:Nat}
variable {W wE:kV}{k n:Int}{t:kB}{ev:Value}{q:MSt×LVal×Value}
theorem qJ.pre(g:kW W w)(h:qJ C M w q w' M' k n t ev):qJ C M W q w' M' k n t ev:=⟨h.1,(MFr.of_below g).trans h.2.1,h.2.2⟩
theorem qJ.bel(h:qJ C M w q w' M' k n t ev)(g:kW w' W):qJ C M w q W M' k n t ev:=⟨h.1.below g,h.2.1.trans (.of_below g),h.2.2⟩
def qJ.boxA(h:qJ C M w q w' M' k n t ev)(g:wE.heap.size<=w.heap.size)(m:C.w0.heap.size<=wE.heap.size) :
 Aat C wE M w q (w'.alloc (vO k n t)) w'.heap.size M' k n t ev:=
 ⟨h.bel (Z1 _ _),Lo.new h.1 h.2.1.size (Y4 m g) _ _⟩
def qJ.lo{k0 n0:Int}{t0:kB}(h:qJ C M (w.alloc (vO k0 n0 t0)).drew q w' M' k n t ev)(hM:MAt C M w s)(hE:wE.heap.size<=w.heap.size)(hO:C.w0.heap.size<=wE.heap.size) :
 Lo C M' wE w' w.heap.size #[vI k0,vI n0,.string t0] 56:=by
 exact YK
def qJ.boxB{g m:Int}{t0:kB}(h:qJ C M (w.alloc (vO g m t0)).drew q w' M' k n t ev)(p:MAt C M w s)(u:wE.heap.size<=w.heap.size)(y:C.w0.heap.size<=wE.heap.size) :
 Aat C wE M w q (((w'.setCell ⟨w.heap.size,0,none⟩ (vI k)).setCell ⟨w.heap.size,1,none⟩ (vI n)).setCell ⟨w.heap.size,2,none⟩ (.string t)) w.heap.size M' k n t ev:=by
 have F:=qJ.lo (wE:=w) h p (Y0 _) (Y4 y u);obtain⟨G,I,J,O⟩:=F.fill (x':=(vI k)) (y':=(vI n)) (z':=.string t) h.1 ((MFr.of_below ((Z1 w (vO g m t0)).drew)).trans h.2.1) (Y0 _);exact⟨⟨G,I,h.2.2⟩,J⟩
def Zu8(hC:C.Ok)(h:MAt C M w s)(hI:Inv s 0)(tZ:d+1<=20000)(ha:TreeAt w B a)(hf:a.free M)(hs:s.steps<20000)(hk:a.kind=23) :
 kC 78 #[vP C.mb,a.ptr,vI sc,.agg #[.bool fr.strict,vI fr.vars]] w λe w'=>cK C M w (tm (v7 V D (a.nt C.N) sc fr) s) e w':=by
 refine LX ?_;intro s1 aF bN hst jx aY dh di dj z0 aC;rw[<-aC]at aY dh di dj;refine qF ?_;intro cw f5 y5 aD aW;rw[<-aF]at aD;refine qI ?_;intro z hz;rw[<-hz]at aD aW;refine Of ?_;intro eG aI bu lf lr ln g5 c0;rw[aC]at f5 y5;rw[hz,aC]at g5 c0;refine Su ?_;intro hR R aQ;rw[<-aQ];rw[<-aQ]at hR;clear aQ;refine SA ?_;intro dv HZ HLR bM dB HFz HM ft dW HO HE;have fK:Inv s1 (d+1):=PV
 have eC:=lh fK;have c1:=aI.c1;rw[hz,aC]at c1;unfold v7 at hR;rw[Zb,hk]at hR;simp only[show¬(23:Int)=17 from by decide,show¬(23:Int)=18 from by decide,show¬(23:Int)=19 from by decide,show¬(23:Int)=20 from by decide,show¬(23:Int)=21 from by decide,show¬(23:Int)=22 from by decide,or_self,if_false,if_true,ZF,rH]at hR;rw[hk]at c0;obtain⟨ix,iL⟩:=zX (s1.H.find sc a.text)
 obtain⟨p,cf⟩:=zX (s1.look (a.nt C.N) sc a.text)
 have fk:p.H=s1.H:=by rw[cf];exact Zig.1
 obtain⟨y,F⟩:=zX ((s1.H.read ix a.text).2)
 obtain⟨rv,sO⟩:=zX ((s1.H.read ix a.text).1)
 have fH:=Zfs hC aD fK.wf fK.own aI sc a.text fK.lens.2.2.2.2.2.2.2;rw[<-iL,<-cf]at fH;rw[<-iL,<-cf,<-F,<-sO]at hR;have oF:=lh fH;have JZ:=lh (λg M' (Nf:MAt C M' g p)=>by
  have:=Abv Nf ix a.text;rw[fk,<-F,<-sO]at this;exact this)
 clear hz aC aY cw aD aW eG aI bu dh di dj lf lr ln ha hf h hI aF fH cf fk F sO iL fK hk;obtain⟨vk,vn,I⟩:=rv;have HR:=lh hR;clear hR;unfold ATree.ptr at oF ⊢;have df:decide (ix<0)=true/\ix<0\/decide (ix<0)=false/\¬ix<0:=by
  exact Zx2
 go_enter func78,ntmps78
 go_wp2_with fail
 rw[<-HZ.o];clear f5 y5 g5 c0 c1;refine oF.o.mono ?_;rintro e u⟨rfl,M0,cw,fw⟩;have J:=lh cw;have O:=lh fw;obtain⟨m0,m1,m2,-,-,-⟩:=(bM.o.fr fw).six
 have xP:=lh (show∀g M',MFr M0 M' u g->vC g (w.heap.size+1+1) 0 (vI 0)/\vC g (w.heap.size+1+1) 1 (vI 0)/\vC g (w.heap.size+1+1) 2 (.string ⟨#[]⟩)from
  λg M' f=>⟨(bM.o.fr (O.o.trans f)).cell rfl,(bM.o.fr (O.o.trans f)).cell rfl,(bM.o.fr (O.o.trans f)).cell rfl⟩)
 have U:=lh (show∀g M',MFr M0 M' u g->vC g a.b 1 (.string a.text)from λg M' f=>((O.o.trans f).tree ft.o dW.o).1.c1);have rW:=lh (Y4 HE.o fw.size);clear cw fw;rcases df with⟨d0,d1⟩|⟨d0,d1⟩
 .have am:R=(p,.error (.thr (.say Tp))):=by rw[HR.o,Y5 d1];rfl
  clear HR;subst am;have HP:=lh (Sf J.o.drew Tp);have HD:=lh d1;clear d1;go_wp2_with fail
  refine Aag ?_;intro bq;refine f8 ?_;intro K hK;refine HP.o.mono ?_;rintro e W3⟨fg,rfl,jZ,hB3⟩;have hF3':MFr M0 M0 u W3:=(MFr.drew (.refl M0 u)).trans (.of_below hB3);refine hK _ _ (xP.o _ _ hF3') ?_;clear hK K m0 m1 m2;exact tu8 O J
 .have bA:=lh (show R=if y≠0 then tE Tp p else d9 ⟨vk,vn,I⟩ p by rw[HR.o,Y3 Px])
  have bP:=lh (show∀g,kW u g->kC 118 #[vP C.mb,vI ix,.string a.text] g λe w'=>∃M' k n t ev,e=.returned (.tuple #[ag k n t,ev])/\qJ C M0 g (p,⟨vk,vn,I⟩,da y) w' M' k n t ev from
   λg hB=>(JZ.o g M0 (J.o.below hB)).mono λe w' ⟨he,dn⟩=>⟨M0,vk,vn,I,da y,he,(J.o.below hB).below dn,.of_below dn,rfl,rfl⟩)
  clear HR d1 JZ;go_wp2_with fail
  refine vy (.take 0 (.take 1 (.take 2 (.take 3 (.take 4 (.take 5 (.take 6 (.take 7 (.two 8 (.take 9 (.take 10 (.take 11 (.go 12 (.go 13 (.go 14 (.nil))))))) 12 (.go 8 (.take 9 (.take 10 (.take 11 (.go 13 (.go 14 (.nil)))))))))))))))) 13 (λW=>vC W a.b 1 (.string a.text)) (U.o _ _ (MFr.drew (.refl _ _))) ?_;refine qa ?_;refine Zr ?_;apply Sx (H:=Aat C w M0 u (p,⟨vk,vn,I⟩,da y))
  .intro ca;refine o4 (λK hK=>?_);refine(bP.o _ (Zd _)).mono ?_;rintro e w1⟨M1,k,n,t,ev,rfl,hr⟩;have bz:=hr.pre (Zd _);refine hK _ _ (U.o _ _ bz.2.1) ?_;have fY:=lh bz;clear bz hr hK K;refine UU ?_;refine o4 (λK hK=>?_);refine hK _ _ (U.o _ _ (fY.o.2.1.trans (.of_below (Z1 _ _)))) ?_;clear hK K;try simp only[Act.put,zA,zB,zC]
   refine sU ?_;have m:=fY.o.boxA (wE:=w) rW.o HO.o;unfold vO at m;generalize w1.alloc (.cells #[vI k,vI n,.string t] 56)=W2 at m ⊢;generalize w1.heap.size=p2 at m ⊢;exact ca.o W2 p2 M1 k n t ev m
  .intro ca;refine o4 (λK hK=>?_);refine hK _ _ (U.o _ _ (.drew (.of_below (Z1 _ _)))) ?_;clear hK K;refine UV ?_;intro K hK;refine(bP.o _ (Z1 _ _).drew).mono ?_;rintro e w1⟨M1,k,n,t,ev,rfl,hr⟩;refine hK _ _ (U.o _ _ ((MFr.of_below (Z1 _ _).drew).trans hr.2.1)) ?_;obtain⟨q0,q1,q2,z0,z1,z2⟩:=(qJ.lo (wE:=w) hr J.o rW.o HO.o).six;have m:=qJ.boxB (wE:=w) hr J.o rW.o HO.o;have cE:=lh (U.o _ _ ((MFr.of_below (Z1 _ _).drew).trans hr.2.1));have fy:=lh m;clear hr hK K m;refine UU ?_;refine sU ?_;clear q0 q1 q2 z0 z1 z2
   have m:=fy.o;clear fy;generalize((w1.setCell ⟨u.heap.size,0,none⟩ (vI k)).setCell ⟨u.heap.size,1,none⟩ (vI n)).setCell ⟨u.heap.size,2,none⟩ (.string t)=W2 at m ⊢;generalize u.heap.size=p2 at m ⊢;exact ca.o W2 p2 M1 k n t ev m
  rintro W1 p1 M1 k1 n1 t1 bL Y;obtain⟨rfl,rfl,rfl⟩:vk=k1/\vn=n1/\I=t1:=by have:=Y.1.2.2.1;simpa using this
  obtain rfl:bL=da y:=Y.1.2.2.2;have F1:=O.o.trans Y.1.2.1;have Z:=lh F1;have bT:=lh (show MAt C M1 W1 p from Y.1.1);obtain⟨b0,b1,b2,-,-,-⟩:=Y.2.six;obtain⟨m0,m1,m2,-,-,-⟩:=(bM.o.fr F1).six;clear Y F1;by_cases F:y=0
  .subst F;have am:R=(p,.ok ⟨vk,vn,I⟩):=bA.o;clear bA;subst am;rw[show da 0= .nilIface from rfl];obtain⟨q0,q1,q2,z0,z1,z2⟩:=(HLR.o.fr Z.o).six;go_wp2;refine Yp (v:=.tuple #[.agg #[vI vk,vI vn,.string I],.nilIface]) ?_ rfl ?_;·exact rp
   .exact .fine' HLR.o HFz.o bT.o Z.o
  .have am:R=(p,.error (.thr (.say Tp))):=by rw[bA.o,Y5 F];rfl
   clear bA;subst am;rw[show da y=.iface 44 (vI y) by unfold da;rw[Y3 F]];have HP:=lh (Sf bT.o.drew Tp)
   have xX:=lh (show∀g M',MFr M1 M' W1 g->vC g (w.heap.size+1+1) 0 (vI 0)/\vC g (w.heap.size+1+1) 1 (vI 0)/\vC g (w.heap.size+1+1) 2 (.string ⟨#[]⟩)from
    λg M' f=>⟨(bM.o.fr (Z.o.trans f)).cell rfl,(bM.o.fr (Z.o.trans f)).cell rfl,(bM.o.fr (Z.o.trans f)).cell rfl⟩)
   clear F;go_wp2_with fail
   refine Aag ?_;intro bq;refine f8 ?_;intro K hK;refine Ztf ?_;intro W3 fg jZ hB3 hF3';refine hK _ _ (xX.o _ _ hF3') ?_;clear hK K m0 m1 m2 b0 b1 b2;exact tu8 Z bT
def Acz(h:MAt C M w s)(hI:Inv s 0)(I:d+1<=20000)(ha:TreeAt w B a)(hf:a.free M)(hs:s.steps<20000)(hk:a.kind=24)
 (g:∀W M',MAt C M' W {s with steps:=s.steps+1}->TreeAt W B a->a.free M'->kC 119 #[vP C.mb,vP a.b,vI sc,.agg #[.bool fr.strict,vI fr.vars]] W λe w'=>cK C M' W (qx V (a.nt C.N) sc fr {s with steps:=s.steps+1}) e w') :
 kC 78 #[vP C.mb,a.ptr,vI sc,.agg #[.bool fr.strict,vI fr.vars]] w λe w'=>cK C M w (tm (v7 V D (a.nt C.N) sc fr) s) e w':=by
 refine LX ?_;intro s1 aF bN hst jx aY dh di dj z0 aC;rw[<-aC]at aY dh di dj;refine qF ?_;intro cw f5 y5 aD aW;rw[<-aF]at aD;refine qI ?_;intro z hz;rw[<-hz]at aD aW;refine Of ?_;intro eG aI bu lf lr ln g5 c0;rw[aC]at f5 y5;rw[hz,aC]at g5 c0;refine Su ?_;intro hR R aQ;rw[<-aQ];rw[<-aQ]at hR;clear aQ;refine SA ?_;intro dv HZ HLR bM dB HFz HM ft dW HO HE;unfold v7 at hR;rw[Zb]at hR;rw[<-aF]at g;obtain⟨p,u⟩:=lf.two;rw[hz,aC]at p u;have bE:=lh (Calls.vres (g z M aD aI bu))
 obtain⟨y,m⟩:=zX (qx V (a.nt C.N) sc fr s1)
 rw[<-m]at bE;clear hz aC aY cw aD aW eG aI bu dh di dj lf lr ln ha hf h hI aF g;unfold ATree.ptr;rw[hk]at hR c0;simp at hR;have F:R=y:=by rw[hR,m]
 clear hR m;subst F;go_enter func78,ntmps78
 go_wp2_with fail
 rw[<-HZ.o];clear f5 y5 g5 c0 p u;refine Zwb ?_;intro W1 M1 k1 n1 t1 bL q0 q1 q2 z0 z1 z2 av;obtain⟨J,q1⟩:=R;cases q1 with
 |error x1=>
   exact Acd
 |ok v1=>
   exact Ab6
def Zxq(h:MAt C M w s)(hI:Inv s 0)(tZ:d+1<=20000)(ha:TreeAt w B a)(hf:a.free M)(hs:s.steps<20000)(hk:a.kind=37)
 (g:∀W M',MAt C M' W {s with steps:=s.steps+1}->TreeAt W B a->a.free M'->kC 23 #[vP C.mb,vP a.b,vI sc,.agg #[.bool fr.strict,vI fr.vars]] W λe w'=>e=.returned (.agg #[vI 5,.int .i64 {s with steps:=s.steps+1}.nextO,.string ⟨#[]⟩])/\Does C M' W (({s with steps:=s.steps+1}:MSt).funS (a.nt C.N) sc fr) w') :
 kC 78 #[vP C.mb,a.ptr,vI sc,.agg #[.bool fr.strict,vI fr.vars]] w λe w'=>cK C M w (tm (v7 V D (a.nt C.N) sc fr) s) e w':=by
 refine LX ?_;intro s1 aF bN hst jx aY dh di dj z0 aC;rw[<-aC]at aY dh di dj;refine qF ?_;intro cw f5 y5 aD aW;rw[<-aF]at aD;refine qI ?_;intro z hz;rw[<-hz]at aD aW;refine Of ?_;intro eG aI bu lf lr ln g5 c0;rw[aC]at f5 y5;rw[hz,aC]at g5 c0;refine Su ?_;intro hR R aQ;rw[<-aQ];rw[<-aQ]at hR;clear aQ;refine SA ?_;intro dv HZ HLR bM dB HFz HM ft dW HO HE;unfold v7 at hR;rw[Zb]at hR;rw[<-aF]at g;obtain⟨y,F⟩:=lf.two;rw[hz,aC]at y F;have I:=lh (g z M aD aI bu)
 obtain⟨U,m⟩:=zX (s1.funS (a.nt C.N) sc fr)
 obtain⟨J,p⟩:=zX s1.nextO
 rw[<-m,<-p]at I;clear hz aC aY cw aD aW eG aI bu dh di dj lf lr ln ha hf h hI aF g;unfold ATree.ptr;rw[hk]at hR c0;simp at hR;have X:R=(U,.ok ⟨5,J,⟨#[]⟩⟩):=by rw[hR,m,p];rfl
 clear hR m p;subst X;go_enter func78,ntmps78
 go_wp2_with fail
 rw[<-HZ.o];clear f5 y5 g5 c0 y F;refine I.o.mono ?_;rintro e W1⟨rfl,M1,O,u⟩;obtain⟨q0,q1,q2,z0,z1,z2⟩:=(HLR.o.fr u).six;have Y:=lh O;have Z:=lh u;clear O u;go_wp2;refine Yp (v:=.tuple #[.agg #[vI 5,vI J,.string ⟨#[]⟩],.nilIface]) ?_ rfl ?_;·exact rp
 .exact .fine' HLR.o HFz.o Y.o Z.o
def Zrf(h:MAt C M w s)(hI:Inv s 0)(I:d+1<=20000)(ha:TreeAt w B a)(hf:a.free M)(hs:s.steps<20000)(hk:a.kind=32\/a.kind=33\/a.kind=34\/a.kind=35\/a.kind=36\/a.kind=38)
 (g:∀W M',MAt C M' W {s with steps:=s.steps+1}->TreeAt W B a->a.free M'->kC 121 #[vP C.mb,vP a.b,vI sc,.agg #[.bool fr.strict,vI fr.vars]] W λe w'=>cK C M' W (Cj V D (a.nt C.N) sc fr {s with steps:=s.steps+1}) e w') :
 kC 78 #[vP C.mb,a.ptr,vI sc,.agg #[.bool fr.strict,vI fr.vars]] w λe w'=>cK C M w (tm (v7 V D (a.nt C.N) sc fr) s) e w':=by
 refine LX ?_;intro s1 aF bN hst jx aY dh di dj z0 aC;rw[<-aC]at aY dh di dj;refine qF ?_;intro cw f5 y5 aD aW;rw[<-aF]at aD;refine qI ?_;intro z hz;rw[<-hz]at aD aW;refine Of ?_;intro eG aI bu lf lr ln g5 c0;rw[aC]at f5 y5;rw[hz,aC]at g5 c0;refine Su ?_;intro hR R aQ;rw[<-aQ];rw[<-aQ]at hR;clear aQ;refine SA ?_;intro dv HZ HLR bM dB HFz HM ft dW HO HE;unfold v7 at hR;rw[Zb]at hR;rw[<-aF]at g;obtain⟨p,u⟩:=lf.two;rw[hz,aC]at p u;have bE:=lh (Calls.vres (g z M aD aI bu))
 obtain⟨y,m⟩:=zX (Cj V D (a.nt C.N) sc fr s1)
 rw[<-m]at bE;clear hz aC aY cw aD aW eG aI bu dh di dj lf lr ln ha hf h hI aF g;unfold ATree.ptr;rcases hk with hk|hk|hk|hk|hk|hk
 all_goals
  rw[hk]at hR c0;simp at hR;have F:R=y:=by rw[hR,m]
  clear hR m;subst F;go_enter func78,ntmps78
  go_wp2_with fail
  rw[<-HZ.o];clear f5 y5 g5 c0 p u;refine Zwb ?_;intro W1 M1 k1 n1 t1 bL q0 q1 q2 z0 z1 z2 av;obtain⟨J,q1⟩:=R;cases q1 with
  |error x1=>
    exact Acd
  |ok v1=>
    exact Ab6
end
