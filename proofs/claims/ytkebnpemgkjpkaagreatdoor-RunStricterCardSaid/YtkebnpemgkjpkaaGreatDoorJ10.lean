import Derived.Test.YtkebnpemgkjpkaaGreatDoorJ09
import Derived.Lib.Join
set_option maxRecDepth 100000
set_option maxHeartbeats 20000000
set_option linter.all false
namespace Go.Proofs.YtkebnpemgkjpkaaGreatDoor
open Go Go.RowKit Go.Proofs.Tryz Tryz
def Zoy(F:Nat)(hS:∀g,g<F->bH 66 cW .stmt g) :
 bH 29 (λrb=>#[vP rb,vI 1,.string ⟨#[]⟩]) (.stmts 1 []) F:=by
 intro w rb B d ts r m hp;obtain⟨J,HP,HQ,HS⟩:=en (Zw w rb 1 ⟨#[]⟩ none 0 0) m hp hS;refine FG ?_;intro iO;obtain⟨nb,O⟩:=zX w.heap.size
 have u:=Got.leaf (k:=1) (t:=⟨#[]⟩) (n:=0) m.le (RFr.refl w rb);have U:=m.rd.below ((Y2 _ _).alloc (Y0 _) (.cells #[vI 1,.string ⟨#[]⟩,vI 0,.slice none 0 0] 41));have X:RFr w (w.alloc (.cells #[vI 1,.string ⟨#[]⟩,vI 0,.slice none 0 0] 41)) rb:=RFr.below ((Y2 _ _).alloc (Y0 _) _);rw[<-O]at u J;clear m hp hS;simp only;go_enter func29,ntmps29
 go_wp2_with fail
 refine J.o.mono ?_;rintro e w1⟨rfl,dD⟩;rw[<-dD]at u U X;have hst:∃(g:Nat) (aj:List Tree) (us:List Tok) (v:Value) (kids:List ATree),g<=F/\Z2 g (.stmts 1 aj) d us=some r/\Got w B w1 (.mk nb v 1 ⟨#[]⟩ 0 kids) (.mk 1 ⟨#[]⟩ 0 aj)/\Rd w1 rb us d/\RFr w w1 rb/\aj.length+us.length<=ts.length/\(∀x∈aj,x.kind=15->x.kids≠[]):=
  ⟨F,[],ts,_,[],Y0 _,HQ.o,u,U,X,by simp,λx hx=>by cases hx⟩
 have Y:=lh hst;have th:=lh O;clear hst dD u U X J O;go_wp2_with fail
 go_loopw [] (λwr=>∃(g:Nat) (aj:List Tree) (us:List Tok) (v:Value) (kids:List ATree),g<=F/\Z2 g (.stmts 1 aj) d us=some r/\Got w B wr (.mk nb v 1 ⟨#[]⟩ 0 kids) (.mk 1 ⟨#[]⟩ 0 aj)/\Rd wr rb us d/\RFr w wr rb/\aj.length+us.length<=ts.length/\(∀x∈aj,x.kind=15->x.kids≠[])) (λwr=>leftOf wr rb)
 case atStart=>exact Y.o
 case round=>
  obtain⟨g,aj,us,v,kids,hg,hq,Z,hR,hF,hl,hx⟩:=hrel;obtain⟨G,R,FF,HX,RL⟩:=gp Z hR hF hx hR.left;cases g with
  |zero=>cases hq
  |succ g=>
  rw[Z2]at hq;obtain⟨tb,off,OF,y⟩:=hR;have c0:=y.c0;have k0:=y.hd (j:=0) (x:=(vI (c9 us).kind)) rfl;rw[Nat.add_zero]at k0;have Iv:=y.pos;clear y;by_cases hb:(c9 us).kind=6
  .have nk:((c9 us).kind !=6)=false:=by simp[hb]
   rw[Y5 (by rw[Y5 rfl];simpa using hb)]at hq;have hr:=Yc hq;have tA:=lh hr.symm;clear Z hF hq hr hb hx Y;have ar:kW wr wr:=Y2 _ _;refine Zyl ?_;intro ay F2 G2 R2 ac ae;have I:wr.cell? ⟨nb,3,none⟩=some v:=PC
   have nz:wr.frozen? ⟨nb,1,none⟩=false:=Qg
   have LQ:wr.cell? ⟨nb,1,none⟩=some (.string ⟨#[]⟩):=PC
   have jJ:=G2.o.tree;simp only[ATree.tree,Tree.mk.injEq,true_and]at jJ;have qd:Up aj=false->mc w rb B d r (.returned (vP nb)) wr:=λh=>by
    rw[tA.o,h];exact⟨_,rfl,G2.o,R2.o,F2.o⟩
   have pQ:=lh qd;have qe:Up aj=true->mc w rb B d r (.returned (vP nb)) (wr.setCell ⟨nb,1,none⟩ (.string Cw)):=λh=>by
    exact Zyi
   have yu:=lh qe;have jD:=lh jJ;have bO:∀a∈kids,TreeAt wr B a:=λa ha=>G2.o.at'.kid (k:=a) ha;have lp:=lh bO;clear ar ac qd qe jJ bO FF G R;cases kids with
   |nil=>
     exact AcE
   |cons a0 ks=>
     rcases Z4 ae with⟨_,h0⟩|⟨g0,gA,rfl,k1,k2,k3⟩;·simp at h0
     refine Xa ?_;intro p0 rQ hb0 pI lq;obtain⟨b0,v0,xx,t0,n0,l0⟩:=a0;simp only[ATree.b,ATree.v,ATree.kind,ATree.text,ATree.n,ATree.kids,ATree.ptr,List.length_cons]at hb0 pI p0 k1 I ⊢;unfold maxLen at k2;have d0:wr.cell? ⟨b0,0,none⟩=some (vI xx):=QS
     have d3:wr.cell? ⟨b0,3,none⟩=some v0:=QS
     by_cases xy:xx=15
     .subst xy;cases l0 with
      |nil=>exact absurd rfl (lq rfl)
      |cons x xs=>
      rcases Z4 pI with⟨_,h0⟩|⟨g1,Ee,rfl,j1,j2,j3⟩;·simp at h0
      have p1:=Zs pI (g:=g1) rfl (i:=0) (x:=x.ptr) rfl;have ah:=(rQ.kid (k:=x) (by simp[ATree.kids])).blkOf;obtain⟨b1,v1,xu,t1,n1,l1⟩:=x;simp only[ATree.b,ATree.v,ATree.kind,ATree.text,ATree.n,ATree.ptr,List.length_cons]at ah p1 j1 d3;unfold maxLen at j2;have e0:wr.cell? ⟨b1,0,none⟩=some (vI xu):=Q4
      have e1:wr.cell? ⟨b1,1,none⟩=some (.string t1):=Q4
      exact AcF
     .exact Zy2
  .have nk:((c9 us).kind !=6)=true:=by simpa using hb
   rw[Y3 (by rw[Y5 rfl];simpa using hb)]at hq;have ch:=lh hq;clear Z hF hq hb hx Y;have ar:kW wr wr:=Y2 _ _;have F2:=FF.o.trans (RFr.below (rb:=rb) ar);have G2:=G.o.rfr HP.o.lt (RFr.below (rb:=rb) ar);have R2:=R.o.below ar;have I:wr.cell? ⟨nb,3,none⟩=some v:=PY
   obtain⟨F2,G2,R2⟩:=ds F2 G2 R2;clear ar FF G R;go_wp2_with fail
   refine Z7 [0,2,4,6,8,10,12,14,17,19,21] [11,12,13] (λW=>vC W nb 3 v) I λ_=>?_;refine dU ?_
   iterate 8
    refine fa ?_
   refine Ze (λK hK=>?_);go_simp
   have ay:=HP.o.lt;have qf:RFr wr wr.drew rb:=(RFr.refl wr rb).drew;have jG:us.length<=4000:=RC
   have ss:B<=wr.drew.heap.size:=Y4 HP.o.le F2.o.size;rcases Zf ch.o with⟨⟨c,p⟩,hv,rfl⟩|⟨t,vs,hv,gP⟩
   .refine(Xp wr.drew rb B us d _ _ R2.o.drew Q3 ay hv λhd h1 w1 dz hs=>HS.o g Px w1 rb B (d+1) us _ ⟨dz,hd,ay,by omega,jG⟩ h1).mono ?_;exact Zz0
   .have dr:vs.length<us.length:=Leaves.within (XK g .stmt (d+1) us) t vs hv;have pL:t.kind=15->t.kids≠[]:=by
     exact Zyk
    have Hp:=lh pL;have nf:=lh gP;refine(Xp wr.drew rb B us d _ _ R2.o.drew Q3 ay hv λhd h1 w1 dz hs=>HS.o g Px w1 rb B (d+1) us _ ⟨dz,hd,ay,by omega,jG⟩ h1).mono ?_;rintro e w3⟨a,rfl,hA,bG,bg⟩;have iu:RFr wr w3 rb:=qf.trans bg;have fJ:=G2.o.rfr ay iu;refine ub ?_;intro ac;have m3:w3.cell? ⟨nb,3,none⟩=some v:=PC
    refine Uo ?_;intro mz dm;refine VX ?_;intro dH;refine XZ ?_;intro aG aX gK;refine S' ?_;intro N3 A3 R3;obtain⟨F3,NE,fm⟩:=ds (F2.o.trans iu) aG aX;refine vf ?_;intro i0 hi aC bo bQ;clear hK K hA bG bg iu fJ ac dH aG pL gP hv aX I qf;refine t7 ?_;intro K hK;refine Ab5 ?_;intro gg cap w4 aS aB bS bY m4;refine uV ?_;clear hK K;intro lX
    have an:=Got.push ay HP.o.le N3.o (wA:=wr.drew) (λx hx=>(G2.o.new x hx).2) A3.o F3.o R3.o ((Y2 _ _).alloc (Y0 _) _) aB aS (bS.imp id λh=>by omega) bY;exact tr7
def Ur(a:ATree)(l:List kB):List kB:=if a.kind==2 then jf l a.text else l
def Zip(a:ATree)(l:List kB):sp Ex a l=cond (VK a) (Ur a l) (pV Ex a.kids (Ur a l)):=by
 rw[Z8o];have h1:(Ex l a).1=!VK a:=rfl;have g:(Ex l a).2=Ur a l:=rfl;rw[g];cases hi:VK a with
 |true=>rw[Y3 (by rw[h1,hi];decide)];rfl
 |false=>rw[Y5 (by rw[h1,hi];rfl)];rfl
def XC{a b:ATree}(h:a.tree=b.tree):a.kind=b.kind/\a.text=b.text/\a.n=b.n/\f6 a.kids=f6 b.kids:=by
 cases a;cases b;simp only[ATree.tree,Tree.mk.injEq]at h;exact h
mutual
theorem Zb0:∀a:ATree,(a.subs.map ATree.b).Sublist a.blocks
 | .mk b v k t n g=>by
   simp only[ATree.subs,List.map_cons,ATree.b,ATree.blocks];exact List.Sublist.cons_cons _ ((Z9d g).trans (by first|exact List.Sublist.refl _|exact List.sublist_append_right _ _))
theorem Z9d:∀l:List ATree,((lw l).map ATree.b).Sublist (yn l)
 | []=>by simp[lw]
 |a::l=>by
   simp only[lw,yn,List.map_append];exact List.Sublist.append (Zb0 a) (Z9d l)
end
theorem Got.apart{w w':kV}{B:Nat}{a:ATree}{t:Tree}(h:Got w B w' a t):(a.subs.map ATree.b).Nodup:=h.nodup.sublist (Zb0 a)
def Zau(l:List (Nat×Nat)):Prop:=∀(i:Nat) (x:Nat×Nat),l[i]?=some x->x.2=i
def Zau.push{l:List (Nat×Nat)}(h:Zau l)(b:Nat):Zau (l++[(b,l.length)]):=by
 intro i x hx;rcases Nat.lt_or_ge i l.length with hi|hi
 .rw[List.getElem?_append_left hi]at hx;exact h i x hx
 .rw[List.getElem?_append_right hi]at hx;cases hd:i-l.length with
  |zero=>
    rw[hd]at hx;simp only[List.getElem?_cons_zero,Option.some.injEq]at hx;rw[<-hx];simp only;omega
  |succ n=>rw[hd]at hx;simp at hx
mutual
theorem Z8v:∀(a:ATree) (l:List (Nat×Nat)),Zau l->Zau (sp kR a l)
 | .mk b v k t n g,l,h=>by
   simp only[sp,kR,if_true];exact Z9u g _ (h.push _)
theorem Z9u:∀(g:List ATree) (l:List (Nat×Nat)),Zau l->Zau (pV kR g l)
 | [],l,h=>by simpa[pV]using h
 |a::g,l,h=>by
   simp only[pV];exact Z9u g _ (Z8v a l h)
end
def numOf(a:ATree)(b:Nat):Nat:=(a.subs.map ATree.b).idxOf b
def Zeg(a x:ATree)(hx:x∈a.subs):(x.b,numOf a x.b)∈sp kR a []:=by
 have hk:=Z9q a [];simp only[List.map_nil,List.nil_append]at hk;have hp:=Z8v a [] (λi x h=>by simp at h);have hm:x.b∈a.subs.map ATree.b:=List.mem_map.2 ⟨x,hx,rfl⟩;have hi:numOf a x.b<(a.subs.map ATree.b).length:=List.idxOf_lt_length_of_mem hm;have hl:numOf a x.b<(sp kR a []).length:=by rw[<-hk,Ym]at hi;exact hi
 obtain⟨y,g⟩:∃y,(sp kR a [])[numOf a x.b]?=some y:=⟨_,Y6 hl⟩
 have h1:=hp _ _ g;have m:(a.subs.map ATree.b)[numOf a x.b]?=some y.1:=by rw[<-hk,Yg,g];rfl
 have p:(a.subs.map ATree.b)[numOf a x.b]?=some x.b:=by
  exact(Y6 hi).trans (congrArg some (List.getElem_idxOf hi))
 rw[p]at m;have u:y=(x.b,numOf a x.b):=Prod.ext (Yc m).symm h1;rw[<-u];exact Yd g
mutual
theorem Zjz:∀(a b:ATree),a.tree=b.tree->∀l,sp Ex a l=sp Ex b l
 | .mk b1 y g m F p,.mk b2 v2 O t2 G u,h,l=>by
   simp only[ATree.tree,Tree.mk.injEq]at h;obtain⟨rfl,rfl,_,h⟩:=h;rw[Zip,Zip];have I:VK (.mk b1 y g m F p)=VK (.mk b2 v2 g m G u):=rfl;have J:Ur (.mk b1 y g m F p) l=Ur (.mk b2 v2 g m G u) l:=rfl;rw[I,J];simp only[ATree.kids];rw[Z7p p u h]
theorem Z7p:∀(g m:List ATree),f6 g=f6 m->∀l,pV Ex g l=pV Ex m l
 | [],[],_,l=>rfl
 | [],_::_,h,_=>by simp[f6]at h
 |_::_,[],h,_=>by simp[f6]at h
 |a::g,b::m,h,l=>by
   simp only[f6,List.cons.injEq]at h;simp only[pV];rw[Zjz a b h.1,Z7p g m h.2]
end
theorem Zd3{a b:ATree}(h:a.tree=b.tree):zt a=zt b:=Z7p _ _ (XC h).2.2.2 _
theorem ZD(p:ATree->Bool)(hp:∀a b:ATree,a.kind=b.kind->p a=p b):∀(g m:List ATree),f6 g=f6 m->(g.filter p).map ATree.text=(m.filter p).map ATree.text
 | [],[],_=>rfl
 | [],_::_,h=>by simp[f6]at h
 |_::_,[],h=>by simp[f6]at h
 |a::g,b::m,h=>by
   simp only[f6,List.cons.injEq]at h;have u:=ZD p hp g m h.2;obtain⟨y,F,_,_⟩:=XC h.1;have G:=hp a b y;simp only[List.filter_cons];rw[G];split;·simp only[List.map_cons,u,F]
   .exact u
theorem Zai(a b:ATree)(h:a.kind=b.kind):xk a=xk b:=by unfold xk;rw[h]
theorem Z8y(a b:ATree)(h:a.kind=b.kind):vG a=vG b:=by unfold vG;rw[h]
def Z83(l:List kB)(g:List ATree):yB l g=(g.map ATree.text).foldl jf l:=by
 unfold yB;rw[List.foldl_map]
def Zh5{a b:ATree}(h:a.tree=b.tree)(body:Bool):La body a=La body b:=by
 have hk:=(XC h).2.2.2;unfold La;rw[Z83,Z83,Z83,Z83,ZD xk Zai _ _ hk,ZD vG Z8y _ _ hk,Zd3 h]
def Zz.parts{w:kV}{B:Nat}{v:Value}{l:List kB}(h:Zz w B v l):∃p u,v=.slice p l.length u/\l.length<=u/\u<=9223372036854775807:=by
 rcases h.form with⟨h1,m⟩|⟨g,cap,h1,m,y⟩;·exact⟨none,0,by rw[h1,m];rfl,by rw[m];exact Y0 _,by omega⟩
 .unfold maxLen at y;exact⟨_,_,h1,m,by omega⟩
def YL:kB:=⟨#[101,118,97,108]⟩
def Zc0{w2:kV}{B:Nat}{v2:Value}{l:List kB}{s:kB}(h:w2.ownsRow B 9 1 v2 (l.length+1) (l.map Value.string++[.string s])):Zz w2 B v2 (l++[s]):=by
 unfold Zz;rw[Yi,Yl];exact h
def ZO:kB:=⟨#[97,114,103,117,109,101,110,116,115]⟩
def CP(st:Bool)(s:kB):Bool:=st&&(Zg s YL||Zg s ZO)
def Zam:List kB->List kB->Bool
 |_,[]=>false
 |seen,s::l=>Lib.containsS seen s||Zam (seen++[s]) l
def ZA(lets vars:List kB)(body:Bool):List kB->List kB->Bool
 |_,[]=>false
 |prev,s::l=>Lib.containsS lets s||(!body&&(prev.any (λo=>Zg o s)||Lib.containsS vars s))||ZA lets vars body (prev++[s]) l
def Sj(a:ATree):List kB:=(a.kids.filter vG).map ATree.text
def Zd0(a:ATree):List kB:=(a.kids.filter xk).map ATree.text
def Iw(a:ATree)(body:Bool):Bool:=
 Zam [] (Sj a)||ZA (Sj a) (zt a) body [] (Zd0 a)||(zt a).any (λs=>Lib.containsS (Sj a) s)
def Tt(a:ATree):Bool:=!(a.kind==3)&& !(a.kind==4)&& !(a.kind==5)
def SQ(st:Bool):List kB->List kB->Int
 |_,[]=>0
 |seen,s::l=>if CP st s then 5 else if st&&Lib.containsS seen s then 9 else SQ st (seen++[s]) l
def SR(st:Bool)(t:kB)(ps:List kB)(bd:ATree):Int:=
 if CP st t then 5 else if SQ st [] ps≠0 then SQ st [] ps else if(Sj bd).any (λs=>Lib.containsS ps s)then 9 else if Iw bd true then 9 else 0
mutual
def mK:ATree→Bool→Bool→Int
 | .mk b v k t n g,st,ins=>
   if k=2\/k=3\/k=4\/k=13 then
    (if CP st t then 5 else if k=13/\(match g with|x::_=>(La false x).any (λs=>Zg s t)| []=>false)=true then 9 else ov g st ins)
   else if k=5\/k=37 then(match g with
    |ps:: .mk b2 v2 p t2 u m::_=>
      (if SR (st||Zi (.mk b2 v2 p t2 u m)) t (ps.kids.map ATree.text) (.mk b2 v2 p t2 u m)≠0 then SR (st||Zi (.mk b2 v2 p t2 u m)) t (ps.kids.map ATree.text) (.mk b2 v2 p t2 u m)
      else ov m (st||Zi (.mk b2 v2 p t2 u m)) true)
    |_=>0)
   else if k=6 then(if Iw (.mk b v k t n g) false then 9 else ov g st ins)
   else if k=7\/k=8\/k=9 then(if(k==9&&st)||(g.drop 1).any (λx=>!Tt x)then 1 else ov g st ins)
   else if k=10 then(if ins then ov g st ins else 6)
   else if k=24 then(if(match g with|x::_=>x.kind==23&&CP st x.text| []=>false)=true then 5 else ov g st ins)
   else if k=34 then(if(match g with|x::_=>st&&x.kind==23| []=>false)=true then 1 else ov g st ins)
   else ov g st ins
def ov:List ATree->Bool->Bool->Int
 | [],_,_=>0
 |a::l,st,ins=>if mK a st ins≠0 then mK a st ins else ov l st ins
end
def A0(a:ATree)(st ins:Bool):Int:=
 if Iw a true then 9 else ov a.kids (st||Zi a) ins
def Z5u{st st':Bool}(h:st'=true->st=true){s:kB}(hb:CP st s=false):CP st' s=false:=by
 cases st' with
 |false=>rfl
 |true=>rw[h rfl]at hb;exact hb
def Zht{st st':Bool}(h:st'=true->st=true):∀(l seen:List kB),SQ st seen l=0->SQ st' seen l=0:=by
 intro l;induction l with
 |nil=>intro seen _;rfl
 |cons s l m=>
   intro seen hp;unfold SQ at hp ⊢;by_cases hb:CP st s=true;·rw[Y5 hb]at hp;cases hp
   rw[Y3 hb]at hp;rw[Y3 Ru];by_cases hc:(st&&Lib.containsS seen s)=true;·rw[Y5 hc]at hp;cases hp
   rw[Y3 hc]at hp;rw[Y3 ?_];·exact m _ hp
   .intro g;simp only[Bool.and_eq_true]at g hc;exact hc ⟨h g.1,g.2⟩
def Zms{st st':Bool}(h:st'=true->st=true){t:kB}{ps:List kB}{bd:ATree}(hf:SR st t ps bd=0):SR st' t ps bd=0:=by
 unfold SR at hf ⊢;by_cases hb:CP st t=true;·rw[Y5 hb]at hf;cases hf
 rw[Y3 hb]at hf;rw[Y3 Ru];by_cases hp:SQ st [] ps≠0;·rw[Y5 hp]at hf;exact absurd hf hp
 rw[Y3 hp]at hf;rw[Y3 (by rw[Zht h _ _ (by simpa using hp)];simp)];exact hf
def Z8z{l:List ATree}{st ins st' ins':Bool}(h:∀a∈l,mK a st ins=0->mK a st' ins'=0)(hk:ov l st ins=0):ov l st' ins'=0:=by
 induction l with
 |nil=>rfl
 |cons a l g=>
   unfold ov at hk ⊢;by_cases hn:mK a st ins≠0;·rw[Y5 hn]at hk;exact absurd hk hn
   rw[Y3 hn]at hk;rw[Y3 (by rw[h a PE (by simpa using hn)];simp)];exact g (λx hx=>h x RH) hk
def if0{c:Prop} [Decidable c]{n m:Int}(hn:n≠0)(h:(if c then n else m)=0):¬c/\m=0:=by
 by_cases hc:c;·rw[Y5 hc]at h;exact absurd h hn
 .rw[Y3 hc]at h;exact⟨hc,h⟩
def Zk4:∀(m:Nat) (a:ATree),a.many<=m->∀{st ins st' ins':Bool},(st'=true->st=true)->(ins=true->ins'=true)->mK a st ins=0->mK a st' ins'=0:=by
 intro m;induction m with
 |zero=>intro a h;obtain⟨b,v,k,t,n,I⟩:=a;simp[ATree.many]at h
 |succ m J=>
   intro a hm st ins st' ins' hst O g;have hk:∀x∈a.kids,x.many<=m:=λx hx=>by have:=XR hx;omega
   obtain⟨b,v,k,t,n,I⟩:=a;simp only[ATree.kids]at hk;have p:ov I st ins=0->ov I st' ins'=0:=Z8z λx hx=>J x (hk x hx) hst O;rw[mK.eq_def]at g ⊢;simp only[]at g ⊢;by_cases h1:k=2\/k=3\/k=4\/k=13
   .rw[Y5 h1]at g ⊢;obtain⟨hb,g⟩:=if0 Py g;obtain⟨hc,g⟩:=if0 Py g;rw[Y3 (by rw[Z5u hst (by simpa using hb)];simp),Y3 hc];exact p g
   rw[Y3 h1]at g ⊢;by_cases U:k=5\/k=37
   ·rw [Y5 U] at g ⊢;match I, hk, g with
    | [],_,_=>rfl
    | [_],_,_=>rfl
    |ps:: .mk b2 v2 u t2 y F::r,hk,g=>
      have hb:=hk (.mk b2 v2 u t2 y F) PE;simp only[]at g ⊢;have X:(st'||Zi (.mk b2 v2 u t2 y F))=true->(st||Zi (.mk b2 v2 u t2 y F))=true:=λh=>by
       simp only[Bool.or_eq_true]at h ⊢;exact h.imp hst id
      by_cases hf:SR (st||Zi (.mk b2 v2 u t2 y F)) t (ps.kids.map ATree.text) (.mk b2 v2 u t2 y F)≠0;·rw[Y5 hf]at g;exact absurd g hf
      rw[Y3 hf]at g;rw[Y3 (by rw[Zms X (by simpa using hf)];simp)];refine Z8z (λx hx=>J x ?_ X (λ_=>rfl)) g;have:x.many<(ATree.mk b2 v2 u t2 y F).many:=XR (a:=.mk b2 v2 u t2 y F) hx;omega
   rw[Y3 U]at g ⊢;by_cases Y:k=6
   .rw[Y5 Y]at g ⊢;obtain⟨hb,g⟩:=if0 Py g;rw[Y3 hb];exact p g
   rw[Y3 Y]at g ⊢;by_cases Z:k=7\/k=8\/k=9
   .rw[Y5 Z]at g ⊢;obtain⟨hb,g⟩:=if0 Py g;rw[Y3 ?_];·exact p g
    .intro h;refine hb ?_;simp only[Bool.or_eq_true,Bool.and_eq_true]at h ⊢;exact h.imp (λh=>⟨h.1,hst h.2⟩) id
   rw[Y3 Z]at g ⊢;by_cases h5:k=10
   .rw[Y5 h5]at g ⊢;cases ins with
    |false=>rw[Y3 PE]at g;cases g
    |true=>
      rw[Y5 rfl]at g;rw[Y5 (O rfl)];exact p g
   rw[Y3 h5]at g ⊢;by_cases h6:k=24
   ·rw [Y5 h6] at g ⊢;obtain ⟨hb, g⟩ := if0 Py g;rw [Y3 ?_];·exact p g
    .intro h;refine hb ?_;cases I with
     |nil=>cases h
     |cons x r=>
       simp only[Bool.and_eq_true]at h ⊢;refine⟨h.1,?_⟩;cases hs:CP st x.text with
       |true=>rfl
       |false=>rw[Z5u hst hs]at h;exact absurd h.2 PE
   rw[Y3 h6]at g ⊢;by_cases h7:k=34
   ·rw [Y5 h7] at g ⊢;obtain ⟨hb, g⟩ := if0 Py g;rw [Y3 ?_];·exact p g
    .intro h;refine hb ?_;cases I with
     |nil=>cases h
     |cons x r=>
       simp only[Bool.and_eq_true]at h ⊢;exact⟨hst h.1,h.2⟩
   rw[Y3 h7]at g ⊢;exact p g
def Z7n{a b:ATree}(h:a.tree=b.tree)(body:Bool):Iw a body=Iw b body:=by
 have hk:=(XC h).2.2.2;have g:Sj a=Sj b:=ZD vG Z8y _ _ hk;have m:Zd0 a=Zd0 b:=ZD xk Zai _ _ hk;unfold Iw;rw[g,m,Zd3 h]
theorem Ziu:∀(l m:List ATree),f6 l=f6 m->l.any (λx=>!Tt x)=m.any (λx=>!Tt x)
 | [],[],_=>rfl
 | [],_::_,h=>by simp[f6]at h
 |_::_,[],h=>by simp[f6]at h
 |a::l,b::m,h=>by
   simp only[f6,List.cons.injEq]at h;have e:Tt a=Tt b:=by unfold Tt;rw[(XC h.1).1]
   simp only[List.any_cons,e,Ziu l m h.2]
def Zj7(l m:List ATree)(h:f6 l=f6 m):l.map ATree.text=m.map ATree.text:=by
 have:=ZD (λ_=>true) (λ_ _ _=>rfl) _ _ h;rwa[List.filter_eq_self.2 (λ_ _=>rfl),List.filter_eq_self.2 (λ_ _=>rfl)]at this
theorem Z72{m:Nat}(u:∀(a b:ATree) (st ins:Bool),a.many<=m->a.tree=b.tree->mK a st ins=mK b st ins) :
 ∀(g p:List ATree) (st ins:Bool),Ad g<=m->f6 g=f6 p->ov g st ins=ov p st ins
 | [],[],_,_,_,_=>rfl
 | [],_::_,_,_,_,h=>by simp[f6]at h
 |_::_,[],_,_,_,h=>by simp[f6]at h
 |a::g,b::p,st,ins,hm,h=>by
   simp only[f6,List.cons.injEq]at h;simp only[Ad]at hm;unfold ov;rw[u a b st ins Px h.1,Z72 u g p st ins Px h.2]
theorem Zcy:∀(m:Nat) (a b:ATree) (st ins:Bool),a.many<=m->a.tree=b.tree->mK a st ins=mK b st ins
 |0,a,_,_,_,h,_=>by cases a;simp[ATree.many]at h
 |m+1,.mk b1 v1 k t n1 u,.mk b2 v2 k2 t2 n2 O,st,ins,hm,h=>by
   have U:=Zcy m;have hs:=Z7n h false;simp only[ATree.tree,Tree.mk.injEq]at h;obtain⟨rfl,rfl,_,g⟩:=h;have p:Ad u<=m:=by simp only[ATree.many]at hm;omega
   have X:=Z72 U u O st ins p g;rw[mK.eq_def,mK.eq_def];simp only[];rw[X,hs];clear X hs;match u,O,p,g with
   | [],[],_,_=>rfl
   | [],_::_,_,h=>simp[f6]at h
   |_::_,[],_,h=>simp[f6]at h
   |x::r,y::s,p,g=>
     simp only[f6,List.cons.injEq]at g;obtain⟨Z,e2,_,e4⟩:=XC g.1;have e5:=Ziu r s g.2;simp only[List.drop_succ_cons,List.drop_zero];simp only[Zh5 g.1 false,e5,Z,e2];match r,s,p,g.2 with
     | [],[],_,_=>rfl
     | [],_::_,_,h=>simp[f6]at h
     |_::_,[],_,h=>simp[f6]at h
     | .mk c1 w1 F I Y lc::r,.mk c2 w2 kd td nd J::s,p,h5=>
       simp only[f6,List.cons.injEq]at h5;have hb:=h5.1;have aK:=Z7n hb true;have hl:Sj (.mk c1 w1 F I Y lc)=Sj (.mk c2 w2 kd td nd J):=ZD vG Z8y _ _ (XC hb).2.2.2;simp only[ATree.tree,Tree.mk.injEq]at hb;obtain⟨rfl,rfl,_,e6⟩:=hb;have hst:Zi (.mk c1 w1 F I Y lc)=Zi (.mk c2 w2 F I nd J):=rfl;simp only[Ad,ATree.many]at p;have pi:=λst ins=>Z72 U lc J st ins Px e6;simp only[];unfold SR;simp only[hst,aK,hl,pi,Zj7 _ _ e4]
def Zbi{a b:ATree}(h:a.tree=b.tree)(st ins:Bool):A0 a st ins=A0 b st ins:=by
 obtain⟨g,m,_,p⟩:=XC h;have hst:Zi a=Zi b:=by unfold Zi;rw[g,m]
 unfold A0;rw[Z7n h true,hst,Z72 (Zcy (Ad a.kids)) _ _ _ _ (Y0 _) p]
inductive NT
 |mk(num kind:Int)(text:kB)(n:Int)(kids:List NT)
def NT.num:NT->Int| .mk i _ _ _ _=>i
def NT.kind:NT->Int| .mk _ k _ _ _=>k
def NT.text:NT->kB| .mk _ _ t _ _=>t
def NT.n:NT->Int| .mk _ _ _ n _=>n
def NT.kids:NT->List NT| .mk _ _ _ _ l=>l
def NT.zero:NT:=.mk (-3) 0 ⟨#[]⟩ 0 []
def NT.kid(x:NT)(i:Nat):NT:=x.kids.getD i NT.zero
mutual
def NT.tree:NT->Tree
 | .mk _ k t n l=>.mk k t n (rq l)
def rq:List NT->List Tree
 | []=>[]
 |a::l=>a.tree::rq l
end
mutual
def ATree.nt(N:Nat->Int):ATree->NT
 | .mk b _ k t n l=>.mk (N b) k t n (FA N l)
def FA(N:Nat->Int):List ATree->List NT
 | []=>[]
 |a::l=>a.nt N::FA N l
end
mutual
def Tree.bare:Tree->NT
 | .mk k t n l=>.mk (-3) k t n (Zjk l)
def Zjk:List Tree->List NT
 | []=>[]
 |a::l=>a.bare::Zjk l
end
mutual
def Tree.a:Tree->ATree
 | .mk k t n l=>.mk 0 .nilIface k t n (Zrr l)
def Zrr:List Tree->List ATree
 | []=>[]
 |a::l=>a.a::Zrr l
end
mutual
def YM:NT->List kB->List kB
 | .mk _ k t _ l,g=>if k=5\/k=37 then g else V' l (if k=2 then jf g t else g)
def V':List NT->List kB->List kB
 | [],g=>g
 |x::l,g=>V' l (YM x g)
end
def NT.vars(x:NT):List kB:=V' x.kids []
def NT.funcs(x:NT):List NT:=x.kids.filter λk=>k.kind==5
def NT.lets(x:NT):List NT:=x.kids.filter λk=>k.kind==3||k.kind==4
def NT.names(body:Bool)(x:NT):List kB:=(x.lets.map NT.text).foldl jf ((x.funcs.map NT.text).foldl jf (if body then x.vars else[]))
def NT.strict(x:NT):Bool:=Zg x.text Cw&&(x.kind==1||x.kind==6)
def NT.check(x:NT)(st ins:Bool):Int:=A0 x.tree.a st ins
structure Clo where
 node:NT
 scope:Int
 strict:Bool
structure Frm where
 strict:Bool
 vars:Int
inductive Er
 |stop
 |thr(v:LVal)
structure MSt where
 H:LHeap
 log:List kB
 steps:Int
 seen:List (Int×Int)
 owners:List Int
 clos:List Clo
 glob:Int
 outer:Int
 top:Int
 calls:Int
 last:LVal
abbrev RM(α:Type):=MSt->MSt×Except Er α
section
variable {α β:Type}
def d9(a:α):RM α:=λs=>(s,.ok a)
def r'(e:Er):RM α:=λs=>(s,.error e)
def LVal.say(t:kB):LVal:=⟨4,0,t⟩
def LVal.is(b:Bool):LVal:=⟨2,if b then 1 else 0,⟨#[]⟩⟩
def LVal.num(n:Int):LVal:=⟨3,n,⟨#[]⟩⟩
def LVal.ref(n:Int):LVal:=⟨5,n,⟨#[]⟩⟩
def tE(t:kB):RM α:=r' (.thr (.say t))
def Zx(m:RM α)(k:α->RM β):RM β:=λs=>match m s with
 |(s1,.ok a)=>k a s1
 |(s1,.error e)=>(s1,.error e)
end
def Tp:kB:=⟨#[114,101,102,101,114,101,110,99,101]⟩
def wW:kB:=⟨#[116,121,112,101]⟩
def T3:kB:=⟨#[114,97,110,103,101]⟩
def SO:kB:=⟨#[115,121,110,116,97,120]⟩
def sW:kB:=⟨#[101,118,97,108]⟩
def Tc:kB:=⟨#[112,114,105,110,116]⟩
def Za:kB:=⟨#[97,114,103,117,109,101,110,116,115]⟩
def ZW:kB:=⟨#[108,101,110,103,116,104]⟩
def Zer:kB:=⟨#[98,111,111,108,101,97,110]⟩
def Zib:kB:=⟨#[110,117,109,98,101,114]⟩
def Ziq:kB:=⟨#[115,116,114,105,110,103]⟩
def LHeap.objectOf(H:LHeap)(n:Int):Int:=match H.scope? n with|some s=>s.object|none=>-1
def LHeap.outerOf(H:LHeap)(n:Int):Int:=match H.scope? n with|some s=>s.outer|none=>-1
def LHeap.kindOf(H:LHeap)(n:Int)(name:kB):Int:=
 match H.scope? n with
 |none=>-1
 |some s=>if 0<=s.object then -1 else match(s.idx name).bind λk=>s.names[k]? with
   |none=>-1
   |some b=>b.kind
namespace MSt
variable (s:MSt)
def setH(H:LHeap):MSt:={s with H:=H}
def next:Int:=s.H.scopes.length
def nextO:Int:=s.H.objects.length
def opens(outer object owner:Int):MSt:={s with H:={s.H with scopes:=s.H.scopes++[⟨outer,object,[]⟩]},owners:=s.owners++[owner]}
def object(code:Int):MSt:=s.setH {s.H with objects:=s.H.objects++[⟨[],code⟩]}
def declare(sc:Int)(name:kB)(kind:Int)(v:LVal):MSt:=s.setH (s.H.declare sc name kind v).1
def put(o:Int)(name:kB)(v:LVal)(fixed:Bool):MSt:=s.setH (s.H.put o name v fixed).1
def write(sc:Int)(name:kB)(v:LVal):MSt:=s.setH (s.H.write sc name v).1
def bindTo(sc:Int)(name:kB)(v:LVal):MSt:=if(s.H.declare sc name 0 v).2=0 then s.declare sc name 0 v else s.write sc name v
def loose(sc:Int)(name:kB):MSt:=
 if s.H.has sc name then s else if 0<=s.H.objectOf sc then s.put (s.H.objectOf sc) name LVal.zero false else s.declare sc name 4 LVal.zero
def lets(l:List NT)(sc:Int):MSt:=l.foldl (λs k=>s.declare sc k.text (if k.kind=4 then 2 else 1) LVal.zero) s
end MSt
def NT.named(x:NT):Bool:=x.kind==37&& !Zg x.text ⟨#[]⟩
namespace MSt
variable (s:MSt)
def funS(n:NT)(sc:Int)(fr:Frm):MSt:=
 let s1:=if n.named then s.opens sc (-1) n.num else s
 let g:=if n.named then s.next else sc
 let m:=({s1 with clos:=s1.clos++[⟨n,g,fr.strict||(n.kid 1).strict⟩]}:MSt).object (3+s.clos.length)
 if n.named then m.declare g n.text 3 (.ref s.nextO)else m
def funcs(p:MSt->kB->MSt)(g:MSt->kB->LVal->MSt)(l:List NT)(sc:Int)(fr:Frm):MSt:=
 l.foldl (λs k=>g ((p s k.text).funS k sc fr) k.text (.ref (p s k.text).nextO)) s
def look(n:NT)(sc:Int)(name:kB):MSt:=
 if 0<=n.num/\0<=s.H.find sc name then{s with seen:=s.seen++[(n.num,s.owners.getD (s.H.find sc name).toNat 0)]}else s
end MSt
def Sr(at':Int)(name:kB)(v:LVal)(fr:Frm):RM Unit:=λs=>
 if at'<0\/s.H.has at' name=false then
  if fr.strict then tE Tp s
  else d9 () (s.put (if 0<=at'/\0<=s.H.objectOf at' then s.H.objectOf at' else s.glob) name v false)
 else
  let s1:=s.write at' name v
  let c:=(s.H.write at' name v).2
  if c=6 then tE Tp s1 else if c=1 then tE wW s1 else if c=5/\fr.strict=true then tE wW s1 else d9 () s1
abbrev VF:=NT->Int->Frm->RM LVal
abbrev DF:=NT->Int->Frm->RM (Bool×LVal)
def ZF(n:NT)(sc:Int):RM LVal:=λs=>
 if s.H.find sc n.text<0 then tE Tp (s.look n sc n.text)
 else if(s.H.read (s.H.find sc n.text) n.text).2≠0 then tE Tp (s.look n sc n.text)
 else d9 (s.H.read (s.H.find sc n.text) n.text).1 (s.look n sc n.text)
def qx(V:VF)(n:NT)(sc:Int)(fr:Frm):RM LVal:=
 if(n.kid 0).kind=23 then λs=>
  Zx (V (n.kid 1) sc fr) (λv=>Zx (Sr (s.H.find sc (n.kid 0).text) (n.kid 0).text v fr) λ_=>d9 v) (s.look (n.kid 0) sc (n.kid 0).text)
 else Zx (V ((n.kid 0).kid 0) sc fr) λo=>Zx (V (n.kid 1) sc fr) λv=>
  if o.kind=5 then λs=>d9 v (s.put o.n (n.kid 0).text v false)else tE wW
def K'(V:VF)(x:NT)(sc:Int)(fr:Frm):RM LVal:=
 if x.kind=23 then λs=>
  if s.H.find sc x.text<0 then d9 (.is true) s else d9 (.is (s.H.drop (s.H.find sc x.text) x.text).2) (s.setH (s.H.drop (s.H.find sc x.text) x.text).1)
 else if x.kind=36 then Zx (V (x.kid 0) sc fr) λo=>
  if o.kind=5 then λs=>
   let s1:=s.setH (s.H.cut o.n x.text).1
   if(s.H.cut o.n x.text).2 then d9 (.is true) s1 else if fr.strict then tE wW s1 else d9 (.is false) s1
  else tE wW
 else Zx (V x sc fr) λ_=>d9 (.is true)
def LVal.same(a b:LVal):Bool:=decide (a.kind=b.kind)&&(decide (a.n=b.n)&&Zg a.s b.s)
def TM(n:Int):RM LVal:=if 1000000000<n\/n< -1000000000 then tE T3 else d9 (.num n)
def Zqy(a b:kB):Bool:=decide (a.toList<b.toList)
def Ue(kind:Int)(a b:LVal):RM LVal:=
 if kind=27 then d9 (.is (a.same b))
 else if a.kind=3/\b.kind=3 then
  if kind=28 then d9 (.is (decide (a.n<b.n)))else if kind=29 then TM (a.n+b.n)else if kind=30 then TM (a.n-b.n)else TM (a.n*b.n)
 else if kind=28/\a.kind=4/\b.kind=4 then d9 (.is (Zqy a.s b.s))
 else if kind=29/\(a.kind=4\/b.kind=4)then λs=>
  if 500<(s.H.shown a++s.H.shown b).size then tE T3 s else d9 (.say (s.H.shown a++s.H.shown b)) s
 else tE wW
def Ul(H:LHeap)(v:LVal):kB:=
 if v.kind=5/\H.code v.n≠0 then Z9t
 else if v.kind=0 then XJ else if v.kind=2 then Zer else if v.kind=3 then Zib else if v.kind=4 then Ziq else Z9y
def Sv(V:VF)(sc:Int)(fr:Frm):List NT->RM (List LVal)
 | []=>d9 []
 |k::l=>Zx (V k sc fr) λv=>Zx (Sv V sc fr l) λvs=>d9 (v::vs)
def TD(V:VF)(sc:Int)(fr:Frm)(o:Int):List NT->RM Unit
 | []=>d9 ()
 |k::l=>Zx (V (k.kid 0) sc fr) λv s=>TD V sc fr o l (s.put o k.text v false)
def U1(l:List kB):kB:=⟨(Lib.join (l.map (·.data.toList)) [32]).toArray⟩
def oB(D:DF)(sc:Int)(fr:Frm):List NT->RM (Bool×LVal)
 | []=>d9 (false,LVal.zero)
 |n::l=>Zx (D n sc fr) λr=>if r.1 then d9 r else oB D sc fr l
namespace MSt
variable (s:MSt)
def params(sc:Int):List NT->List LVal->MSt->MSt
 | [],_,s=>s
 |p::l,vs,s=>params sc l vs.tail (s.bindTo sc p.text (vs.headD LVal.zero))
def argN(i:Nat):kB:=⟨#[97]⟩++⟨(Lib.itoa (i:Int)).toArray⟩
def argsPut(o:Int):Nat->List LVal->MSt->MSt
 |_,[],s=>s
 |i,v::l,s=>argsPut o (i+1) l (s.put o (argN i) v false)
def argsObj(sc:Int)(vs:List LVal):MSt:=
 (argsPut s.nextO 0 vs ((s.object 0).put s.nextO ZW (.num vs.length) false)).declare sc Za 0 (.ref s.nextO)
def vars(l:List kB)(sc:Int):MSt:=l.foldl (λs t=>s.declare sc t 0 LVal.zero) s
def looses(l:List kB)(sc:Int):MSt:=l.foldl (λs t=>s.loose sc t) s
end MSt
def NT.hasName(b:NT)(t:kB):Bool:=b.funcs.any (λk=>Zg k.text t)||b.lets.any (λk=>Zg k.text t)
def MSt.enterS(s:MSt)(c:Clo)(vs:List LVal):MSt:=
 let sc:=s.next
 let b:=c.node.kid 1
 let g:=MSt.params sc (c.node.kid 0).kids vs (s.opens c.scope (-1) c.node.num)
 let m:=if g.H.has sc Za||b.hasName Za then g else g.argsObj sc vs
 ((m.vars b.vars sc).lets b.lets sc).funcs (λs _=>s) (λs t v=>s.bindTo sc t v) b.funcs sc ⟨c.strict,sc⟩
def U7(D:DF)(c:Clo)(vs:List LVal):RM LVal:=λs=>
 Zx (oB D s.next ⟨c.strict,s.next⟩ (c.node.kid 1).kids) (λr=>d9 (if r.1 then r.2 else LVal.zero)) (s.enterS c vs)
def T2(H:LHeap)(n:NT)(vars:Int):Nat->Int->Bool
 |0,_=>false
 |f+1,sc=>(n.names true).any (λt=>(H.kindOf sc t==1||H.kindOf sc t==2)&& !(n.lets.any λk=>Zg k.text t))||(if sc=vars then false else T2 H n vars f (H.outerOf sc))
def MSt.evalS(s:MSt)(n:NT)(sc:Int)(fr:Frm):MSt:=
 let s1:=s.looses n.vars fr.vars
 let g:=if n.lets.isEmpty then s1 else(s1.opens sc (-1) (-3)).lets n.lets s1.next
 {(g.funcs (λs t=>s.loose fr.vars t) (λs t v=>if 0<=s.H.objectOf fr.vars then s.put (s.H.objectOf fr.vars) t v false else s.write fr.vars t v) n.funcs (if n.lets.isEmpty then sc else s1.next) fr)with last:=LVal.zero}
def Uk(D:DF)(n:NT)(sc:Int)(fr:Frm):RM LVal:=λs=>
 match oB D (if n.lets.isEmpty then sc else s.next) fr n.kids (s.evalS n sc fr)with
 |(g,.ok _)=>(g,.ok g.last)
 |(g,.error e)=>(g,.error e)
def Wi(text:kB):Option NT:=match Zt text with
 | .ok t=>some t.bare
 | .error _=>none
def S3(D:DF)(text:kB)(sc:Int)(fr:Frm):RM LVal:=λs=>
 match Wi text with
 |none=>tE SO s
 |some n=>
   if n.check fr.strict false≠0 then tE SO s
   else if fr.strict||n.strict then Uk D n s.next ⟨true,s.next⟩ (s.opens sc (-1) (-3))
   else if T2 s.H n fr.vars (sc+1).toNat sc then tE SO s
   else Uk D n sc ⟨false,fr.vars⟩ s
def T9(D:DF)(n:NT)(sc:Int)(fr:Frm)(code:Int)(args:List LVal):RM LVal:=λs=>
 if code≠2 then U7 D (s.clos.getD (code-3).toNat ⟨NT.zero,0,false⟩) args s
 else if(n.kid 0).kind=23/\(n.kid 0).text=sW then S3 D (args.headD LVal.zero).s sc fr s
 else S3 D (args.headD LVal.zero).s s.top ⟨false,s.outer⟩ s
def T4(s:MSt)(r:MSt×Except Er LVal):MSt×Except Er LVal:=({r.1 with calls:=r.1.calls-1,last:=s.last},r.2)
def codeOf(s:MSt)(g:LVal):Int:=if g.kind=5 then s.H.code g.n else 0
def TE(D:DF)(n:NT)(sc:Int)(fr:Frm)(code:Int)(args:List LVal):RM LVal:=λs=>
 if code=0 then tE wW s
 else if code=1 then d9 LVal.zero {s with log:=s.log++[U1 (args.map s.H.shown)]}
 else if code=2/\args=[]then d9 LVal.zero s
 else if code=2/\(args.headD LVal.zero).kind≠4 then d9 (args.headD LVal.zero) s
 else if s.calls=40 then tE T3 s
 else T4 s (T9 D n sc fr code args {s with calls:=s.calls+1})
def UO(V:VF)(D:DF)(n:NT)(sc:Int)(fr:Frm):RM LVal:=
 Zx (V (n.kid 0) sc fr) λg=>Zx (Sv V sc fr n.kids.tail) λargs s=>TE D n sc fr (codeOf s g) args s
def Cj(V:VF)(D:DF)(n:NT)(sc:Int)(fr:Frm):RM LVal:=
 if n.kind=33 then λs=>
  if(n.kid 0).kind=23/\s.H.find sc (n.kid 0).text<0 then d9 (.say XJ) s
  else Zx (V (n.kid 0) sc fr) (λv s=>d9 (.say (Ul s.H v)) s) s
 else if n.kind=32 then Zx (V (n.kid 0) sc fr) λv=>d9 (.is (!v.true))
 else if n.kind=34 then K' V (n.kid 0) sc fr
 else if n.kind=35 then UO V D n sc fr
 else if n.kind=36 then Zx (V (n.kid 0) sc fr) λv=>if v.kind=5 then λs=>d9 ((s.H.get v.n n.text).getD LVal.zero) s else tE wW
 else if n.kind=38 then λs=>Zx (TD V sc fr s.nextO n.kids) (λ_=>d9 (.ref s.nextO)) (s.object 0)
 else d9 LVal.zero
def v7(V:VF)(D:DF)(n:NT)(sc:Int)(fr:Frm):RM LVal:=
 if n.kind=17 then d9 (.num n.n)
 else if n.kind=18 then d9 (.say n.text)
 else if n.kind=19\/n.kind=20 then d9 (.is (n.kind==19))
 else if n.kind=21 then d9 ⟨1,0,⟨#[]⟩⟩
 else if n.kind=22 then d9 LVal.zero
 else if n.kind=23 then ZF n sc
 else if n.kind=24 then qx V n sc fr
 else if n.kind=25\/n.kind=26 then Zx (V (n.kid 0) sc fr) λv=>if v.true=(n.kind==25)then d9 v else V (n.kid 1) sc fr
 else if 27<=n.kind/\n.kind<=31 then Zx (V (n.kid 0) sc fr) λa=>Zx (V (n.kid 1) sc fr) λb=>Ue n.kind a b
 else if n.kind=37 then λs=>d9 (.ref s.nextO) (s.funS n sc fr)
 else Cj V D n sc fr
def tm{α:Type}(k:RM α):RM α:=λs=>if 20000<s.steps+1 then r' .stop {s with steps:=s.steps+1}else k {s with steps:=s.steps+1}
def S6(V:VF)(D:DF)(n:NT)(sc:Int)(fr:Frm):Nat->RM (Bool×LVal)
 |0=>r' .stop
 |f+1=>Zx (V (n.kid 0) sc fr) λv=>if v.true then Zx (D (n.kid 1) sc fr) λr=>if r.1 then d9 r else S6 V D n sc fr f else d9 (false,LVal.zero)
def MSt.blockS(s:MSt)(n:NT)(sc:Int)(fr:Frm):MSt:=((s.opens sc (-1) n.num).lets n.lets s.next).funcs (λs _=>s) (λt a v=>t.declare s.next a 0 v) n.funcs s.next fr
def UG(D:DF)(n:NT)(sc:Int)(fr:Frm):RM (Bool×LVal):=λs=>
 if(n.names false).isEmpty then oB D sc fr n.kids s else oB D s.next fr n.kids (s.blockS n sc fr)
def vX(D:DF)(sc:Int)(fr:Frm):List NT->MSt×Except Er (Bool×LVal)->MSt×Except Er (Bool×LVal)
 | [],r=>r
 |k::l,(s,r)=>match r with
   | .error .stop=>(s,.error .stop)
   | .error (.thr v)=>
     if k.kind=13 then vX D sc fr l (D (k.kid 0) s.next fr ((s.opens sc (-1) k.num).declare s.next k.text 0 v))
     else match D (k.kid 0) sc fr s with
      |(s1,.ok (false,_))=>vX D sc fr l (s1,.error (.thr v))
      |x=>vX D sc fr l x
   | .ok b=>
     if k.kind=13 then vX D sc fr l (s,.ok b)
     else match D (k.kid 0) sc fr s with
      |(s1,.ok (false,_))=>vX D sc fr l (s1,.ok b)
      |x=>vX D sc fr l x
def Ni(D:DF)(n:NT)(sc:Int)(fr:Frm):RM (Bool×LVal):=λs=>vX D sc fr n.kids.tail (D (n.kid 0) sc fr s)
def XU:Bool×LVal:=(false,LVal.zero)
def BF(V:VF)(D:DF)(f:Nat)(n:NT)(sc:Int)(fr:Frm)(at':Int)(v:LVal):RM (Bool×LVal):=
 if n.kind=2 then if n.kids.isEmpty then d9 XU else Zx (Sr at' n.text v fr) λ_=>d9 XU
 else if n.kind=3\/n.kind=4 then λs=>d9 XU (s.setH (s.H.start sc n.text v).1)
 else if n.kind=6 then UG D n sc fr
 else if n.kind=7 then if v.true then D (n.kid 1) sc fr else if n.kids.length<=2 then d9 XU else D (n.kid 2) sc fr
 else if n.kind=8 then S6 V D n sc fr f
 else if n.kind=9 then if v.kind=5 then λs=>D (n.kid 1) s.next fr (s.opens sc v.n (-2))else tE wW
 else if n.kind=10 then d9 (true,v)
 else if n.kind=11 then r' (.thr v)
 else if n.kind=12 then Ni D n sc fr
 else if n.kind=15 then λs=>d9 XU {s with last:=v}
 else d9 XU
def yk(V:VF)(D:DF)(f:Nat)(n:NT)(sc:Int)(fr:Frm):RM (Bool×LVal):=tm λs=>
 Zx (if n.kids.isEmpty\/n.kind=5\/n.kind=6\/n.kind=12\/n.kind=8 then d9 LVal.zero else V (n.kid 0) sc fr)
  (BF V D f n sc fr (if n.kind=2/\n.kids.isEmpty=false then s.H.find sc n.text else -1)) s
def wc:Nat->VF×DF
 |0=>(λ_ _ _=>r' .stop,λ_ _ _=>r' .stop)
 |f+1=>(λn sc fr=>tm (v7 (wc f).1 (wc f).2 n sc fr),yk (wc f).1 (wc f).2 f)
structure Res where
 log:List kB
 code:Int
 value:kB
 steps:Int
 seen:List (Int×Int)
def MSt.new:MSt:=⟨⟨[],[]⟩,[],0,[],[],[],0,0,0,0,LVal.zero⟩
def S5(n:NT):MSt:=
 let s1:=(((((MSt.new.object 0).object 1).put 0 Tc (.ref 1) false).object 2).put 0 sW (.ref 2) false)
 let g:={(s1.opens (-1) 0 (-1)).opens 0 (-1) 0 with glob:=0,outer:=0,top:=1}
 let m:=n.vars.foldl (λs t=>if s.H.has 0 t then s else s.put 0 t LVal.zero true) g
 (m.lets n.lets 1).funcs (λs _=>s) (λs t v=>s.put 0 t v true) n.funcs 1 ⟨n.strict,0⟩
def UH:MSt×Except Er (Bool×LVal)->Res
 |(s,.ok _)=>⟨s.log,1,⟨#[]⟩,s.steps,s.seen⟩
 |(s,.error .stop)=>⟨s.log,3,⟨#[]⟩,s.steps,s.seen⟩
 |(s,.error (.thr v))=>⟨s.log,2,s.H.shown v,s.steps,s.seen⟩
def U6:Nat:=20001
def mI(n:NT):Res:=UH (oB (wc U6).2 1 ⟨n.strict,0⟩ n.kids (S5 n))
section
variable {N:Nat->Int}{a:ATree}
theorem Zcc:(a.nt N).num=N a.b:=by cases a;rfl
theorem Zb:(a.nt N).kind=a.kind:=by cases a;rfl
theorem rH:(a.nt N).text=a.text:=by cases a;rfl
theorem Add:(a.nt N).n=a.n:=by cases a;rfl
theorem Zu:(a.nt N).kids=FA N a.kids:=by cases a;rfl
theorem AC:∀l:List ATree,FA N l=l.map (ATree.nt N)
 | []=>rfl
 |x::l=>by rw[FA,AC l];rfl
def wX{i:Nat}{x:ATree}(h:a.kids[i]?=some x):(a.nt N).kid i=x.nt N:=by
 unfold NT.kid;rw[Zu,AC,List.getD_eq_getElem?_getD,Yg,h];rfl
mutual
theorem VZ:∀a:ATree,(a.nt N).tree=a.tree
 | .mk b v k t n l=>by simp only[ATree.nt,NT.tree,ATree.tree,Zij l]
theorem Zij:∀l:List ATree,rq (FA N l)=f6 l
 | []=>rfl
 |x::l=>by simp only[FA,rq,f6,VZ x,Zij l]
end
mutual
theorem Zsg:∀t:Tree,t.a.tree=t
 | .mk k t n l=>by simp only[Tree.a,ATree.tree,Zcz l]
theorem Zcz:∀l:List Tree,f6 (Zrr l)=l
 | []=>rfl
 |x::l=>by simp only[Zrr,f6,Zsg x,Zcz l]
end
mutual
theorem Zaf:∀t:Tree,t.bare.tree=t
 | .mk k t n l=>by simp only[Tree.bare,NT.tree,Zby l]
theorem Zby:∀l:List Tree,rq (Zjk l)=l
 | []=>rfl
 |x::l=>by simp only[Zjk,rq,Zaf x,Zby l]
end
mutual
theorem Znh:∀a:ATree,(∀b∈a.blocks,N b=-3)->a.nt N=a.tree.bare
 | .mk b v k t n l,h=>by
   simp only[ATree.blocks,List.mem_cons,List.mem_append]at h;simp only[ATree.nt,ATree.tree,Tree.bare,h b (.inl rfl),Zil l λx hx=>h x (.inr (.inr hx))]
theorem Zil:∀l:List ATree,(∀b∈yn l,N b=-3)->FA N l=Zjk (f6 l)
 | [],_=>rfl
 |x::l,h=>by
   simp only[yn,List.mem_append]at h;simp only[FA,f6,Zjk,Znh x λy g=>h y (.inl g),Zil l λy g=>h y (.inr g)]
end
mutual
theorem Zrk:∀(a:ATree) (g:List kB),YM (a.nt N) g=sp Ex a g
 | .mk b v k t n l,g=>by
   rw[Z8o];simp only[ATree.nt,YM,Ex,VK,ATree.kind,ATree.text,ATree.kids];by_cases h:k=5\/k=37
   .have h1:(k==5||k==37)=true:=by simpa using h
    have m:(k==2)=false:=PB
    rw[Y5 h];simp[h1,m]
   .have h1:(k==5||k==37)=false:=by simpa using h
    rw[Y3 h,Zb6 l];by_cases hk:k=2;·subst hk;simp
    .simp[h1,hk]
theorem Zb6:∀(l:List ATree) (g:List kB),V' (FA N l) g=pV Ex l g
 | [],g=>rfl
 |x::l,g=>by simp only[FA,V',pV,Zrk x,Zb6 l]
end
theorem VY:(a.nt N).vars=zt a:=by unfold NT.vars zt;rw[Zu,Zb6]
def Zfw(p:ATree->Bool)(q:NT->Bool)(h:∀x:ATree,q (x.nt N)=p x)(l:List ATree):(FA N l).filter q=(l.filter p).map (ATree.nt N):=by
 rw[AC,List.filter_map];congr 1
 exact List.filter_congr λx _=>h x
def ZS:(a.nt N).funcs=(a.kids.filter xk).map (ATree.nt N):=by
 unfold NT.funcs;rw[Zu];exact Zfw _ _ (λx=>by rw[Zb];rfl) _
def Zb1:(a.nt N).lets=(a.kids.filter vG).map (ATree.nt N):=by
 unfold NT.lets;rw[Zu];exact Zfw _ _ (λx=>by rw[Zb];rfl) _
def Zhx(l:List ATree):(l.map (ATree.nt N)).map NT.text=l.map ATree.text:=by
 rw[List.map_map];exact List.map_congr_left λx _=>rH
def Z9p(body:Bool):(a.nt N).names body=La body a:=by
 unfold NT.names La yB;rw[Zb1,ZS,Zhx,Zhx,VY,List.foldl_map,List.foldl_map]
theorem Z6e:(a.nt N).strict=Zi a:=by unfold NT.strict Zi;rw[rH,Zb]
def Zqa(st ins:Bool):(a.nt N).check st ins=A0 a st ins:=by
 unfold NT.check;exact Zbi (by rw[Zsg,VZ]) st ins
end
def al(n:Nat)(p:PR):Prop:=∀t ts,p=some (.ok (t,ts))->t.many+2*ts.length<=n
theorem al.fail{n:Nat}{e:Int}{ts:List Tok}:al n (xn e ts):=by intro t ts' h;cases h
theorem al.none{n:Nat}:al n none:=by intro t ts' h;cases h
theorem al.err{n:Nat}{e:Int×Nat}:al n (some (.error e)):=by intro t ts' h;cases h
theorem al.ok{n:Nat}{t:Tree}{ts:List Tok}(h:t.many+2*ts.length<=n):al n (ir t ts):=by
 intro t' ts' g;simp only[ir,Option.some.injEq,Except.ok.injEq,Prod.mk.injEq]at g;rw[<-g.1,<-g.2];exact h
def al.bind{n m:Nat}{p:PR}{k:Tree->List Tok->PR}(hp:al m p)(hk:∀t ts,t.many+2*ts.length<=m->al n (k t ts)):al n (Zq p k):=by
 cases p with
 |none=>exact al.none
 |some r=>
   cases r with
   |error e=>exact al.err
   |ok x=>obtain⟨t,ts⟩:=x;exact hk t ts (hp t ts rfl)
def al.want{n:Nat}{s:kB}{ts:List Tok}{k:List Tok->PR}(hk:ts.tail.length<ts.length->al n (k ts.tail)):al n (lF s ts k):=by
 unfold lF;by_cases h:ak s ts=true;·rw[Y5 h];exact hk (Zm h)
 .rw[Y3 h];exact al.fail
def al.name{n:Nat}{ts:List Tok}{k:kB->List Tok->PR}(hk:∀s,ts.tail.length<ts.length->al n (k s ts.tail)):al n (B6 ts k):=by
 unfold B6;by_cases h:(c9 ts).kind=1;·exact Zv7
 .rw[Y3 h];exact al.fail
def al.within{n d:Nat}{ts:List Tok}{p:PR}(h:al n p):al n (x6 d ts p):=by
 unfold x6;by_cases g:30<d+1;·rw[Y5 g];exact al.fail
 .rw[Y3 g];exact h
def al.ite{n:Nat}{c:Prop} [Decidable c]{p q:PR}(hp:c->al n p)(hq:¬c->al n q):al n (if c then p else q):=by
 exact Zrj
def al.comma{n:Nat}{c:Prop} [Decidable c]{ts:List Tok}{k:List Tok->PR}(hk:∀ts',ts'.length<=ts.length->al n (k ts')):al n ((if c then lF x4 ts else λk=>k ts) k):=by
 by_cases h:c;·rw[Y5 h];exact al.want λg=>hk _ Px
 .rw[Y3 h];exact hk _ (Y0 _)
theorem al.end'{n:Nat}{t:Tree}{ts:List Tok}(h:t.many+2*ts.length<=n+2):al n (wP t ts):=al.want λg=>al.ok Px
def Job.base:Job->Nat
 | .stmts _ g=>qc g+1
 | .params g=>qc g+1
 | .try_=>1
 | .binLoop _ x=>x.many
 | .postLoop x=>x.many
 | .args g=>qc g+1
 | .object g=>qc g+1
 |_=>0
def Z6v(l m:List Tree):qc (l++m)=qc l+qc m:=by
 induction l with
 |nil=>simp[qc]
 |cons x l g=>simp only[List.cons_append,qc,g];omega
theorem y9(k:Int)(s:kB)(n:Int)(l:List Tree):(Tree.mk k s n l).many=qc l+1:=by simp[Tree.many]
theorem UR(x:Tree):qc [x]=x.many:=by simp[qc]
theorem Z5g(x y:Tree):qc [x,y]=x.many+y.many:=by simp[qc]
theorem Zh1(x y z:Tree):qc [x,y,z]=x.many+y.many+z.many:=by simp[qc];omega
theorem Wr:qc []=0:=by simp[qc]
theorem Zmz(x:Tree):x.many=qc x.kids+1:=by cases x;simp[Tree.many,Tree.kids]
def Zjg:∀(f:Nat) (m:Job) (d:Nat) (ts:List Tok),al (m.base+2*ts.length) (Z2 f m d ts):=by
 intro f;induction f with
 |zero=>intro m d ts;exact al.none
 |succ f ih=>
   intro m d ts;have I:=Zv ts;have g:∀(m:Job) (d:Nat) (us:List Tok) {n:Nat},m.base+2*us.length<=n->al n (Z2 f m d us):=λm d us n h t vs hp=>Y4 (ih m d us t vs hp) h;cases m with
   |stmts kind p=>
     rw[Z2];refine al.ite (λ_=>al.ok ?_) λ_=>al.bind (al.within (ih .stmt _ _)) λt us h=>g _ _ _ ?_;·rw[y9];simp only[Job.base];omega
     .simp only[Job.base,Z6v,UR]at *;omega
   |block body=>
     rw[Z2];refine al.want λh1=>al.bind (ih (.stmts 6 []) _ _) λt us h=>al.want λh2=>al.ok ?_;simp only[Job.base,Wr]at *;cases body;·simp only[Bool.false_eq_true,if_false];rw[y9];rw[Zmz]at h;omega
     .simp only[if_true];omega
   |func kind text=>
     rw[Z2];refine al.want λh1=>al.bind (ih (.params []) _ _) λt us h=>al.want λh2=>al.bind (ih (.block true) _ _) λt vs h3=>al.ok ?_;simp only[Job.base,Wr,y9,Z5g]at *;omega
   |params p=>
     rw[Z2];refine al.ite (λ_=>al.ok ?_) λ_=>al.comma λus h=>al.ite (λ_=>al.fail) λ_=>al.name λs h2=>g _ _ _ ?_;·rw[y9];simp only[Job.base];omega
     .simp only[Job.base,Z6v,UR,y9,Wr]at *;omega
   |around=>
     rw[Z2];refine al.want λh1=>al.bind (ih .value _ _) λt us h=>al.want λh2=>al.ok ?_;simp only[Job.base]at *;omega
   |stmt=>
     rw[Z2];refine al.ite (λh=>g _ _ _ PS) λ_=>?_;refine al.ite (λh=>al.ok (by have:=Zm h;simp only[Job.base,y9,Wr];omega)) λ_=>?_;refine al.ite (λh=>al.bind (ih _ _ _) λt us h2=>al.end' Qi) λ_=>?_;refine al.ite (λh=>al.bind (ih _ _ _) λt us h2=>al.end' Qi) λ_=>?_;refine al.ite (λh=>al.bind (ih _ _ _) λt us h2=>al.end' Qi) λ_=>?_
     refine al.ite (λh=>al.name λs h2=>g _ _ _ PS) λ_=>?_;refine al.ite (λh=>?_) λ_=>?_
     .have:=Zm h;refine al.bind (ih .around _ _) λt us h2=>al.bind (al.within (ih .stmt _ _)) λt vs h3=>?_;have:=Zv vs;exact al.ite (λh4=>al.bind (al.within (ih .stmt _ _)) λt xs h5=>al.ok (by simp only[Job.base,y9,Zh1]at *;omega)) λ_=>al.ok Ri
     refine al.ite (λh=>?_) λ_=>?_;·exact Zww
     refine al.ite (λh=>?_) λ_=>?_;·exact Zww
     refine al.ite (λh=>?_) λ_=>?_
     .have:=Zm h;exact al.ite (λh1=>al.end' (by simp only[Job.base,y9,Wr]at *;omega)) λ_=>al.bind (ih .value _ _) λt us h2=>al.end' Rj
     refine al.ite (λh=>?_) λ_=>?_
     .have:=Zm h;exact XF
     refine al.ite (λh=>g _ _ _ (by have:=Zm h;simp only[Job.base];omega)) λ_=>?_;exact XF
   |decl kind J=>
     rw[Z2];refine al.name λs h=>al.ite (λ_=>al.fail) λ_=>al.ite (λh2=>al.bind (ih .value _ _) λt us h3=>al.ok ?_) λ_=>al.ok ?_;·have:=Zv ts.tail;simp only[Job.base,y9,UR]at *;omega
     .simp only[Job.base,y9,Wr]at *;omega
   |try_=>
     rw[Z2];refine al.bind (ih (.block false) _ _) λb us h=>?_;have hk:∀(l:List Tree) (vs:List Tok),qc l+2*vs.length<=2*ts.length->al (1+2*ts.length) (if ak Ir vs then Zq (Z2 f (.block false) d vs.tail) λc ts=>ir (.mk 12 ByteArray.empty 0 (l++[.mk 14 ByteArray.empty 0 [c]])) ts else if l.length=1 then xn 3 vs else ir (.mk 12 ByteArray.empty 0 l) vs):=by
      intro l vs h2;refine al.ite (λh3=>al.bind (ih (.block false) _ _) λt xs h4=>al.ok ?_) λ_=>al.ite (λ_=>al.fail) λ_=>al.ok ?_;·have:=Zm h3;simp only[Job.base,y9,Z6v,UR]at *;omega
      .rw[y9];omega
     refine al.ite (λh1=>?_) λ_=>hk _ _ Rv;have:=Zm h1;refine al.want λh2=>al.name λs h3=>al.want λh4=>al.bind (ih (.block false) _ _) λc vs h5=>hk _ _ ?_;simp only[Job.base,y9,UR,Z5g]at *;omega
   |value=>rw[Z2];exact al.within (g _ _ _ PS)
   |assign=>
     rw[Z2];refine al.bind (ih (.bin 0) _ _) λx us h=>al.ite (λh1=>al.ite (λ_=>al.bind (ih .value _ _) λy vs h2=>al.ok ?_) λ_=>al.err) λ_=>al.ok ?_;·have:=Zm h1;simp only[Job.base,y9,Z5g]at *;omega
     .simp only[Job.base]at *;omega
   |bin u=>
     rw[Z2];refine al.ite (λh=>g _ _ _ PS) λh=>al.bind (ih (.bin (u+1)) _ _) λx us h=>g _ _ _ Qi
   |binLoop u x=>
     rw[Z2];refine al.ite (λ_=>al.ok PS) λF=>al.bind (ih (.bin (u+1)) _ _) λy us h=>g _ _ _ ?_;have:=Z7o F;simp only[Job.base,y9,Z5g]at *;omega
   |unary=>
     rw[Z2];refine al.ite (λ_=>g _ _ _ PS) λF=>al.bind (al.within (ih .unary _ _)) λy us h=>al.ok ?_;have:=Zb5 F;simp only[Job.base,y9,UR]at *;omega
   |postfix_=>
     rw[Z2];exact al.bind (ih .primary _ _) λy us h=>g _ _ _ Qi
   |postLoop x=>
     rw[Z2];refine al.ite (λh=>al.name λs h2=>g _ _ _ ?_) λ_=>al.ite (λh=>?_) λ_=>al.ok PS;·have:=Zm h;simp only[Job.base,y9,UR]at *;omega
     .have:=Zm h;exact al.bind (ih (.args [x]) _ _) λy us h=>g _ _ _ Rv
   |args p=>
     rw[Z2];refine al.ite (λh=>al.ok ?_) λ_=>al.comma λus h=>al.ite (λ_=>al.fail) λ_=>al.bind (ih .value _ _) λy vs h2=>g _ _ _ ?_;·rw[y9];simp only[Job.base];omega
     .simp only[Job.base,Z6v,UR]at *;omega
   |primary=>
     rw[Z2];have:=Zv ts.tail;refine al.ite (λh=>al.ok ?_) λ_=>al.ite (λh=>al.ok ?_) λ_=>al.ite (λh=>al.ok ?_) λ_=>al.ite (λh=>al.ok ?_) λ_=>?_;·exact Zt0
     .exact Zt0
     .exact Zt0
     .have:ts.tail.length<ts.length:=by
       exact Aa'
      simp only[Job.base,y9,Wr]at *;omega
     refine al.ite (λ_=>g _ _ _ PS) λ_=>?_;refine al.ite (λ_=>al.ite (λ_=>g _ _ _ PS) λ_=>g _ _ _ PS) λ_=>?_;exact al.ite (λh=>g _ _ _ (by have:=Zm h;simp only[Job.base,Wr];omega)) λ_=>al.fail
   |object p=>
     rw[Z2];refine al.ite (λh=>al.ok ?_) λ_=>al.comma λus h=>al.ite (λ_=>al.fail) λ_=>al.name λs h1=>al.want λh2=>al.bind (ih .value _ _) λy vs h3=>g _ _ _ ?_;·rw[y9];simp only[Job.base];omega
     .simp only[Job.base,Z6v,UR,y9]at *;omega
def Zc4{text:kB}{j k:Nat}{t:Tok}(h:iq text j=.ok (t,k)):t.kind≠6/\(t.kind=2->Ud t.text=true)/\(t.kind=5->t.text=text.extract j (j+Zl text j)/\uZ (Z5 text j)=false):=by
 unfold iq at h;simp only at h;split at h
 .rename_i hl;split at h
  .rename_i hw;simp only[Except.ok.injEq,Prod.mk.injEq]at h;obtain⟨rfl,_⟩:=h;exact⟨by simp,λ_=>hw,(λh=>by simp at h)⟩
  .exact ZX
 .rename_i hl;split at h
  .split at h;·cases h
   .exact ZX
  .split at h
   .split at h;·cases h
    .exact ZX
   .split at h;·cases h
    .simp only[Except.ok.injEq,Prod.mk.injEq]at h;obtain⟨rfl,_⟩:=h;exact⟨by simp,(λh=>by simp at h),λ_=>⟨rfl,by simpa using hl⟩⟩
def Zm8{s:kB}(h:Ud s=true):WI s=0:=by
 refine Decidable.byContradiction λhs=>?_;have g:s=Hs\/s=V0\/s=Wc\/s=Vt\/s=U5\/s=Vn\/s=V5:=by
  exact Ab7
 have m:∀x,Ud x=false->s=x->False:=λx h1 h2=>by rw[h2,h1]at h;cases h
 rcases g with e|e|e|e|e|e|e;all_goals exact m _ Pz e
def Zfp{s:kB}(h:Zov s≠0):uZ (Z5 s 0)=true/\0<s.size:=by
 unfold Zov at h;by_cases h1:Zg s TP=true
 .have :s=TP:=by simpa[Zg]using h1
  subst this;exact⟨by kernel_rfl,by decide⟩
 by_cases g:Zg s Un=true
 .have :s=Un:=by simpa[Zg]using g
  subst this;exact⟨by kernel_rfl,by decide⟩
 by_cases m:Zg s Vg=true
 .have :s=Vg:=by simpa[Zg]using m
  subst this;exact⟨by kernel_rfl,by decide⟩
 by_cases p:Zg s Vw=true
 .have :s=Vw:=by simpa[Zg]using p
  subst this;exact⟨by kernel_rfl,by decide⟩
 simp[h1,g,m,p]at h
def Zjd{text:kB}{j k:Nat}{t:Tok}(m:j<text.size)(h:iq text j=.ok (t,k)):WS t:=by
 obtain⟨_,g,h5⟩:=Zc4 h;refine⟨λhk=>Zm8 (g hk),λhk=>?_⟩;obtain⟨ht,hl⟩:=h5 hk;refine Decidable.byContradiction λhc=>?_;obtain⟨hb,hs⟩:=Zfp hc;have p:0<Zl text j:=by
  unfold Zl;split;·omega
  .split;·omega
   .split<;>omega
 have hp:Z5 t.text 0=Z5 text j:=by
  rw[ht];have u:(text.extract j (j+Zl text j)).size<=Zl text j:=by rw[ByteArray.size_extract];omega
  by_cases hk:j+Zl text j<=text.size;·rw[Zk text Px hk];rfl
  .have e:text.extract j (j+Zl text j)=text.extract j text.size:=by
    apply ByteArray.ext;simp only[ByteArray.data_extract];apply Array.ext
    .simp only[Array.size_extract];have:text.size=text.data.size:=rfl;omega
    .intro i h1 g;simp only[Array.getElem_extract]
   rw[e,Zk text Px (Y0 _)];rfl
 rw[hp,hl]at hb;cases hb
def Zap{text:kB}:∀(r:List Tok) (i:Nat),i<=text.size->Sk text i r->(∃l e,r=l++[e]/\e.kind=6/\∀t∈l,t.kind≠6)/\r.length+i<=text.size+1/\AcL r:=by
 intro r;induction r with
 |nil=>intro i _ h;exact h.elim
 |cons t r m=>
   intro i hi h;cases r with
   |nil=>
     obtain⟨h1,g⟩:=h;refine⟨⟨[],t,rfl,by rw[g],λt ht=>by cases ht⟩,by simp;omega,λx hx=>?_⟩;simp only[List.mem_singleton]at hx;subst hx;rw[g];exact⟨λh=>by simp at h,λh=>by simp at h⟩
   |cons u r=>
     obtain⟨k,h1,g,p⟩:=h;obtain⟨c1,c2,_⟩:=VB text h1 g;obtain⟨s1,_,_,_⟩:=TQ mF text (text.size-i) i (Y0 _) hi;obtain⟨⟨l,e,y,h5,F⟩,G,I⟩:=m k c2 p;refine⟨⟨t::l,e,by rw[y];rfl,h5,λx hx=>?_⟩,?_,λx hx=>?_⟩
     .rcases List.mem_cons.1 hx with rfl|hx;·exact(Zc4 g).1
      .exact F x hx
     .simp only[List.length_cons]at G ⊢;omega
     .rcases List.mem_cons.1 hx with rfl|hx;·exact Zjd h1 g
      .exact I x hx
def xS(s:kB):Prop:=1<=s.size/\s.size<=20/\uZ (Z5 s 0)=true/\(∀i,i<s.size->wG (Z5 s i)=true)/\Ud s=false
def MAr(k:Int)(s:kB)(l:List Tree):Prop:=k≠1/\(k=23->xS s/\l=[])
mutual
def MT:Tree->Prop
 | .mk k s _ l=>MAr k s l/\MTL l
def MTL:List Tree->Prop
 | []=>True
 |t::l=>MT t/\MTL l
end
def Zek(lv:Nat)(ts:List Tok):Dc lv ts=0\/(25<=Dc lv ts/\Dc lv ts<=31):=by
 unfold Dc;split<;>(try split)<;>(try split)<;>omega
def Zdz(ts:List Tok):Oh ts=0\/(32<=Oh ts/\Oh ts<=34):=by
 unfold Oh;split<;>(try split)<;>(try split)<;>omega
def Zf1(ts:List Tok):Sq ts=0\/(19<=Sq ts/\Sq ts<=22):=by
 unfold Sq;split<;>(try split)<;>(try split)<;>(try split)<;>omega
def Zqg{text:kB}{j k:Nat}{t:Tok}(u:j<text.size)(h:iq text j=.ok (t,k)):t.kind=1->xS t.text:=by
 intro h1;unfold iq at h;simp only at h;split at h
 .rename_i hl;obtain⟨K,p⟩:∃K,Zh wG text (text.size-j) j=K:=⟨_,rfl⟩
  obtain⟨s1,g,m,s4⟩:=TQ wG text (text.size-j) j (Y0 _) Px;rw[p]at h s1 g m s4;have y:j<K:=by
   exact XT
  split at h;·exact ZC
  .rename_i hw;split at h;·cases h
   .simp only[Except.ok.injEq,Prod.mk.injEq]at h;obtain⟨rfl,rfl⟩:=h;have hs:=UF text (j:=j) g;refine⟨by rw[hs];omega,by rw[hs];omega,?_,λi hi=>?_,by simpa using hw⟩;·rw[Zk text Px g,Nat.add_zero];exact hl
    .rw[hs]at hi;rw[Zk text hi g];exact m _ Px Px
 .exfalso;split at h;·exact Abi
  .split at h;·exact Abi
   .split at h;·cases h
    .exact ZC
