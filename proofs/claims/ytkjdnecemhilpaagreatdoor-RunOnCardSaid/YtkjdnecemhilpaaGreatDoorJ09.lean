import Derived.Test.YtkjdnecemhilpaaGreatDoorJ08
import Derived.Lib.OwnKind
set_option maxRecDepth 100000
set_option maxHeartbeats 20000000
set_option linter.all false
namespace Go.Proofs.YtkjdnecemhilpaaGreatDoor
open Go Go.RowKit Go.Proofs.Tryz Tryz
def WH(a:ATree):Bool:=a.kind==5||a.kind==37
theorem TreeAt.c0{w:kV}{B:Nat}{a:ATree}(h:TreeAt w B a):w.cell? ⟨a.b,0,none⟩=some (vI a.kind):=by simp[vC,World.cell?,h.blkOf]
theorem TreeAt.c1{w:kV}{B:Nat}{a:ATree}(h:TreeAt w B a):w.cell? ⟨a.b,1,none⟩=some (.string a.text):=by simp[vC,World.cell?,h.blkOf]
theorem TreeAt.c3{w:kV}{B:Nat}{a:ATree}(h:TreeAt w B a):w.cell? ⟨a.b,3,none⟩=some a.v:=by simp[vC,World.cell?,h.blkOf]
def TreeAt.vOf{w:kV}{B:Nat}{a:ATree}(h:TreeAt w B a):∃p g,a.v=.slice p a.kids.length g/\a.kids.length<=g/\g<=maxLen:=by
 rcases Z4 h.rowOf with⟨m,o⟩|⟨y,F,m,o,u,_⟩;·exact⟨none,0,by rw[m,o],by omega,by unfold maxLen;omega⟩
 .exact⟨_,_,m,o,u⟩
def Zdv(w:kV)(B:Nat)(a:ATree)(o:TreeAt w B a) :
 kC 55 #[a.ptr] w λe w'=>e=.returned (.bool (WH a))/\w'=w:=by
 have c0:=o.c0;unfold WH ATree.ptr;obtain⟨g,p⟩:=zX a.kind
 rw[<-p]at c0 ⊢;clear p o;rcases(by omega:g=5\/g=37\/(g≠5/\g≠37))with m|m|⟨m,h4⟩
 .subst m;exact Zs1
 .subst m;exact Zs1
 .have u:(g==5)=false:=by simpa using m
  have y:(g==37)=false:=RH
  clear m h4;rw[u,y];exact Zs1
theorem Zx.slice{w:kV}{B:Nat}{v:Value}{l:List kB}(h:Zx w B v l):∃p n c,v=.slice p n c:=by
 rcases h.form with⟨h,_⟩|⟨g,cap,h,_⟩;·exact⟨_,_,_,h⟩
 .exact⟨_,_,_,h⟩
def Cv(l:List kB)(a:ATree):Bool×List kB:=(!WH a,if a.kind==2 then lw l a.text else l)
def Zex:∀(l T:List kB),l.Nodup->(∀x∈l,x∈T)->l.length<=T.length:=by
 intro l;induction l with
 |nil=>intro T _ _;simp
 |cons a l m=>
   intro T hd hs;obtain⟨o,u⟩:=List.nodup_cons.1 hd;have g:=hs a Qm;have:=m (T.eraseP (λx=>decide (x=a))) u (λx hx=>(List.mem_eraseP_of_neg (by simp only[decide_eq_true_eq];exact λe=>o (by rw[<-e];exact hx))).2 (hs x (List.mem_cons_of_mem _ hx)));have y:=List.length_eraseP_of_mem (p:=λx=>decide (x=a)) g Qm;have F:=List.length_pos_of_mem g;simp only[List.length_cons];omega
def Zjr{l:List kB}{s:kB}(h:l.Nodup):(lw l s).Nodup:=by
 unfold lw;by_cases hc:Lib.containsS l s=true;·rw[Y5 hc];exact h
 .rw[Y3 hc];rw[Lib.containsS_iff]at hc;rw[List.nodup_append];exact⟨h,by simp,λa g b hb e=>hc (by simp at hb;rw[<-hb,<-e];exact g)⟩
def Zpm{l:List kB}{s x:kB}(h:x∈lw l s):x∈l\/x=s:=by
 unfold lw at h;split at h;·exact .inl h
 .simpa using h
structure VInv(w0:kV)(c:Nat)(T:List kB)(l:List kB)(w:kV):Prop where
 cell:∃v,w.heap[c]?=some (.cells #[v] 37 (0,0))/\Zx w (c+1) v l
 bel:Below c w0 w
 nd:l.Nodup
 sub:∀s∈l,s∈T
section
variable {w0 w:kV}{c B:Nat}{T l:List kB}{a:ATree}
theorem VInv.lt(h:VInv w0 c T l w):c<w.heap.size:=by obtain⟨v,hb,_⟩:=h.cell;exact(Y1.1 hb).1
theorem VInv.tree(h:VInv w0 c T l w)(g:TreeAt w0 B a)(hc:w0.heap.size<=c):TreeAt w B a:=g.keep λk _ hk=>h.bel.block k Qe
theorem VInv.drew(h:VInv w0 c T l w):VInv w0 c T l w.drew:=⟨h.cell,h.bel.drew,h.nd,h.sub⟩
def VInv.add{w1:kV}{g:Value}{s:kB}(h:VInv w0 c T l w)(hs:s∈T)(m:Below (c+1) w w1)(ht:Zx w1 (c+1) g (lw l s)):VInv w0 c T (lw l s) (w1.setCell ⟨c,0,none⟩ g):=by
 obtain⟨v,hb,_⟩:=h.cell;have u:w1.heap[c]?=some (.cells #[v] 37 (0,0)):=(m.block c Qe).trans hb;refine⟨⟨g,Zk (o:=0) g u,?_⟩,?_,Zjr h.nd,λx hx=>(Zpm hx).elim (h.sub x) (λe=>by rw[e];exact hs)⟩;·exact Z3 ht λk hk=>Y8 _ _ _ _ (by have:=(Y9 ht k hk).1;simp only;omega)
 .exact(h.bel.trans (m.mono Qe)).setCell (p:=⟨c,0,none⟩) (Y0 _) _
end
def Zn8(w0:kV)(c B:Nat)(T:List kB)(U:T.length<1099511627776)(hc:w0.heap.size<=c)(x:ATree)(hx:TreeAt w0 B x)(X:x.text∈T)(l:List kB)(w:kV)(hI:VInv w0 c T l w) :
 kC 53 #[x.ptr,vP c] w λe w'=>e=.returned (.bool (Cv l x).1)/\VInv w0 c T (Cv l x).2 w':=by
 have y:=hI.tree hx hc;have c0:=y.c0;have c1:=y.c1;obtain⟨Y,F,Z⟩:=ds hx hI hc;have ba:=hI.lt;obtain⟨v,hb,m⟩:=hI.cell;have cc:w.cell? ⟨c,0,none⟩=some v:=by simp[vC,World.cell?,hb]
 have cz:w.frozen? ⟨c,0,none⟩=false:=by simp[World.frozen?,hb]
 have eL:=lh m;have aG:=Nat.lt_of_le_of_lt (Zex l T hI.nd hI.sub) U;have HL:=lh aG;have IK:=lh X;clear y hx hI hc hb m aG X U;unfold Cv ATree.ptr;obtain⟨tx,m⟩:=zX x.text
 rw[<-m]at c1 IK ⊢;clear m;obtain⟨I,bC⟩:=zX x.kind
 rw[<-bC]at c0 ⊢;clear bC;rcases(by omega:I=2\/I≠2)with p|p
 .subst p;go_enter func53,ntmps53
  go_wp2_with fail
  refine Z7 [0,2,4,6,8] [5,6] (λW=>vC W c 0 v/\vC W x.b 1 (.string tx)) ⟨cc,c1⟩ λ_=>?_;refine dS ?_
  iterate 5
   refine dq ?_
  refine Z1 ?_;have HA:=(Ztr w.drew (c+1) v l tx eL.o ba HL.o)
  go_wp2_with fail
  refine HA.mono ?_;rintro e w1⟨v1,rfl,J,u⟩;obtain⟨vp,vn,vc,rfl⟩:=J.slice;have O:=F.o.drew.add IK.o u J;have H1:=lh O;have Ey:w1.frozen? ⟨c,0,none⟩=false:=(Yn (u.block c Qe)).trans cz;have iG:∃v,vC w1 c 0 v:=⟨v,(Yb (u.block c Qe)).trans cc⟩
  obtain⟨v2,iG⟩:=iG;have g:=Zdv _ B x (O.tree Y.o Z.o);unfold ATree.ptr at g;have g:=lh g;clear O HA u J;go_wp2_with fail
  refine g.o.mono ?_;rintro e w3⟨rfl,rfl⟩;go_wp2;go_ret;exact⟨rfl,H1.o⟩
 .have n2:(I==2)=false:=by simpa using p
  rw[n2];clear p;have g:=Zdv w B x (F.o.tree Y.o Z.o);unfold ATree.ptr at g;have g:=lh g;go_enter func53,ntmps53
  go_wp2_with fail
  refine g.o.mono ?_;rintro e w3⟨rfl,rfl⟩;go_wp2;go_ret;exact⟨rfl,F.o⟩
def Zsv(o:Addr){σ:Type}(Inv:σ->kV->Prop)(g:σ->ATree->Bool×σ)(B:Nat):∀(m:Nat) (a:ATree),a.many<=m->(∀s w,Inv s w->TreeAt w B a)->
 ∀s,(∀x s',Reach g a s x s'->∀w,Inv s' w->kC 53 #[x.ptr,.pointer (some o)] w λe w'=>e=.returned (.bool (g s' x).1)/\Inv (g s' x).2 w')->
 ∀w,Inv s w->kC 14 #[a.ptr,.func (.func 53) #[] #[.pointer (some o)]] w λe w'=>e=.returned (.tuple #[])/\Inv (tU g a s) w':=by
 exact tq6
def yi(a:ATree):List kB:=oB Cv a.kids []
def Zx.base{w:kV}{B m:Nat}{v:Value}{l:List kB}(h:Zx w B v l)(y:m<=B):Zx w m v l:=by
 refine⟨h.1,?_⟩;rcases h.2 with hn|⟨g,cap,o,p,F,u⟩;·exact .inl hn
 .exact .inr ⟨g,cap,o,p,by omega,u⟩
def Z9z(l:List ATree):(nc l).length=x4 l:=by
 have g:∀n,∀l:List ATree,x4 l<=n->(nc l).length=x4 l:=by
  intro n;induction n with
  |zero=>
    intro l hl;cases l with
    |nil=>rfl
    |cons a l=>exfalso;obtain⟨b,v,k,t,m,o⟩:=a;simp only[x4,ATree.many]at hl;omega
  |succ n p=>
    intro l hl;cases l with
    |nil=>rfl
    |cons a l=>
      obtain⟨b,v,k,t,m,o⟩:=a;simp only[x4,ATree.many]at hl ⊢;have u:=p o Qe;have y:=p l Qe;simp only[nc,ATree.subs,List.length_append,List.length_cons,u,y]
 exact g _ l (Y0 _)
def Zao(a:ATree):a.kids.length<=a.many:=by
 have g:∀l:List ATree,l.length<=x4 l:=by
  intro l;induction l with
  |nil=>simp[x4]
  |cons x l p=>obtain⟨b,v,k,t,m,o⟩:=x;simp only[List.length_cons,x4,ATree.many];omega
 obtain⟨b,v,k,t,m,o⟩:=a;have:=g o;simp only[ATree.kids,ATree.many];omega
def Zfp{w:kV}{B:Nat}:∀{a x:ATree},TreeAt w B a->x∈a.subs->TreeAt w B x:=by
 have p:∀n,∀a x:ATree,a.many<=n->TreeAt w B a->x∈a.subs->TreeAt w B x:=by
  intro n;induction n with
  |zero=>intro a x h;exfalso;obtain⟨b,v,k,t,m,g⟩:=a;simp only[ATree.many]at h;omega
  |succ n F=>
    intro a x hn o hx;obtain⟨b,v,k,t,m,g⟩:=a;simp only[ATree.subs,List.mem_cons]at hx;rcases hx with rfl|hx;·exact o
    .have:∀l:List ATree,(∀y∈l,y∈g)->x∈nc l->TreeAt w B x:=by
      intro l;induction l with
      |nil=>intro _ h;simp[nc]at h
      |cons y l I=>
        intro hl h;simp only[nc,List.mem_append]at h;rcases h with h|h
        .have u:y∈(ATree.mk b v k t m g).kids:=hl y Qm;exact F y x (by have:=Z78 u;omega) (o.kid u) h
        .exact I (λz J=>hl z (List.mem_cons_of_mem _ J)) h
     exact this g (λy h=>h) hx
 intro a x o hx;exact p _ a x (Y0 _) o hx
def Vq(a:ATree):List kB:=(nc a.kids).map ATree.text
def Zgw{a k x:ATree}(h:k∈a.kids)(hx:x∈k.subs):x.text∈Vq a:=by
 unfold Vq;refine List.mem_map_of_mem ?_;have g:∀l:List ATree,k∈l->x∈nc l:=by
  exact Zzc
 exact g _ h
def Zzi(w:kV)(B:Nat)(a k:ATree)(g:TreeAt w B a)(o:a.many<1099511627776)(hk:k∈a.kids)(l:List kB)(w1:kV)(hI:VInv w w.heap.size (Vq a) l w1) :
 kC 14 #[k.ptr,.func (.func 53) #[] #[vP w.heap.size]] w1 λe w'=>e=.returned (.tuple #[])/\VInv w w.heap.size (Vq a) (tU Cv k l) w':=
 Zsv ⟨w.heap.size,0,none⟩ (VInv w w.heap.size (Vq a)) Cv B k.many k (Y0 _) (λs w1 h=>h.tree (g.kid hk) (Y0 _))
  l (λx s hx w1 h=>Zn8 w w.heap.size B (Vq a) (by unfold Vq;rw[Ym,Z9z];obtain⟨b,v,p,t,m,u⟩:=a;simp only[ATree.many]at o;simp only[ATree.kids];omega) (Y0 _) x (Zfp (g.kid hk) hx.sub) (Zgw hk hx.sub) s w1 h) w1 hI
def Z82(w:kV)(B:Nat)(a:ATree)(hT:TreeAt w B a)(u:a.many<1099511627776) :
 kC 23 #[a.ptr] w λe w'=>∃v,e=.returned v/\Zx w' w.heap.size v (yi a)/\kW w w'/\(yi a).length<=a.many:=by
 have Y:=lh (Zzi w B a · hT u);refine D8 ?_;intro iT;have Z:=hT.blkOf;obtain⟨p,cp,hv,bq,d7⟩:=hT.vOf;refine Zyt ?_;intro c3 aG;have bT:=hT.lt;have ry:(w.alloc (.cells #[.slice none 0 0] 37)).cell? ⟨a.b,3,none⟩=some (.slice p a.kids.length cp):=(Zb bT).trans c3;obtain⟨HT,HV,HM⟩:=ds hT hv u;unfold ATree.ptr;obtain⟨n,y⟩:=zX a.kids.length
 rw[<-y]at c3 aG bq ry;have HN:=lh y;have I:VInv w w.heap.size (Vq a) [] (w.alloc (.cells #[.slice none 0 0] 37)):=
  ⟨⟨_,by rw[World.alloc];simp,Zx.nil _ _⟩,(Y2 _ _).alloc (Y0 _) _,List.nodup_nil,λ_ h=>by cases h⟩
 have HS:=lh I;clear Z hv y hT I u;go_enter func23,ntmps23
 go_wp2_with fail
 go_loopw [13] (λi wr=>∃(k:Nat),k<=n/\i=(vI k)/\Hid (VInv w w.heap.size (Vq a) (oB Cv (a.kids.take k) []) wr)) (λi _=>n-(intOf i).toNat)
 case atStart=>exact⟨0,Yh _,rfl,lh (by simpa[oB]using HS.o)⟩
 case round=>
  obtain⟨k,hk,rfl,o⟩:=hrel;by_cases bY:k<n
  .obtain⟨x,hx⟩:∃x,a.kids[k]? =some x:=⟨_,Y6 QA⟩
   have J:=o.o.tree HT.o (Y0 _);have ae:=J.rowOf;rcases Z4 ae with⟨_,h2⟩|⟨g0,gB,gr,_⟩;·rw[<-HN.o]at h2;omega
   have hp:p=some ⟨g0,0,none⟩:=by
    exact Vb
   subst hp;refine SS ?_;intro cx;have F:=Y.o x (Yd hx) _ _ o.o;unfold ATree.ptr at cx F;have O:=lh F;have HX:=lh hx;clear J ae gr hx F;go_wp2_with fail
   refine O.o.mono ?_;rintro e w1⟨rfl,U⟩;have eF:=lh U;clear U O;go_wp2;go_roundw
   case rel=>exact⟨k+1,by omega,by go_num,lh (by rw[Z30 HX.o,Zcq];exact eF.o)⟩
   case measure=>simp[intOf];omega
  .have aT:k=n:=by omega
   subst aT;obtain⟨v,hb,X⟩:=o.o.cell;have cc:wr.cell? ⟨w.heap.size,0,none⟩=some v:=by simp[vC,World.cell?,hb]
   have eL:=lh X;clear hb X;go_wp2;go_ret;have ao:oB Cv (a.kids.take k) []=yi a:=by rw[Ye QS];rfl
   rw[<-ao];refine⟨_,rfl,eL.o.base (Nat.le_succ _),o.o.bel,?_⟩;have:=Zex _ _ o.o.nd o.o.sub;refine Y4 this ?_;unfold Vq;rw[Ym,Z9z];obtain⟨b,v,kk,t,m,ks⟩:=a;simp only[ATree.many,ATree.kids];omega
def Zj(a:ATree):Bool:=Zh a.text LA&&(a.kind==1||a.kind==6)
def xZ(l:List kB)(g:List ATree):List kB:=g.foldl (λl k=>lw l k.text) l
theorem Zc7(l:List kB)(g:List ATree)(k:ATree):xZ l (g++[k])=lw (xZ l g) k.text:=by simp[xZ,List.foldl_append]
def Z9x(l:List kB)(g:List ATree):(xZ l g).length<=l.length+g.length:=by
 induction g generalizing l with
 |nil=>simp[xZ]
 |cons k g m=>
   have o:=m (lw l k.text);have p:=Zic l k.text;simp only[xZ,List.foldl_cons,List.length_cons]at o ⊢;omega
def JK(body:Bool)(a:ATree):List kB:=xZ (xZ (if body then yi a else[]) (a.kids.filter xp)) (a.kids.filter vV)
def lL.far{w w':kV}{B m:Nat}{v g:Value}{l:List ATree}{o:List kB}(h:lL w B v l)(ht:Zx w m g o)(hf:∀k,k<w.heap.size->g.ownBlock≠some k->w'.heap[k]?=w.heap[k]?):lL w' B v l:=by
 refine Z3 h λk hk=>hf k (Y9 h k hk).2 λe=>?_;exact Zy4
def Zj2(w:kV)(B0:Nat)(a:ATree)(J:TreeAt w B0 a)(hm:a.many<274877906944) :
 kC 112 #[a.ptr,.bool true] w λe w'=>∃v,e=.returned v/\Zx w' w.heap.size v (JK true a)/\kW w w':=by
 have aY:=Zao a;have HT:=lh J;refine ZK ?_;intro np dt ti fm qY kL;refine Zwe ?_;intro hF hL P hP Q hQ;unfold JK;simp only[if_true];rw[<-hP]at np qY;rw[<-hQ]at dt kL;simp only[<-hP]at hF;simp only[<-hQ]at hL;rw[<-hP,<-hQ];clear hP hQ ti fm J;have O:=lh hF;have HL:=lh hL;clear hF hL;have o:=Z82 w B0 a HT.o Qe;obtain⟨l0,U⟩:=zX (yi a)
 rw[<-U]at o ⊢;have u:=lh o;clear o U;unfold ATree.ptr at O HL u ⊢;go_enter func112,ntmps112
 go_wp2_with fail
 refine u.o.mono ?_;rintro e w1⟨v1,rfl,X,Y,mC⟩;have Z:=lh X;have y:=lh Y;clear u X Y;go_wp2_with fail
 refine(O.o w1 (HT.o.bel y.o)).mono ?_;rintro e w2⟨v2,rfl,cF,F⟩;obtain⟨p2,jW,rfl,dI,fR⟩:∃p cp,v2=.slice p P.length cp/\P.length<=cp/\cp<=maxLen:=by
  exact AaE
 have uU:=lh (Z.o.bel F);have aP:=zT y F;have N2:=lh cF;obtain⟨m,I⟩:=zX P.length
 have EA:m<=9223372036854775807:=Rk
 rw[<-I]at dI N2 np ⊢;have bX:=lh I;clear cF F I Z y;go_wp2_with fail
 go_loopw [5,16] (λv i wr=>∃(k:Nat) (v':Value),v'=v/\k<=m/\i=(vI k)/\Hid (Zx wr w.heap.size v' (xZ l0 (P.take k)))/\Hid (lL wr w1.heap.size (.slice p2 m jW) P)/\Hid (kW w wr)) (λ_ i _=>m-(intOf i).toNat)
 case atStart=>exact⟨0,_,rfl,Yh _,rfl,uU,N2,aP⟩
 case round=>
  exact tq3
def Zh2(w:kV)(B0:Nat)(a:ATree)(I:TreeAt w B0 a)(Y:a.many<274877906944) :
 kC 112 #[a.ptr,.bool false] w λe w'=>∃v,e=.returned v/\Zx w' w.heap.size v (JK false a)/\kW w w':=by
 have Z:=Zao a;have HT:=lh I;refine ZK ?_;intro np dt ti fm qY kL;refine Zwe ?_;intro hF hL P hP Q hQ;unfold JK;simp only[Bool.false_eq_true,if_false];rw[<-hP]at np qY;rw[<-hQ]at dt kL;simp only[<-hP]at hF;simp only[<-hQ]at hL;rw[<-hP,<-hQ];clear hP hQ ti fm I;have J:=lh hF;have HL:=lh hL;clear hF hL;obtain⟨l0,o⟩:∃l:List kB,l=[]:=⟨_,rfl⟩
 have mC:l0.length<=a.many:=by rw[o];exact Yh _
 have O:Hid (Zx w w.heap.size (.slice none 0 0) l0):=lh (by rw[o];exact Zx.nil _ _);rw[<-o];have u:=lh (Y2 w.heap.size w);clear o;unfold ATree.ptr at J HL ⊢;go_enter func112,ntmps112
 go_wp2_with fail
 refine(J.o w (HT.o.bel u.o)).mono ?_;rintro e w2⟨v2,rfl,cF,y⟩;obtain⟨p2,U,rfl,X,fR⟩:∃p cp,v2=.slice p P.length cp/\P.length<=cp/\cp<=maxLen:=by
  exact AaE
 have uU:=lh (O.o.bel y);have aP:=zT u y;have N2:=lh cF;obtain⟨m,F⟩:=zX P.length
 have EA:m<=9223372036854775807:=Rk
 rw[<-F]at X N2 np ⊢;have bX:=lh F;clear cF y F O u;go_wp2_with fail
 go_loopw [5,16] (λv i wr=>∃(k:Nat) (v':Value),v'=v/\k<=m/\i=(vI k)/\Hid (Zx wr w.heap.size v' (xZ l0 (P.take k)))/\Hid (lL wr w.heap.size (.slice p2 m U) P)/\Hid (kW w wr)) (λ_ i _=>m-(intOf i).toNat)
 case atStart=>exact⟨0,_,rfl,Yh _,rfl,uU,N2,aP⟩
 case round=>
  exact tq3
def Z9o(body:Bool)(w:kV)(g:Nat)(a:ATree)(m:TreeAt w g a)(o:a.many<274877906944) :
 kC 112 #[a.ptr,.bool body] w λe w'=>∃v,e=.returned v/\Zx w' w.heap.size v (JK body a)/\kW w w':=by
 cases body;·exact Zh2 w g a m o
 .exact Zj2 w g a m o
def Z4e(w:kV)(B:Nat)(a:ATree)(o:TreeAt w B a) :
 kC 22 #[a.ptr] w λe w'=>e=.returned (.bool (Zj a))/\w'=w:=by
 have c0:=o.c0;have c1:=o.c1;unfold Zj ATree.ptr;obtain⟨g,u⟩:=zX a.kind
 obtain⟨tx,y⟩:=zX a.text
 rw[<-u]at c0 ⊢;rw[<-y]at c1 ⊢;clear u y o;by_cases hs:tx=LA
 .subst hs;have I:Zh LA LA=true:=by simp[Zh]
  rw[I];unfold LA at c1;rcases(by omega:g=1\/g=6\/(g≠1/\g≠6))with m|m|⟨m,h4⟩
  .subst m;exact Zpd
  .subst m;exact Zpd
  .have J:(g==1)=false:=by simpa using m
   have O:(g==6)=false:=RH
   clear m h4;rw[J,O];exact Zpd
 .have p:Zh tx LA=false:=by simp[Zh,hs]
  rw[p];have F:(tx.toList==LA.toList)=false:=by rw[TZ];exact p
  have U:(tx.toList== [115,116,114,105,99,116])=false:=by
   have:LA.toList=[115,116,114,105,99,116]:=Qh
   rwa[this]at F
  clear F;clear hs p;exact Zpd
open Go.ChangeMaps Go.MapKept
def yk(b:Nat):Value:=(vP b)
def tm(w:kV)(k:Nat):Prop:=∃c t,w.heap[k]?=some (.cells c t (0,0))
def pr(w:kV)(b:Nat)(l:List (Nat×Nat)):Prop:=
 ∃g m,w.heap[b]?=some (.map g m)/\g.toList.map (λe=>(e.key,e.val))=l.map (λx=>(yk x.1,Value.int .i64 x.2))/\Go.MapKept.Stamped g m
def Zco(w:kV)(a b:Nat)(g:tm w a)(hb:tm w b):(Op.equal 22 (yk a) (yk b)).run Tryz.prog w=.ok (decide (a=b)) w:=by
 obtain⟨c1,t1,m⟩:=g;obtain⟨c2,t2,o⟩:=hb;have p:(sizeOf 28).run Tryz.prog w=.ok 4 w:=Qh
 show(Op.equalIn (9999+1) _ _ _).run Tryz.prog w=_;unfold Op.equalIn yk;simp only[Sem.run_bind,run_underlying underlying22,Result.andThen,p];by_cases h:a=b
 .subst h;simp[run_sameAddr_same]
 .have u:(⟨a,0,none⟩:Addr)≠⟨b,0,none⟩:=λe=>h (congrArg Addr.block e);rw[decide_eq_false h];simp;exact run_sameAddr_other w u m o
def Zq0(w:kV)(k:Nat)(hk:tm w k):∀(g:List MapEntry) (l:List (Nat×Nat)) (i:Nat),g.map (λe=>(e.key,e.val))=l.map (λx=>(yk x.1,Value.int .i64 x.2))->(∀x∈l,tm w x.1/\x.1≠k)->
 (Instr.findAsking 22 (yk k) g i).run Tryz.prog w=.ok none w:=by
 intro g;induction g with
 |nil=>intro l i _ _;rfl
 |cons e g o=>
   intro l i hl hx;cases l with
   |nil=>simp at hl
   |cons x l=>
     simp only[List.map_cons,List.cons.injEq,Prod.mk.injEq]at hl;obtain⟨⟨p,I⟩,u⟩:=hl;have m:=hx x Qm;unfold Instr.findAsking;rw[p];simp only[Sem.run_bind,Zco w k x.1 hk m.1,Result.andThen];rw[show decide (k=x.1)=false by simp;exact λe=>m.2 e.symm];exact o l (i+1) u λy F=>hx y (List.mem_cons_of_mem _ F)
def Zp6(w:kV)(k v:Nat)(hk:tm w k):∀(g:List MapEntry) (l:List (Nat×Nat)) (i:Nat),g.map (λe=>(e.key,e.val))=l.map (λx=>(yk x.1,Value.int .i64 x.2))->(∀x∈l,tm w x.1)->(l.map (·.1)).Nodup->(k,v)∈l->
 ∃j,(Instr.findAsking 22 (yk k) g i).run Tryz.prog w=.ok (some (j,vI v)) w:=by
 intro g;induction g with
 |nil=>intro l i hl _ _ m;cases l;(cases m);(simp at hl)
 |cons e g p=>
   intro l i hl hx hd m;cases l with
   |nil=>cases m
   |cons x l=>
     simp only[List.map_cons,List.cons.injEq,Prod.mk.injEq]at hl;obtain⟨⟨u,F⟩,I⟩:=hl;have J:=hx x Qm;rw[List.map_cons,List.nodup_cons]at hd;unfold Instr.findAsking;rw[u];simp only[Sem.run_bind,Zco w k x.1 hk J,Result.andThen];by_cases o:k=x.1
     .have O:x=(k,v):=by
       rcases List.mem_cons.1 m with h|h;·exact h.symm
       .exact absurd (List.mem_map.2 ⟨(k,v),h,o⟩) hd.1
      rw[decide_eq_true o];refine⟨i,?_⟩;rw[F,O];rfl
     .rw[decide_eq_false o];refine p l (i+1) I (λy U=>hx y (List.mem_cons_of_mem _ U)) hd.2 ?_;rcases List.mem_cons.1 m with h|h;·exact absurd (by rw[<-h]) o
      .exact h
def Zi9(k:Nat)(g:List MapEntry)(l:List (Nat×Nat))(h:g.map (λe=>(e.key,e.val))=l.map (λx=>(yk x.1,Value.int .i64 x.2))) :
 (l=[]/\Instr.findNow (.pointer 28) (yk k) g 0=some none)\/(l≠[]/\Instr.findNow (.pointer 28) (yk k) g 0=none):=by
 cases g with
 |nil=>
   cases l with
   |nil=>exact .inl ⟨rfl,rfl⟩
   |cons x l=>simp at h
 |cons e g=>
   cases l with
   |nil=>simp at h
   |cons x l=>
     simp only[List.map_cons,List.cons.injEq,Prod.mk.injEq]at h;refine .inr ⟨by simp,?_⟩;unfold Instr.findNow;rw[h.1.1];rfl
def Zhw{w:kV}{k:Nat}(hk:tm w k){g:List MapEntry}{l:List (Nat×Nat)}(h:g.map (λe=>(e.key,e.val))=l.map (λx=>(yk x.1,Value.int .i64 x.2)))(hx:∀x∈l,tm w x.1/\x.1≠k) :
 (Instr.findKey 22 (yk k) g).run Tryz.prog w=.ok none w:=by
 unfold Instr.findKey;simp only[Sem.run_bind,run_underlying underlying22,Result.andThen];rcases Zi9 k g l h with⟨_,m⟩|⟨_,m⟩;·rw[m];rfl
 .rw[m];exact Zq0 w k hk g l 0 h hx
def Zqe{w:kV}{k v:Nat}(hk:tm w k){g:List MapEntry}{l:List (Nat×Nat)}(h:g.map (λe=>(e.key,e.val))=l.map (λx=>(yk x.1,Value.int .i64 x.2)))(hx:∀x∈l,tm w x.1)(hd:(l.map (·.1)).Nodup)(m:(k,v)∈l) :
 ∃j,(Instr.findKey 22 (yk k) g).run Tryz.prog w=.ok (some (j,vI v)) w:=by
 unfold Instr.findKey;simp only[Sem.run_bind,run_underlying underlying22,Result.andThen];rcases Zi9 k g l h with⟨p,o⟩|⟨_,o⟩;·rw[p]at m;cases m
 .rw[o];exact Zp6 w k v hk g l 0 h hx hd m
def Zc9(w:kV)(e:Bool)(k:Nat):(Instr.checkKey e 10000 22 (yk k)).run Tryz.prog w=.ok () w:=by
 show(Instr.checkKey e (9999+1) _ _).run Tryz.prog w=_;unfold Instr.checkKey yk;simp only[Sem.run_bind,run_underlying underlying22,Result.andThen];rfl
def pr.update{w:kV}{b k v:Nat}{l:List (Nat×Nat)}(h:pr w b l)(hk:tm w k)(hx:∀x∈l,tm w x.1/\x.1≠k) :
 ∃w',(Instr.mapUpdate 62 (.map (some b)) (yk k) (vI v)).run Tryz.prog w=.ok () w'/\pr w' b (l++[(k,v)])/\w.grownBy w' (some b):=by
 obtain⟨m,o,hb,he,hst⟩:=h;have u:=Zhw hk he hx;refine⟨setBlock w b (.map (m.push ⟨yk k,vI v,o⟩) (o+1)),?_,⟨_,_,heap_setBlock_same hb _,?_,stamped_push hst λx F=>?_⟩,⟨rfl,rfl,rfl,by simp[setBlock],λi _ hi=>heap_setBlock_other hb _ (λe=>hi (by rw[e]))⟩⟩
 .unfold Instr.mapUpdate;simp[run_underlying underlying62,Go.MapKept.run_getObj_map hb,Zc9,u,Go.MapKept.run_setObj_map _ hb,Result.andThen,setBlock]
 .rw[Array.toList_push,Yl,Yl,he];rfl
 .have p:(x.key,x.val)∈m.toList.map (λe=>(e.key,e.val)):=List.mem_map.2 ⟨x,F,rfl⟩;rw[he]at p;obtain⟨y,G,e⟩:=List.mem_map.1 p;intro g;have I:x.key=yk y.1:=(congrArg Prod.fst e).symm;rw[I]at g;unfold yk at g;simp only[Value.pointer.injEq,Option.some.injEq,Addr.mk.injEq,and_true]at g;exact(hx y G).2 g
def Z6e(w:kV){ah:Array Oper}{g:List Oper}{o:Oper}{a:Act}{Q:Exit->Act->kV->Prop}
 (p:o.guard=none)(m x y:Operand)(eG:o.op=Op.mapUpdate 62 m x y)(b k v:Nat)(l:List (Nat×Nat))
 (hm:a.eval m=.map (some b))(hx:a.eval x=yk k)(hv:a.eval y=(vI v))(h:pr w b l)(hk:tm w k)(hl:∀x∈l,tm w x.1/\x.1≠k)
 (hK:∀w',pr w' b (l++[(k,v)])->w.grownBy w' (some b)->wpList Tryz.prog ah Q g (a.put o.dst undef) w') :
 wpList Tryz.prog ah Q (o::g) a w:=by
 refine wpList_plain p λu Cp=>?_;obtain⟨w',iv,r1,r2⟩:=h.update (v:=v) hk hl;exact Zve
def pr.len{w:kV}{b:Nat}{l:List (Nat×Nat)}(h:pr w b l):∃g m,w.heap[b]?=some (.map g m)/\g.size=l.length:=by
 obtain⟨g,m,hb,he,hst⟩:=h;refine⟨g,m,hb,?_⟩;have:=congrArg List.length he;simpa using this
def Zrc(o:Addr){σ:Type}(Inv:σ->kV->Prop)(g:σ->ATree->Bool×σ)(B:Nat):∀(m:Nat) (a:ATree),a.many<=m->(∀s w,Inv s w->TreeAt w B a)->
 ∀s,(∀x s',Reach g a s x s'->∀w,Inv s' w->kC 49 #[x.ptr,.pointer (some o)] w λe w'=>e=.returned (.bool (g s' x).1)/\Inv (g s' x).2 w')->
 ∀w,Inv s w->kC 14 #[a.ptr,.func (.func 49) #[] #[.pointer (some o)]] w λe w'=>e=.returned (.tuple #[])/\Inv (tU g a s) w':=by
 exact tq6
def lQ(l:List (Nat×Nat))(a:ATree):Bool×List (Nat×Nat):=(true,l++[(a.b,l.length)])
mutual
theorem Z9f:∀(a:ATree) (l:List (Nat×Nat)),(tU lQ a l).map (·.1)=l.map (·.1)++a.subs.map (·.b)
 | .mk b v k t n g,l=>by
   simp only[tU,lQ,if_true,ATree.subs,List.map_cons];rw[Z9r g];simp[ATree.b]
theorem Z9r:∀(g:List ATree) (l:List (Nat×Nat)),(oB lQ g l).map (·.1)=l.map (·.1)++(nc g).map (·.b)
 | [],l=>by simp[oB,nc]
 |a::g,l=>by
   simp only[oB,nc,List.map_append];rw[Z9r g,Z9f a,List.append_assoc]
end
def Zle(l m:List ATree):nc (l++m)=nc l++nc m:=by
 induction l with
 |nil=>rfl
 |cons a l g=>simp only[List.cons_append,nc,g,List.append_assoc]
theorem Zrv(a:ATree):a.subs=a::nc a.kids:=by cases a;rfl
def Zpl{l:List ATree}{i:Nat}{k:ATree}(h:l[i]?=some k):nc l=nc (l.take i)++(k.subs++nc (l.drop (i+1))):=by
 obtain⟨hi,hk⟩:=List.getElem?_eq_some_iff.1 h;have:l=l.take i++(k::l.drop (i+1)):=by
  rw[<-hk,List.getElem_cons_drop,List.take_append_drop]
 rw[show nc l=nc (l.take i++(k::l.drop (i+1)))from congrArg nc this,Zle];rfl
def Zhd{a x:ATree}{s s':List (Nat×Nat)}(h:Reach lQ a s x s'):(s.map (·.1)++a.subs.map (·.b)).Nodup->x.b∉s'.map (·.1):=by
 induction h with
 |self a s=>
   intro hd g;exact(List.nodup_append.1 hd).2.2 _ g _ (List.mem_map.2 ⟨a,Z8f a,rfl⟩) rfl
 | @kid a k x s s' i ok hk h m=>
   intro hd;refine m ?_;rw[Z9r];simp only[lQ,List.map_append,List.map_cons,List.map_nil];refine List.Nodup.sublist ?_ hd;rw[Zrv a,Zpl hk];simp only[List.map_cons,List.map_append,List.append_assoc,List.cons_append,List.nil_append];refine List.Sublist.append (List.Sublist.refl _) (List.Sublist.cons_cons _ (List.Sublist.append (List.Sublist.refl _) (List.sublist_append_left _ _)))
structure NInv(w0:kV)(c mb:Nat)(l:List (Nat×Nat))(w:kV):Prop where
 cell:w.heap[c]?=some (.cells #[.map (some mb)] 62 (0,0))
 map:pr w mb l
 bel:kW w0 w
 le:w0.heap.size<=mb
 has:∀x∈l,tm w0 x.1
def tm.bel{w0 w:kV}{k:Nat}(h:tm w0 k)(g:kW w0 w):tm w k:=by
 obtain⟨c,t,h⟩:=h;exact⟨c,t,(g.block k (Y1.1 h).1).trans h⟩
theorem TreeAt.cellsOf{w:kV}{B:Nat}{a:ATree}(h:TreeAt w B a):tm w a.b:=⟨_,_,h.blkOf⟩
def Zp8(w0:kV)(c mb B:Nat)(J:c≠mb)(x:ATree)(hx:TreeAt w0 B x)(l:List (Nat×Nat))(w:kV)(hI:NInv w0 c mb l w)(hf:x.b∉l.map (·.1)) :
 kC 49 #[x.ptr,vP c] w λe w'=>e=.returned (.bool (lQ l x).1)/\NInv w0 c mb (lQ l x).2 w':=by
 have g:=lh hI;obtain⟨o,dQ,hb,p⟩:=hI.map.len;have ia:∀u,(Builtin.len_ #[62] u #[.map (some mb)]).run Tryz.prog w=.ok (vI o.size) w:=λu=>by
  simp[Builtin.len_,run_underlying underlying62,Go.MapKept.run_getObj_map hb,Result.andThen,goInt]
 have cc:w.cell? ⟨c,0,none⟩=some (.map (some mb)):=by simp[vC,World.cell?,hI.cell]
 obtain⟨O,HL,U,X,Y⟩:=gq (hx.cellsOf.bel hI.bel) (show∀y∈l,tm w y.1/\y.1≠x.b from λy m=>⟨(hI.has y m).bel hI.bel,λe=>hf (List.mem_map.2 ⟨y,m,e⟩)⟩) hx p (Y1.1 hI.cell).1;clear hI hx hf p;unfold ATree.ptr;simp only[lQ];go_enter func49,ntmps49
 go_wp2_with (at_mapUpdate;go_must (refine Z6e _ rfl _ _ _ rfl mb x.b o.size l rfl rfl rfl g.o.map O.o HL.o ?_);intro w1 F G;have Z:=lh F;have I:=lh G;clear F G)
 go_ret;refine⟨rfl,?_,?_,?_,g.o.le,?_⟩;·exact(I.o.block c Y.o (λe=>J (Yc e))).trans g.o.cell
 .rw[<-X.o];exact Z.o
 .exact g.o.bel.grown I.o g.o.bel.size λk hk=>by cases hk;exact g.o.le
 .intro y m;rcases List.mem_append.1 m with h|h;·exact g.o.has y h
  .simp only[List.mem_singleton]at h;rw[h];exact U.o.cellsOf
def Zg6(a:ATree):a.subs.length=a.many:=by
 obtain⟨b,v,k,t,n,g⟩:=a;simp only[ATree.subs,ATree.many,List.length_cons,Z9z]
def Zjn(w:kV)(B:Nat)(a:ATree)(g:TreeAt w B a)(hd:(a.subs.map (·.b)).Nodup) :
 kC 18 #[a.ptr] w λe w'=>∃mb,e=.returned (.map (some mb))/\pr w' mb (tU lQ a [])/\kW w w'/\w.heap.size<=mb:=by
 refine D8 ?_;intro iT;have y:∀w:kV,(Instr.makeMap 62 none).run Tryz.prog w=.ok (.map (some w.heap.size)) (w.alloc (.map #[] 0)):=λw=>run_makeMap _ w
 have m:=lh (λ(w1:kV) (h:NInv w (w.heap.size+1) w.heap.size [] w1)=>Zrc ⟨w.heap.size+1,0,none⟩ (NInv w (w.heap.size+1) w.heap.size) lQ B a.many a (Y0 _) (λs w1 h=>g.keep λk _ hk=>h.bel.block k hk) []
  (λx s hx w1 h=>Zp8 w (w.heap.size+1) w.heap.size B Qe x (Zfp g hx.sub) s w1 h (Zhd hx (by simpa using hd))) w1 h)
 have p:NInv w (w.heap.size+1) w.heap.size [] ((w.alloc (.map #[] 0)).alloc (.cells #[.map (some w.heap.size)] 62)):=by
  refine⟨?_,⟨#[],0,?_,rfl,Go.MapKept.stamped_empty 0⟩,((Y2 _ _).alloc (Y0 _) _).alloc Qm _,Y0 _,λ_ h=>by cases h⟩
  .have:=(Go.MapKept.heap_alloc (w.alloc (.map #[] 0)) (.cells #[.map (some w.heap.size)] 62)).1;simpa using this
  .exact((Go.MapKept.heap_alloc (w.alloc (.map #[] 0)) (.cells #[.map (some w.heap.size)] 62)).2 _ Qm).trans (Go.MapKept.heap_alloc w (.map #[] 0)).1
 have u:=lh p;clear p g hd;unfold ATree.ptr at m ⊢;go_enter func18,ntmps18
 go_wp2_with fail
 refine(m.o _ u.o).mono ?_;rintro e w1⟨rfl,hI⟩;have F:w1.cell? ⟨w.heap.size+1,0,none⟩=some (.map (some w.heap.size)):=by simp[vC,World.cell?,hI.cell]
 have o:=lh hI;clear hI u m;go_wp2;go_ret;exact⟨_,rfl,o.o.map,o.o.bel,o.o.le⟩
structure RS where
 ts:List Tok
 f:Option (Int×Nat)
abbrev RR:=Option (Tree×RS)
def Xo(s:kB):Int:=if Zh s Ez then 25 else if Zh s VG then 26 else if Zh s V3 then 27 else if Zh s Ws then 28 else if Zh s Vi then 29 else if Zh s VM then 30 else if Zh s WN then 31 else 0
def Zlo(s:kB):Int:=if Zh s Tj then 19 else if Zh s TY then 20 else if Zh s Um then 21 else if Zh s UI then 22 else 0
def Zzt(t:Tok):Prop:=(t.kind=2->Xo t.text=0)/\(t.kind=5->Zlo t.text=0)
def Acj(ts:List Tok):Prop:=∀t∈ts,Zzt t
structure QC where
 rb:Nat
 tb:Nat
 off:Nat
 cap:Nat
 L:List Tok
section
variable {w w':kV}{C:QC}{i:Nat}{f:Option (Int×Nat)}{σ:RS}
end
section
variable {w0 w w' w1 w2 wA:kV}{B rb:Nat}{v:Value}{kids:List ATree}{ts:List Tree}{a:ATree}{t:Tree}{k n:Int}{tx:kB}{b:Nat}
end
def Zeo{P:Nat->Prop}(h:∃g,P g):∃m,P m/\∀k,P k->m<=k:=by
 obtain⟨g,o⟩:=h;induction g using Nat.strongRecOn with
 |ind g p=>
   by_cases h:∃k,k<g/\P k
   .obtain⟨k,hk,hp⟩:=h;exact p k hk hp
   .exact⟨g,o,λk hk=>Nat.le_of_not_lt λhl=>h ⟨k,hl,hk⟩⟩
open Classical in
noncomputable def least(P:Nat->Prop):Nat:=if h:∃g,P g then Classical.choose (Zeo h)else 0
def Zk6:∀{f d:Nat} {k:Int} {g:List Tree} {us ts:List Tok} {t:Tree},Z0 f (.stmts k g) d us=some (.ok (t,ts))->∃tx l,t=.mk k tx 0 l:=by
 intro f;induction f with
 |zero=>intro d k g us ts t h;cases h
 |succ f m=>
   intro d k g us ts t h;rw[Z0]at h;generalize(if k=1 then decide ((al us).kind=6)else ad Zr us)=c at h;cases c
   .obtain⟨x,vs,_,h⟩:=O9 h;exact m h
   .obtain⟨rfl,_⟩:=Ug h;exact⟨_,_,rfl⟩
def Zk0(f:Nat)(body:Bool)(hS:ay 13 (λrb=>#[vP rb,vI 6,.string Zr]) (.stmts 6 []) f) :
 ay 73 (λrb=>#[vP rb,.bool body]) (.block body) (f+1):=by
 intro w rb B d ts r m hp;have hw:iE Ay ts (λts=>Zn (Z0 f (.stmts 6 []) d ts) λx ts=>iE Zr ts λts=>fH (if body then x else .mk 6 ByteArray.empty 0 x.kids) ts)=some r:=hp;have o:=lh m;simp only;rcases Un hw with⟨hs,h1⟩|⟨hs,rfl⟩
 .have HC:=lh (MN w rb ts d Ay m.rd hs);have H1:=lh h1;clear m hp hw hs h1;go_enter func73,ntmps73
  go_wp2_with fail
  refine HC.o.mono ?_;rintro e w1⟨rfl,dB,O⟩;have U:=lh (o.o.tail dB O);have F1:=lh O;clear dB O HC;rcases Zg H1.o with⟨⟨c,p⟩,hv,rfl⟩|⟨t,u,hv,h2⟩
  .have HV:=hS w1 rb B d _ _ U.o hv;simp only at HV;unfold Zr at HV;have HV:=lh HV;exact Zyo
  .have HV:=hS w1 rb B d _ _ U.o hv;simp only at HV;unfold Zr at HV;have HV:=lh HV;have hl:=T6 hv;obtain⟨tx,l,rfl⟩:=Zk6 hv;have H2:=lh h2;clear hv h2;go_wp2_with fail
   refine HV.o.mono ?_;rintro e w2⟨a,rfl,X,Y,Z⟩;obtain⟨b,v,k,Mi,n,kids⟩:=a;have mg:=X.tree;simp only[ATree.tree,Tree.mk.injEq]at mg;obtain⟨rfl,rfl,rfl,rfl⟩:=mg;have y:=X.pre F1.o;have F2:=F1.o.trans Z;have ac:=y.at'.blkOf;simp only[ATree.b,ATree.v,ATree.kind,ATree.text,ATree.n]at ac ⊢;have c1:w2.cell? ⟨b,1,none⟩=some (.string Mi):=Qk
   have z1:w2.frozen? ⟨b,1,none⟩=false:=QN
   have g:=U.o.next Y Z hl;have I:=lh (Got.text (t':=ByteArray.empty) o.o.lt o.o.le y F2 Y);have J:Pre (w2.setCell ⟨b,1,none⟩ (.string ByteArray.empty)) rb B d u:=⟨I.o.2.2,g.deep,g.lt,by rw[Yf];exact g.le,g.few⟩
   obtain⟨g,J,F2,y⟩:=gp g J F2 y;clear X Y Z HV hl ac;rcases Un H2.o with⟨hs,F⟩|⟨hs,rfl⟩
   .have F:=Yc F;have HR:=lh F.symm;cases body
    .have HC:=MN _ rb u d Zr J.o.rd hs;unfold Zr at HC;have HC:=lh HC;clear hs F;go_wp2_with fail
     refine Zqo ?_;intro w3 bI bh R3 F3;clear bI bh;go_wp2;go_ret;rw[HR.o];exact⟨_,rfl,I.o.1.rfr o.o.lt F3.o,R3.o,I.o.2.1.trans F3.o⟩
    .have HC:=MN _ rb u d Zr g.o.rd hs;unfold Zr at HC;have HC:=lh HC;clear hs F;go_wp2_with fail
     refine Zqo ?_;intro w3 bI bh R3 F3;clear bI bh;go_wp2;go_ret;rw[HR.o];exact⟨_,rfl,y.o.rfr o.o.lt F3.o,R3.o,F2.o.trans F3.o⟩
   .cases body
    .have HC:=Tz _ rb u d Zr J.o.rd hs;unfold Zr at HC;have HC:=lh HC;clear hs;go_wp2_with fail
     refine HC.o.mono ?_;rintro e w3⟨⟨b,rfl,h1,h2⟩,hB⟩;exact⟨rfl,mA.err I.o.2.1 ⟨b,rfl,h1,h2⟩ hB⟩
    .have HC:=Tz _ rb u d Zr g.o.rd hs;unfold Zr at HC;have HC:=lh HC;exact Aae
 .have HC:=lh (Tz w rb ts d Ay m.rd hs);clear m hp hw hs;go_enter func73,ntmps73
  exact V4
def Zlg(f:Nat)(kind:Int)(y:Bool)(hV:ay 80 bO .value f) :
 ay 76 (λrb=>#[vP rb,vI kind,.bool y]) (.decl kind y) (f+1):=by
 intro w rb B d ts r F hp;have hw:tK ts (λs ts=>if y&& !ad kv ts then r' 3 ts else if ad kv ts then Zn (Z0 f .value d ts.tail) λx ts=>fH (.mk kind s 0 [x]) ts else fH (.mk kind s 0 []) ts)=some r:=hp;have HP:=lh F;simp only;rcases XO hw with⟨hk,h1⟩|⟨hk,rfl⟩
 .have HC:=lh (Vr w rb ts d F.rd hk);obtain⟨s,hs⟩:=zX ((al ts).text)
  rw[<-hs]at HC h1;have I:=lh h1;clear F hp hw hk h1 hs;go_enter func76,ntmps76
  go_wp2_with fail
  refine HC.o.mono ?_;rintro e w1⟨rfl,dB,U⟩;have P1:=HP.o.tail dB U;have X:=lh (wj w1 rb kind s none 0 0);have Y:kW w1 (w1.alloc (.cells #[vI kind,.string s,vI 0,.slice none 0 0] 28)):=(Y2 _ _).alloc (Y0 _) _;obtain⟨nb,Z⟩:=zX w1.heap.size
  have u:=Got.leaf (k:=kind) (t:=s) (n:=0) HP.o.le U;have m:=P1.below Y;have F2:=U.trans (RFr.below (rb:=rb) Y);rw[<-Z]at u X;go_wp2_with fail
  refine X.o.mono ?_;rintro e w2⟨rfl,cj⟩;rw[<-cj]at u m F2;obtain⟨tt,u,m,F2⟩:=gp Z u m F2;clear dB U HC P1 X Y Z cj;obtain⟨us,ic⟩:=zX ts.tail
  rw[<-ic]at m I;have O6:=lh ic;clear ic;by_cases he:ad kv us=true
  .have h1:=I.o;rw[Y3 (by rw[he];simp),Y5 he]at h1;have g:=SK w2 rb us d kv m.o.rd;rw[he]at g;unfold kv at g;have g:=lh g;have HE:=lh he;have H2:=lh h1;clear h1 he;have J:∀w3,kW w2 w3->Hid (Pre w3 rb B d us/\Got w B w3 (.mk nb (.slice none 0 0) kind s 0 []) (.mk kind s 0 [])/\RFr w w3 rb):=λw3 hB=>lh ⟨m.o.below hB,u.o.rfr HP.o.lt (RFr.below (rb:=rb) hB),F2.o.trans (RFr.below hB)⟩;have EB:=lh J;clear J;cases y
   .obtain⟨PX,GX,FX⟩:=ds m.o u.o F2.o;clear EB g;have HX:=HP.o.lt;have aA:=HP.o.lt;have HT:=xi w2 rb us d kv PX.o.rd HE.o;exact tq7
   .go_wp2_with fail
    refine g.o.mono ?_;rintro e wq⟨rfl,IM⟩;have hk:=EB.o wq IM;obtain⟨PX,GX,FX⟩:=ds hk.o.1 hk.o.2.1 hk.o.2.2;clear EB g IM hk m u F2;have HX:=HP.o.lt;have aA:=HP.o.lt;have HT:=xi wq rb us d kv PX.o.rd HE.o;exact tq7
  .have O:ad kv us=false:=by simpa using he
   have h1:=I.o;cases y
   .rw[Y3 Qm,Y3 he]at h1;obtain rfl:=Yc h1;have HT:=yn w2 rb us d kv m.o.rd O;unfold kv at HT;have HT:=lh HT;clear h1 he O I;go_wp2_with fail
    refine HT.o.mono ?_;rintro e w3⟨rfl,hB3⟩;have R3:=lh (m.o.rd.below hB3);have G3:=lh (u.o.rfr HP.o.lt (RFr.below (rb:=rb) hB3));refine Zj0 ?_;intro F3;clear hB3;go_wp2;go_ret;exact⟨_,rfl,G3.o,R3.o,F3.o⟩
   .rw[Y5 (by rw[O];rfl)]at h1;obtain rfl:=Yc h1;have g:=SK w2 rb us d kv m.o.rd;rw[O]at g;unfold kv at g;have g:=lh g;clear h1 he O I;go_wp2_with fail
    refine g.o.mono ?_;rintro e w3⟨rfl,hB3⟩;have HF:=lh (UF w3 rb us d 3 (m.o.rd.below hB3));refine Zj0 ?_;intro F3;clear hB3;go_wp2_with fail
    refine HF.o.mono ?_;rintro e w4⟨⟨b,rfl,h1,h2⟩,hB⟩;exact⟨rfl,mA.err F3.o ⟨b,rfl,h1,h2⟩ hB⟩
 .have HC:=lh (WU w rb ts d F.rd hk);clear F hp hw hk;go_enter func76,ntmps76
  exact V4
def Zhf(f:Nat)(IN:ay 129 (λrb=>#[vP rb,vI 0]) (.bin 0) f)(hV:ay 80 bO .value f) :
 ay 108 bO .assign (f+1):=by
 intro w rb B d ts r hP hp;have hw:Zn (Z0 f (.bin 0) d ts) (λx ts'=>if ad kv ts' then(if x.kind=23\/x.kind=36 then Zn (Z0 f .value d ts'.tail) λy ts=>fH (.mk 24 ByteArray.empty 0 [x,y]) ts else some (.error (1,(al ts).at')))else fH x ts')=some r:=hp;have I:=lh hP;obtain⟨tb,off,cap,h⟩:=hP.rd;have c0:=h.c0;have t3:=h.hd (j:=3) rfl;have fO:=h.pos;refine Zp3 ?_;intro hm dt n hn;rw[<-hn]at c0 fO dt;have H1:=lh hw;unfold bO;obtain⟨pl,lJ⟩:=zX ((al ts).at')
 rw[<-lJ]at t3;have mS:=lh lJ;clear hP hp hw h hn lJ;have O:=I.o.lt;rcases Zg H1.o with⟨⟨c,p⟩,g,rfl⟩|⟨t,us,g,h2⟩
 .have u:=lh (IN w rb B d _ _ I.o g);clear g;go_enter func108,ntmps108
  go_wp2_with fail
  refine u.o.mono ?_;exact TP
 .have u:=lh (IN w rb B d _ _ I.o g);have hl:=T6 g;have H2:=lh h2;clear g h2;go_enter func108,ntmps108
  go_wp2_with fail
  refine u.o.mono ?_;rintro e w2⟨a,rfl,U,an,ap⟩;have ac:=U.at'.blkOf;have d0:w2.cell? ⟨a.b,0,none⟩=some (vI a.kind):=Qk
  have IO:a.kind=t.kind:=by rw[<-U.tree];cases a;rfl
  obtain⟨EC,X,G2,F2⟩:=gp IO (I.o.next an ap hl) U ap;obtain⟨ab,bT⟩:=zX a.b
  obtain⟨Y,ED⟩:=zX a.kind
  have cR:=G2.o.at'.lt;rw[<-bT]at d0 cR ⊢;rw[<-ED]at d0;have sx:=lh bT;have EE:=lh ED;clear an ap U u hl ac IO bT ED c0 t3;by_cases he:ad kv us=true
  .have o:=H2.o;rw[Y5 he]at o;have m:=SK w2 rb us d kv X.o.rd;rw[he]at m;unfold kv at m;have m:=lh m;have HE:=lh he;clear he;go_wp2_with fail
   refine m.o.mono ?_;rintro e w3⟨rfl,hB3⟩;have P3:=lh (X.o.below hB3);have G3:=lh (G2.o.rfr O (RFr.below (rb:=rb) hB3));refine Zj0 ?_;intro F3;have Mj:=(hB3.cell (p:=⟨ab,0,none⟩) cR).trans d0;clear hB3 m;by_cases hk:t.kind=23\/t.kind=36
   .rw[Y5 hk]at o;have H3:=lh o;clear o;have Z:=xi w3 rb us d kv P3.o.rd HE.o;unfold kv at Z;have Z:=lh Z;have EF:Y=23\/Y=36:=by rw[EE.o,EC.o];exact hk
    clear hk;rcases EF with rfl|rfl
    all_goals
     go_wp2_with fail
     refine Z.o.mono ?_;rintro e w5⟨rfl,mB,J⟩;have P5:=P3.o.tail mB J;have G5:=lh (G3.o.rfr O J);have F5:=lh (F3.o.trans J);rcases Zg H3.o with⟨⟨c,p⟩,g,rfl⟩|⟨y,vs,g,h4⟩
     .have u:=lh (hV w5 rb B d _ _ P5 g);clear g mB J;go_wp2_with fail
      refine u.o.mono ?_;rintro e F⟨⟨b,rfl,h1,h2⟩,hF⟩;exact⟨rfl,mA.pre F5.o (r:=.error (c,p)) ⟨⟨b,rfl,h1,h2⟩,hF⟩⟩
     .obtain rfl:=Yc h4;have u:=lh (hV w5 rb B d _ _ P5 g);clear g mB J h4;go_wp2_with fail
      refine u.o.mono ?_;rintro e F⟨c,rfl,hC,jH,fF⟩;have G6:=G5.o.rfr O fF;have ct:=lh (Got.two (k:=24) (t:=⟨#[]⟩) I.o.le (F5.o.trans fF) G6 (wA:=w5) (λx hx=>(G5.o.new x hx).2) F5.o.size hC);have ai:kW F (F.alloc (.cells #[vP ab,vP c.b] 22)):=(Y2 _ _).alloc (Y0 _) _
      have aw:kW F ((F.alloc (.cells #[vP ab,vP c.b] 22)).alloc (.cells #[vI 24,.string ⟨#[]⟩,vI 0,.slice (some ⟨F.heap.size,0,none⟩) 2 2] 28)):=ai.alloc Qm _;have R6:=lh (jH.below aw);have F6:=lh ((F5.o.trans fF).trans (RFr.below (rb:=rb) aw));clear hC jH fF G6 u ai aw;go_wp2_with fail
      refine(wj _ rb 24 ⟨#[]⟩ _ 2 2).mono ?_;rintro e w7⟨rfl,rfl⟩;go_wp2;go_ret;refine⟨.mk (F.heap.size+1) (.slice (some ⟨F.heap.size,0,none⟩) 2 2) 24 ⟨#[]⟩ 0 [a,c],rfl,?_,R6.o,F6.o⟩;rw[sx.o];exact ct.o
   .rw[Y3 hk]at o;obtain rfl:=Yc o;have CD:(Y !=23)=true:=by rw[EE.o,EC.o];simp;omega
    have O7:(Y !=36)=true:=by rw[EE.o,EC.o];simp;omega
    clear o hk;go_wp2;refine⟨rfl,?_⟩;rw[<-mS.o];exact mA.err F3.o (Zc2 (Y0 _)) ((Y2 _ _).alloc (Y0 _) _)
  .have qf:ad kv us=false:=by simpa using he
   have o:=H2.o;rw[Y3 he]at o;obtain rfl:=Yc o;have m:=SK w2 rb us d kv X.o.rd;rw[qf]at m;unfold kv at m;have m:=lh m;clear o he qf;go_wp2_with fail
   refine m.o.mono ?_;rintro e w3⟨rfl,hB3⟩;have R3:=lh (X.o.rd.below hB3);have G3:=lh (G2.o.rfr O (RFr.below (rb:=rb) hB3));refine Zj0 ?_;intro F3;clear hB3;go_wp2;go_ret;rw[sx.o];exact⟨a,rfl,G3.o,R3.o,F3.o⟩
def Zdh(w0 w:kV)(rb B d:Nat)(ts:List Tok)(a:ATree)(t:Tree)(r:Except (Int×Nat) (Tree×List Tok))(g:Pre w rb B d ts)(o:Got w0 B w a t)(p:RFr w0 w rb)(hr:po t ts=some r) :
 kC 75 #[vP rb,vP a.b] w (mA w0 rb B d r):=by
 obtain⟨y,F,u⟩:=ds g o p;rcases Un hr with⟨hs,m⟩|⟨hs,rfl⟩
 .obtain rfl:=Yc m;have HC:=lh (MN w rb ts d Dz g.rd hs);clear g o p hr hs m;go_enter func75,ntmps75
  go_wp2_with fail
  refine Zqo ?_;intro w3 bI bh R3 F3;clear bI bh HC;go_wp2;go_ret;exact⟨a,rfl,F.o.rfr y.o.lt F3.o,R3.o,u.o.trans F3.o⟩
 .have HC:=lh (Tz w rb ts d Dz g.rd hs);clear g o p hr hs;go_enter func75,ntmps75
  go_wp2_with fail
  refine HC.o.mono ?_;rintro e w3⟨⟨b,rfl,m,I⟩,J⟩;exact⟨rfl,mA.err u.o ⟨b,rfl,m,I⟩ J⟩
