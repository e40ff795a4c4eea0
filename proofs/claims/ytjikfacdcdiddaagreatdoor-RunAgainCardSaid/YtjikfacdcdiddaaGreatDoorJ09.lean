/- Package hoist: inner, Vars; tree.Strict. -/
import Derived.Test.YtjikfacdcdiddaaGreatDoorJ08
import Derived.Lib.OwnKind
import Derived.LaidEql
set_option linter.unusedSimpArgs false
set_option maxRecDepth 100000
set_option maxHeartbeats 20000000
set_option linter.unusedVariables false
namespace Go.Proofs.YtjikfacdcdiddaaGreatDoor
open Go Go.RowKit
def TP(a:ATree):Bool:=a.kind==5||a.kind==37
theorem TreeAt.c0{w:World}{B:Nat}{a:ATree}(h:TreeAt w B a):vC w a.b 0 (vI a.kind):=by simp[vC,World.cell?,h.blkOf]
theorem TreeAt.c1{w:World}{B:Nat}{a:ATree}(h:TreeAt w B a):vC w a.b 1 (.string a.text):=by simp[vC,World.cell?,h.blkOf]
theorem TreeAt.c3{w:World}{B:Nat}{a:ATree}(h:TreeAt w B a):w.cell? ⟨a.b,3,none⟩=some a.v:=by simp[vC,World.cell?,h.blkOf]
theorem TreeAt.vOf{w:World}{B:Nat}{a:ATree}(h:TreeAt w B a):∃p g,a.v=.slice p a.kids.length g∧a.kids.length<=g∧g<=maxLen:=by
 rcases Z4 h.rowOf with⟨m,o⟩|⟨y,E,m,o,u,_⟩;·exact⟨none,0,by rw[m,o],by omega,by unfold maxLen;omega⟩
 .exact⟨_,_,m,o,u⟩
theorem Zcz(w:World)(B:Nat)(a:ATree)(o:TreeAt w B a) :
 Calls Tryz.prog 38 #[a.ptr] w λe w'=>e=.returned (.bool (TP a))∧w'=w:=by
 have c0:=o.c0;unfold TP ATree.ptr;obtain⟨g,p⟩:=zX a.kind
 rw[<-p]at c0 ⊢;clear p o;rcases(by omega:g=5∨g=37∨(g≠5∧g≠37))with m|m|⟨m,h4⟩
 .subst m;go_enter Tryz.func38,Tryz.ntmps38
  go_wp2;go_ret;exact⟨rfl,rfl⟩
 .subst m;go_enter Tryz.func38,Tryz.ntmps38
  go_wp2;go_ret;exact⟨rfl,rfl⟩
 .have u:(g==5)=false:=by simpa using m
  have y:(g==37)=false:=QJ
  clear m h4;rw[u,y];go_enter Tryz.func38,Tryz.ntmps38
  go_wp2;go_ret;exact⟨rfl,rfl⟩
theorem Zy.slice{w:World}{B:Nat}{v:Value}{l:List ByteArray}(h:Zy w B v l):∃p n c,v=.slice p n c:=by
 rcases h.form with⟨h,_⟩|⟨g,cap,h,_⟩;·exact⟨_,_,_,h⟩
 .exact⟨_,_,_,h⟩
def CL(l:List ByteArray)(a:ATree):Bool×List ByteArray:=(!TP a,if a.kind==2 then jn l a.text else l)
theorem Zdq:∀(l T:List ByteArray),l.Nodup->(∀x∈l,x∈T)->l.length<=T.length:=by
 intro l;induction l with
 |nil=>intro T _ _;simp
 | cons a l m =>
   intro T hd hs;obtain⟨o,u⟩:=List.nodup_cons.1 hd;have g:=hs a Pg;have:=m (T.eraseP (λx=>decide (x=a))) u (λx hx=>(List.mem_eraseP_of_neg (by simp only[decide_eq_true_eq];exact λe=>o (by rw[<-e];exact hx))).2 (hs x (List.mem_cons_of_mem _ hx)));have y:=List.length_eraseP_of_mem (p:=λx=>decide (x=a)) g Pg;have E:=List.length_pos_of_mem g;simp only[List.length_cons];omega
theorem Zj6{l:List ByteArray}{s:ByteArray}(h:l.Nodup):(jn l s).Nodup:=by
 unfold jn;by_cases hc:Lib.containsS l s=true;·rw[Y5 hc];exact h
 .rw[Y3 hc];rw[Lib.containsS_iff]at hc;rw[List.nodup_append];exact⟨h,by simp,λa g b hb e=>hc (by simp at hb;rw[<-hb,<-e];exact g)⟩
theorem Zmo{l:List ByteArray}{s x:ByteArray}(h:x∈jn l s):x∈l∨x=s:=by
 unfold jn at h;split at h;·exact .inl h
 .simpa using h
structure VInv(w0:World)(c:Nat)(T:List ByteArray)(l:List ByteArray)(w:World):Prop where
 cell:∃v,w.heap[c]?=some (.cells #[v] 26 (0,0))∧Zy w (c+1) v l
 bel:Below c w0 w
 nd:l.Nodup
 sub:∀s∈l,s∈T
section
variable {w0 w:World}{c B:Nat}{T l:List ByteArray}{a:ATree}
theorem VInv.lt(h:VInv w0 c T l w):c<w.heap.size:=by obtain⟨v,hb,_⟩:=h.cell;exact(Y1.1 hb).1
theorem VInv.tree(h:VInv w0 c T l w)(g:TreeAt w0 B a)(hc:w0.heap.size<=c):TreeAt w B a:=g.keep λk _ hk=>h.bel.block k O'
theorem VInv.drew(h:VInv w0 c T l w):VInv w0 c T l w.drew:=⟨h.cell,h.bel.drew,h.nd,h.sub⟩
theorem VInv.add{w1:World}{g:Value}{s:ByteArray}(h:VInv w0 c T l w)(hs:s∈T)(m:Below (c+1) w w1)(ht:Zy w1 (c+1) g (jn l s)):VInv w0 c T (jn l s) (w1.setCell ⟨c,0,none⟩ g):=by
 obtain⟨v,hb,_⟩:=h.cell;have u:w1.heap[c]?=some (.cells #[v] 26 (0,0)):=(m.block c O').trans hb;refine⟨⟨g,Zh (o:=0) g u,?_⟩,?_,Zj6 h.nd,λx hx=>(Zmo hx).elim (h.sub x) (λe=>by rw[e];exact hs)⟩;·exact Z2 ht λk hk=>Y8 _ _ _ _ (by have:=(Y9 ht k hk).1;simp only;omega)
 .exact(h.bel.trans (m.mono O')).setCell (p:=⟨c,0,none⟩) (Y0 _) _
end
theorem Zlv(w0:World)(c B:Nat)(T:List ByteArray)(O:T.length<1099511627776)(hc:w0.heap.size<=c)(x:ATree)(hx:TreeAt w0 B x)(U:x.text∈T)(l:List ByteArray)(w:World)(hI:VInv w0 c T l w) :
 Calls Tryz.prog 36 #[x.ptr,vP c] w λe w'=>e=.returned (.bool (CL l x).1)∧VInv w0 c T (CL l x).2 w':=by
 have y:=hI.tree hx hc;have c0:=y.c0;have c1:=y.c1;have X:=lh hx;have E:=lh hI;have Y:=lh hc;have be:=hI.lt;obtain⟨v,hb,m⟩:=hI.cell;have Z:vC w c 0 v:=by simp[vC,World.cell?,hb]
 have cz:w.frozen? ⟨c,0,none⟩=false:=by simp[World.frozen?,hb]
 have eY:=lh m;have aH:=Nat.lt_of_le_of_lt (Zdq l T hI.nd hI.sub) O;have HL:=lh aH;have Hw:=lh U;clear y hx hI hc hb m aH U O;unfold CL ATree.ptr;obtain⟨tx,m⟩:=zX x.text
 rw[<-m]at c1 Hw ⊢;clear m;obtain⟨F,bG⟩:=zX x.kind
 rw[<-bG]at c0 ⊢;clear bG;rcases(by omega:F=2∨F≠2)with p|p
 .subst p;go_enter Tryz.func36,Tryz.ntmps36
  go_wp2_with fail
  refine Z8 [0,2,4,6,8] [5,6] (λW=>vC W c 0 v∧vC W x.b 1 (.string tx)) ⟨Z,c1⟩ λ_=>?_;refine dW ?_
  iterate 5
   refine dV ?_
  refine Z0 ?_;have HA:=(Zs0 w.drew (c+1) v l tx eY.o be HL.o)
  go_wp2_with fail
  refine HA.mono ?_;rintro e w1⟨v1,rfl,I,u⟩;obtain⟨vp,vn,vc,rfl⟩:=I.slice;have J:=E.o.drew.add Hw.o u I;have H1:=lh J;have DZ:w1.frozen? ⟨c,0,none⟩=false:=(Yn (u.block c O')).trans cz;have iF:∃v,vC w1 c 0 v:=⟨v,(Yb (u.block c O')).trans Z⟩
  obtain⟨v2,iF⟩:=iF;have g:=Zcz _ B x (J.tree X.o Y.o);unfold ATree.ptr at g;have g:=lh g;clear J HA u I;go_wp2_with fail
  refine g.o.mono ?_;rintro e w3⟨rfl,rfl⟩;go_wp2;go_ret;exact⟨rfl,H1.o⟩
 .have n2:(F==2)=false:=by simpa using p
  rw[n2];clear p;have g:=Zcz w B x (E.o.tree X.o Y.o);unfold ATree.ptr at g;have g:=lh g;go_enter Tryz.func36,Tryz.ntmps36
  go_wp2_with fail
  refine g.o.mono ?_;rintro e w3⟨rfl,rfl⟩;go_wp2;go_ret;exact⟨rfl,E.o⟩
theorem Zpq(o:Addr){σ:Type}(Inv:σ->World->Prop)(g:σ->ATree->Bool×σ)(B:Nat):∀(m:Nat) (a:ATree),a.many<=m->(∀s w,Inv s w->TreeAt w B a)->
 ∀s,(∀x s',Reach g a s x s'->∀w,Inv s' w->Calls Tryz.prog 36 #[x.ptr,.pointer (some o)] w λe w'=>e=.returned (.bool (g s' x).1)∧Inv (g s' x).2 w')->
 ∀w,Inv s w->Calls Tryz.prog 28 #[a.ptr,.func (.func 36) #[] #[.pointer (some o)]] w λe w'=>e=.returned (.tuple #[])∧Inv (uR g a s) w':=by
 exact tq6
def yw(a:ATree):List ByteArray:=rf CL a.kids []
theorem Zy.base{w:World}{B m:Nat}{v:Value}{l:List ByteArray}(h:Zy w B v l)(y:m<=B):Zy w m v l:=by
 refine⟨h.1,?_⟩;rcases h.2 with hn|⟨g,cap,o,p,E,u⟩;·exact .inl hn
 .exact .inr ⟨g,cap,o,p,by omega,u⟩
theorem Zdf(l:List ATree):(ox l).length=xQ l:=by
 have g:∀ n,∀ l:List ATree,xQ l≤n→(ox l).length=xQ l:=by
  intro n;induction n with
  | zero =>
    intro l hl;cases l with
    |nil=>rfl
    |cons a l=>exfalso;obtain⟨b,v,k,t,m,ks⟩:=a;simp only[xQ,ATree.many]at hl;omega
  | succ n o =>
    intro l hl;cases l with
    |nil=>rfl
    | cons a l =>
      obtain⟨b,v,k,t,m,ks⟩:=a;simp only[xQ,ATree.many]at hl ⊢;have p:=o ks O';have u:=o l O';simp only[ox,ATree.subs,List.length_append,List.length_cons,p,u]
 exact g _ l (Y0 _)
theorem YX(a:ATree):a.kids.length<=a.many:=by
 have g:∀l:List ATree,l.length<=xQ l:=by
  intro l;induction l with
  |nil=>simp[xQ]
  |cons x l o=>obtain⟨b,v,k,t,m,ks⟩:=x;simp only[List.length_cons,xQ,ATree.many];omega
 obtain⟨b,v,k,t,m,ks⟩:=a;have:=g ks;simp only[ATree.kids,ATree.many];omega
theorem Zea {w:World} {B:Nat}:∀ {a x:ATree},TreeAt w B a→x∈a.subs→TreeAt w B x:=by
 have o:∀ n,∀ a x:ATree,a.many≤n→TreeAt w B a→x∈a.subs→TreeAt w B x:=by
  intro n;induction n with
  |zero=>intro a x h;exfalso;obtain⟨b,v,k,t,m,ks⟩:=a;simp only[ATree.many]at h;omega
  | succ n u =>
    intro a x hn g hx;obtain⟨b,v,k,t,m,ks⟩:=a;simp only[ATree.subs,List.mem_cons]at hx;rcases hx with rfl|hx;·exact g
    .have:∀l:List ATree,(∀y∈l,y∈ks)->x∈ox l->TreeAt w B x:=by
      intro l;induction l with
      |nil=>intro _ h;simp[ox]at h
      | cons y l E =>
        intro hl h;simp only[ox,List.mem_append]at h;rcases h with h|h
        .have p:y∈(ATree.mk b v k t m ks).kids:=hl y Pg;exact u y x (by have:=WQ p;omega) (g.kid p) h
        .exact E (λz F=>hl z (List.mem_cons_of_mem _ F)) h
     exact this ks (λy h=>h) hx
 intro a x g hx;exact o _ a x (Y0 _) g hx
def Ti(a:ATree):List ByteArray:=(ox a.kids).map ATree.text
theorem Zg3{a k x:ATree}(h:k∈a.kids)(hx:x∈k.subs):x.text∈Ti a:=by
 unfold Ti;refine List.mem_map_of_mem ?_;have g:∀l:List ATree,k∈l->x∈ox l:=by
  exact Zts
 exact g _ h
theorem Zvv(w:World)(B:Nat)(a k:ATree)(g:TreeAt w B a)(o:a.many<1099511627776)(hk:k∈a.kids)(l:List ByteArray)(w1:World)(hI:VInv w w.heap.size (Ti a) l w1) :
 Calls Tryz.prog 28 #[k.ptr,.func (.func 36) #[] #[vP w.heap.size]] w1 λe w'=>e=.returned (.tuple #[])∧VInv w w.heap.size (Ti a) (uR CL k l) w':=
 Zpq ⟨w.heap.size,0,none⟩ (VInv w w.heap.size (Ti a)) CL B k.many k (Y0 _) (λs w1 h=>h.tree (g.kid hk) (Y0 _))
  l (λx s hx w1 h=>Zlv w w.heap.size B (Ti a) (by unfold Ti;rw[Ym,Zdf];obtain⟨b,v,p,t,m,ks⟩:=a;simp only[ATree.many]at o;simp only[ATree.kids];omega) (Y0 _) x (Zea (g.kid hk) hx.sub) (Zg3 hk hx.sub) s w1 h) w1 hI
theorem Xv(w:World)(B:Nat)(a:ATree)(o:TreeAt w B a)(y:a.many<1099511627776) :
 Calls Tryz.prog 17 #[a.ptr] w λe w'=>∃v,e=.returned v∧Zy w' w.heap.size v (yw a)∧Below w.heap.size w w'∧(yw a).length<=a.many:=by
 have HW:=lh (Zvv w B a · o y);refine Dz ?_;intro iV;have ac:=o.blkOf;obtain⟨p,J,E,cr,eu⟩:=o.vOf;have c3:vC w a.b 3 (.slice p a.kids.length J):=by rw[<-E];exact o.c3
 have aH:a.kids.length<=9223372036854775807:=by unfold maxLen at eu;omega
 have bY:=o.lt;have rn:(w.alloc (.cells #[.slice none 0 0] 26)).cell? ⟨a.b,3,none⟩=some (.slice p a.kids.length J):=(Zb bY).trans c3;have HT:=lh o;have HV:=lh E;have HM:=lh y;unfold ATree.ptr;obtain⟨n,F⟩:=zX a.kids.length
 rw[<-F]at c3 aH cr rn;have HN:=lh F;have O:VInv w w.heap.size (Ti a) [] (w.alloc (.cells #[.slice none 0 0] 26)):=
  ⟨⟨_,by rw[World.alloc];simp,Zy.nil _ _⟩,(Y2 _ _).alloc (Y0 _) _,List.nodup_nil,λ_ h=>by cases h⟩
 have HS:=lh O;clear ac E F o O y;go_enter Tryz.func17,Tryz.ntmps17
 go_wp2_with fail
 go_loopw [13] (λi wr=>∃(k:Nat),k<=n∧i=(vI k)∧Hid (VInv w w.heap.size (Ti a) (rf CL (a.kids.take k) []) wr)) (λi _=>n-(intOf i).toNat)
 case atStart=>exact⟨0,Yh _,rfl,lh (by simpa[rf]using HS.o)⟩
 case round=>
  obtain⟨k,hk,rfl,u⟩:=hrel;by_cases bV:k<n
  .obtain⟨x,hx⟩:∃x,a.kids[k]? =some x:=⟨_,Y6 Pu⟩
   have U:=u.o.tree HT.o (Y0 _);have ae:=U.rowOf;rcases Z4 ae with⟨_,h2⟩|⟨g0,gf,fG,_⟩;·rw[<-HN.o]at h2;omega
   have hp:p=some ⟨g0,0,none⟩:=by
    exact S6
   subst hp;refine NP ?_;intro cx;have I:=HW.o x (Yd hx) _ _ u.o;unfold ATree.ptr at cx I;have X:=lh I;have HX:=lh hx;clear U ae fG hx I;go_wp2_with fail
   refine X.o.mono ?_;rintro e w1⟨rfl,Y⟩;have eL:=lh Y;clear Y X;go_wp2;go_roundw
   case rel=>exact⟨k+1,by omega,by go_num,lh (by rw[Xz HX.o,Zbt];exact eL.o)⟩
   case measure=>simp[intOf];omega
  .have aR:k=n:=by omega
   subst aR;obtain⟨v,hb,Z⟩:=u.o.cell;have cc:vC wr w.heap.size 0 v:=by simp[vC,World.cell?,hb]
   have eY:=lh Z;clear hb Z;go_wp2;go_ret;have an:rf CL (a.kids.take k) []=yw a:=by rw[Ye PS];rfl
   rw[<-an];refine⟨_,rfl,eY.o.base (Nat.le_succ _),u.o.bel,?_⟩;have:=Zdq _ _ u.o.nd u.o.sub;refine Y4 this ?_;unfold Ti;rw[Ym,Zdf];obtain⟨b,v,kk,t,m,ks⟩:=a;simp only[ATree.many,ATree.kids];omega
def Zj(a:ATree):Bool:=Zg a.text RB&&(a.kind==1||a.kind==6)
def wU(l:List ByteArray)(ks:List ATree):List ByteArray:=ks.foldl (λl k=>jn l k.text) l
theorem Zb9(l:List ByteArray)(ks:List ATree)(k:ATree):wU l (ks++[k])=jn (wU l ks) k.text:=by simp[wU,List.foldl_append]
theorem Zal(l:List ByteArray)(ks:List ATree):(wU l ks).length<=l.length+ks.length:=by
 induction ks generalizing l with
 |nil=>simp[wU]
 | cons k ks g =>
   have m:=g (jn l k.text);have o:=Zh2 l k.text;simp only[wU,List.foldl_cons,List.length_cons]at m ⊢;omega
def FR(body:Bool)(a:ATree):List ByteArray:=wU (wU (if body then yw a else[]) (a.kids.filter wW)) (a.kids.filter wH)
theorem jm.far{w w':World}{B m:Nat}{v g:Value}{l:List ATree}{ks:List ByteArray}(h:jm w B v l)(ht:Zy w m g ks)(hf:∀k,k<w.heap.size->g.ownBlock≠some k->w'.heap[k]?=w.heap[k]?):jm w' B v l:=by
 refine Z2 h λk hk=>hf k (Y9 h k hk).2 λe=>?_;exact Zvd
theorem Zia(w:World)(B0:Nat)(a:ATree)(I:TreeAt w B0 a)(hm:a.many<274877906944) :
 Calls Tryz.prog 108 #[a.ptr,.bool true] w λe w'=>∃v,e=.returned v∧Zy w' w.heap.size v (FR true a)∧Below w.heap.size w w':=by
 have ba:=YX a;have HT:=lh I;refine VX ?_;intro nf dG tf eV qR jv;refine Zt2 ?_;intro hF hL P hP Q hQ;unfold FR;simp only[if_true];rw[<-hP]at nf qR;rw[<-hQ]at dG jv;simp only[<-hP]at hF;simp only[<-hQ]at hL;rw[<-hP,<-hQ];clear hP hQ tf eV I;have J:=lh hF;have HL:=lh hL;clear hF hL;have o:=Xv w B0 a HT.o O';obtain⟨l0,O⟩:=zX (yw a)
 rw[<-O]at o ⊢;have u:=lh o;clear o O;unfold ATree.ptr at J HL u ⊢;go_enter Tryz.func108,Tryz.ntmps108
 go_wp2_with fail
 refine u.o.mono ?_;rintro e w1⟨v1,rfl,U,X,ku⟩;have Y:=lh U;have y:=lh X;clear u U X;go_wp2_with fail
 refine(J.o w1 (HT.o.bel y.o)).mono ?_;rintro e w2⟨v2,rfl,cG,E⟩;obtain⟨p2,Z,rfl,dN,fZ⟩:∃p cp,v2=.slice p P.length cp∧P.length<=cp∧cp<=maxLen:=by
  exact Aac
 have uK:=lh (Y.o.bel E);have aO:=zT y E;have N2:=lh cG;obtain⟨m,F⟩:=zX P.length
 have D3:m<=9223372036854775807:=Qn
 rw[<-F]at dN N2 nf ⊢;have bZ:=lh F;clear cG E F Y y;go_wp2_with fail
 go_loopw [5,16] (λv i wr=>∃(k:Nat) (v':Value),v'=v∧k<=m∧i=(vI k)∧Hid (Zy wr w.heap.size v' (wU l0 (P.take k)))∧Hid (jm wr w1.heap.size (.slice p2 m Z) P)∧Hid (Below w.heap.size w wr)) (λ_ i _=>m-(intOf i).toNat)
 case atStart=>exact⟨0,_,rfl,Yh _,rfl,uK,N2,aO⟩
 case round=>
  exact tq3
theorem Zfp(w:World)(B0:Nat)(a:ATree)(F:TreeAt w B0 a)(X:a.many<274877906944) :
 Calls Tryz.prog 108 #[a.ptr,.bool false] w λe w'=>∃v,e=.returned v∧Zy w' w.heap.size v (FR false a)∧Below w.heap.size w w':=by
 have Y:=YX a;have HT:=lh F;refine VX ?_;intro nf dG tf eV qR jv;refine Zt2 ?_;intro hF hL P hP Q hQ;unfold FR;simp only[Bool.false_eq_true,if_false];rw[<-hP]at nf qR;rw[<-hQ]at dG jv;simp only[<-hP]at hF;simp only[<-hQ]at hL;rw[<-hP,<-hQ];clear hP hQ tf eV F;have I:=lh hF;have HL:=lh hL;clear hF hL;obtain⟨l0,o⟩:∃l:List ByteArray,l=[]:=⟨_,rfl⟩
 have ku:l0.length<=a.many:=by rw[o];exact Yh _
 have J:Hid (Zy w w.heap.size (.slice none 0 0) l0):=lh (by rw[o];exact Zy.nil _ _);rw[<-o];have u:=lh (Y2 w.heap.size w);clear o;unfold ATree.ptr at I HL ⊢;go_enter Tryz.func108,Tryz.ntmps108
 go_wp2_with fail
 refine(I.o w (HT.o.bel u.o)).mono ?_;rintro e w2⟨v2,rfl,cG,y⟩;obtain⟨p2,O,rfl,U,fZ⟩:∃p cp,v2=.slice p P.length cp∧P.length<=cp∧cp<=maxLen:=by
  exact Aac
 have uK:=lh (J.o.bel y);have aO:=zT u y;have N2:=lh cG;obtain⟨m,E⟩:=zX P.length
 have Z:m<=9223372036854775807:=Qn
 rw[<-E]at U N2 nf ⊢;have bZ:=lh E;clear cG y E J u;go_wp2_with fail
 go_loopw [5,16] (λv i wr=>∃(k:Nat) (v':Value),v'=v∧k<=m∧i=(vI k)∧Hid (Zy wr w.heap.size v' (wU l0 (P.take k)))∧Hid (jm wr w.heap.size (.slice p2 m O) P)∧Hid (Below w.heap.size w wr)) (λ_ i _=>m-(intOf i).toNat)
 case atStart=>exact⟨0,_,rfl,Yh _,rfl,uK,N2,aO⟩
 case round=>
  exact tq3
theorem Z9v(body:Bool)(w:World)(g:Nat)(a:ATree)(m:TreeAt w g a)(o:a.many<274877906944) :
 Calls Tryz.prog 108 #[a.ptr,.bool body] w λe w'=>∃v,e=.returned v∧Zy w' w.heap.size v (FR body a)∧Below w.heap.size w w':=by
 cases body;·exact Zfp w g a m o
 .exact Zia w g a m o
theorem WN(w:World)(B:Nat)(a:ATree)(o:TreeAt w B a) :
 Calls Tryz.prog 16 #[a.ptr] w λe w'=>e=.returned (.bool (Zj a))∧w'=w:=by
 have c0:=o.c0;have c1:=o.c1;unfold Zj ATree.ptr;obtain⟨g,u⟩:=zX a.kind
 obtain⟨tx,y⟩:=zX a.text
 rw[<-u]at c0 ⊢;rw[<-y]at c1 ⊢;clear u y o;by_cases hs:tx=RB
 .subst hs;have F:Zg RB RB=true:=by simp[Zg]
  rw[F];unfold RB at c1;rcases(by omega:g=1∨g=6∨(g≠1∧g≠6))with m|m|⟨m,h4⟩
  .subst m;go_enter Tryz.func16,Tryz.ntmps16
   go_wp2;go_ret;exact⟨rfl,rfl⟩
  .subst m;go_enter Tryz.func16,Tryz.ntmps16
   go_wp2;go_ret;exact⟨rfl,rfl⟩
  .have I:(g==1)=false:=by simpa using m
   have J:(g==6)=false:=QJ
   clear m h4;rw[I,J];go_enter Tryz.func16,Tryz.ntmps16
   go_wp2;go_ret;exact⟨rfl,rfl⟩
 .have p:Zg tx RB=false:=by simp[Zg,hs]
  rw[p];have E:(tx.toList==RB.toList)=false:=by rw[RV];exact p
  have O:(tx.toList== [115,116,114,105,99,116])=false:=by
   have:RB.toList=[115,116,114,105,99,116]:=Pb
   rwa[this]at E
  clear E;clear hs p;go_enter Tryz.func16,Tryz.ntmps16
  go_wp2;go_ret;exact⟨rfl,rfl⟩
end Go.Proofs.YtjikfacdcdiddaaGreatDoor
namespace Go.Proofs.YtjikfacdcdiddaaGreatDoor
open Go Go.RowKit Go.ChangeMaps Go.MapKept
def wV(b:Nat):Value:=(vP b)
def rA(w:World)(k:Nat):Prop:=∃c t,w.heap[k]?=some (.cells c t (0,0))
def mI(w:World)(b:Nat)(l:List (Nat×Nat)):Prop:=
 ∃g m,w.heap[b]?=some (.map g m)∧g.toList.map (λe=>(e.key,e.val))=l.map (λx=>(wV x.1,Value.int .i64 x.2))∧Go.MapKept.Stamped g m
theorem Zbi(w:World)(a b:Nat)(g:rA w a)(hb:rA w b):(Op.equal 22 (wV a) (wV b)).run Tryz.prog w=.ok (decide (a=b)) w:=by
 obtain⟨c1,y,m⟩:=g;obtain⟨c2,t2,o⟩:=hb;have p:(sizeOf 42).run Tryz.prog w=.ok 4 w:=Pb
 show(Op.equalIn (9999+1) _ _ _).run Tryz.prog w=_;unfold Op.equalIn wV;simp only[Sem.run_bind,run_underlying Tryz.underlying22,Result.andThen,p];by_cases h:a=b
 .subst h;simp[run_sameAddr_same]
 .have u:(⟨a,0,none⟩:Addr)≠⟨b,0,none⟩:=λe=>h (congrArg Addr.block e);rw[decide_eq_false h];simp;exact run_sameAddr_other w u m o
theorem Zmz(w:World)(k:Nat)(hk:rA w k):∀(g:List MapEntry) (l:List (Nat×Nat)) (i:Nat),g.map (λe=>(e.key,e.val))=l.map (λx=>(wV x.1,Value.int .i64 x.2))->(∀x∈l,rA w x.1∧x.1≠k)->
 (Instr.findAsking 22 (wV k) g i).run Tryz.prog w=.ok none w:=by
 intro g;induction g with
 |nil=>intro l i _ _;rfl
 | cons e g o =>
   intro l i hl hx;cases l with
   |nil=>simp at hl
   | cons x l =>
     simp only[List.map_cons,List.cons.injEq,Prod.mk.injEq]at hl;obtain⟨⟨p,F⟩,u⟩:=hl;have m:=hx x Pg;unfold Instr.findAsking;rw[p];simp only[Sem.run_bind,Zbi w k x.1 hk m.1,Result.andThen];rw[show decide (k=x.1)=false by simp;exact λe=>m.2 e.symm];exact o l (i+1) u λy E=>hx y (List.mem_cons_of_mem _ E)
theorem Zo1(w:World)(k v:Nat)(hk:rA w k):∀(g:List MapEntry) (l:List (Nat×Nat)) (i:Nat),g.map (λe=>(e.key,e.val))=l.map (λx=>(wV x.1,Value.int .i64 x.2))->(∀x∈l,rA w x.1)->(l.map (·.1)).Nodup->(k,v)∈l->
 ∃j,(Instr.findAsking 22 (wV k) g i).run Tryz.prog w=.ok (some (j,vI v)) w:=by
 intro g;induction g with
 |nil=>intro l i hl _ _ m;cases l;(cases m);(simp at hl)
 | cons e g p =>
   intro l i hl hx hd m;cases l with
   |nil=>cases m
   | cons x l =>
     simp only[List.map_cons,List.cons.injEq,Prod.mk.injEq]at hl;obtain⟨⟨u,E⟩,F⟩:=hl;have I:=hx x Pg;rw[List.map_cons,List.nodup_cons]at hd;unfold Instr.findAsking;rw[u];simp only[Sem.run_bind,Zbi w k x.1 hk I,Result.andThen];by_cases o:k=x.1
     .have J:x=(k,v):=by
       rcases List.mem_cons.1 m with h|h;·exact h.symm
       .exact absurd (List.mem_map.2 ⟨(k,v),h,o⟩) hd.1
      rw[decide_eq_true o];refine⟨i,?_⟩;rw[E,J];rfl
     .rw[decide_eq_false o];refine p l (i+1) F (λy O=>hx y (List.mem_cons_of_mem _ O)) hd.2 ?_;rcases List.mem_cons.1 m with h|h;·exact absurd (by rw[<-h]) o
      .exact h
theorem Zgc(k:Nat)(g:List MapEntry)(l:List (Nat×Nat))(h:g.map (λe=>(e.key,e.val))=l.map (λx=>(wV x.1,Value.int .i64 x.2))) :
 (l=[]∧Instr.findNow (.pointer 42) (wV k) g 0=some none)∨(l≠[]∧Instr.findNow (.pointer 42) (wV k) g 0=none):=by
 cases g with
 | nil =>
   cases l with
   |nil=>exact .inl ⟨rfl,rfl⟩
   |cons x l=>simp at h
 | cons e g =>
   cases l with
   |nil=>simp at h
   | cons x l =>
     simp only[List.map_cons,List.cons.injEq,Prod.mk.injEq]at h;refine .inr ⟨by simp,?_⟩;unfold Instr.findNow;rw[h.1.1];rfl
theorem Zgu{w:World}{k:Nat}(hk:rA w k){g:List MapEntry}{l:List (Nat×Nat)}(h:g.map (λe=>(e.key,e.val))=l.map (λx=>(wV x.1,Value.int .i64 x.2)))(hx:∀x∈l,rA w x.1∧x.1≠k) :
 (Instr.findKey 22 (wV k) g).run Tryz.prog w=.ok none w:=by
 unfold Instr.findKey;simp only[Sem.run_bind,run_underlying Tryz.underlying22,Result.andThen];rcases Zgc k g l h with⟨_,m⟩|⟨_,m⟩;·rw[m];rfl
 .rw[m];exact Zmz w k hk g l 0 h hx
theorem Zgk{w:World}{k v:Nat}(hk:rA w k){g:List MapEntry}{l:List (Nat×Nat)}(h:g.map (λe=>(e.key,e.val))=l.map (λx=>(wV x.1,Value.int .i64 x.2)))(hx:∀x∈l,rA w x.1)(hd:(l.map (·.1)).Nodup)(m:(k,v)∈l) :
 ∃j,(Instr.findKey 22 (wV k) g).run Tryz.prog w=.ok (some (j,vI v)) w:=by
 unfold Instr.findKey;simp only[Sem.run_bind,run_underlying Tryz.underlying22,Result.andThen];rcases Zgc k g l h with⟨p,o⟩|⟨_,o⟩;·rw[p]at m;cases m
 .rw[o];exact Zo1 w k v hk g l 0 h hx hd m
theorem Zb1(w:World)(e:Bool)(k:Nat):(Instr.checkKey e 10000 22 (wV k)).run Tryz.prog w=.ok () w:=by
 show(Instr.checkKey e (9999+1) _ _).run Tryz.prog w=_;unfold Instr.checkKey wV;simp only[Sem.run_bind,run_underlying Tryz.underlying22,Result.andThen];rfl
theorem mI.lookup{w:World}{b k v:Nat}{l:List (Nat×Nat)}(h:mI w b l)(hx:∀x∈l,rA w x.1)(hd:(l.map (·.1)).Nodup)(g:(k,v)∈l) :
 (Instr.lookup 46 (.map (some b)) (wV k) false).run Tryz.prog w=.ok (vI v) w:=by
 obtain⟨m,o,hb,he,hst⟩:=h;obtain⟨j,hj⟩:=Zgk (hx _ g) he hx hd g;exact VU
theorem mI.update{w:World}{b k v:Nat}{l:List (Nat×Nat)}(h:mI w b l)(hk:rA w k)(hx:∀x∈l,rA w x.1∧x.1≠k) :
 ∃w',(Instr.mapUpdate 46 (.map (some b)) (wV k) (vI v)).run Tryz.prog w=.ok () w'∧mI w' b (l++[(k,v)])∧w.grownBy w' (some b):=by
 obtain⟨m,o,hb,he,hst⟩:=h;have u:=Zgu hk he hx;refine⟨setBlock w b (.map (m.push ⟨wV k,vI v,o⟩) (o+1)),?_,⟨_,_,heap_setBlock_same hb _,?_,stamped_push hst λx E=>?_⟩,⟨rfl,rfl,rfl,by simp[setBlock],λi _ hi=>heap_setBlock_other hb _ (λe=>hi (by rw[e]))⟩⟩
 .unfold Instr.mapUpdate;simp[run_underlying Tryz.underlying46,Go.MapKept.run_getObj_map hb,Zb1,u,Go.MapKept.run_setObj_map _ hb,Result.andThen,setBlock]
 .rw[Array.toList_push,Yl,Yl,he];rfl
 .have p:(x.key,x.val)∈m.toList.map (λe=>(e.key,e.val)):=List.mem_map.2 ⟨x,E,rfl⟩;rw[he]at p;obtain⟨y,F,e⟩:=List.mem_map.1 p;intro g;have G:x.key=wV y.1:=(congrArg Prod.fst e).symm;rw[G]at g;unfold wV at g;simp only[Value.pointer.injEq,Option.some.injEq,Addr.mk.injEq,and_true]at g;exact(hx y F).2 g
theorem Z6h(w:World){ah:Array Oper}{g:List Oper}{o:Oper}{a:Act}{Q:Exit->Act->World->Prop}
 (p:o.guard=none)(m x y:Operand)(eO:o.op=Op.mapUpdate 46 m x y)(b k v:Nat)(l:List (Nat×Nat))
 (hm:a.eval m=.map (some b))(hx:a.eval x=wV k)(hv:a.eval y=(vI v))(h:mI w b l)(hk:rA w k)(hl:∀x∈l,rA w x.1∧x.1≠k)
 (hK:∀w',mI w' b (l++[(k,v)])->w.grownBy w' (some b)->wpList Tryz.prog ah Q g (a.put o.dst undef) w') :
 wpList Tryz.prog ah Q (o::g) a w:=by
 refine wpList_plain p λu BK=>?_;obtain⟨w',iw,r1,r2⟩:=h.update (v:=v) hk hl;exact Zwp
theorem mI.len{w:World}{b:Nat}{l:List (Nat×Nat)}(h:mI w b l):∃g m,w.heap[b]?=some (.map g m)∧g.size=l.length:=by
 obtain⟨g,m,hb,he,hst⟩:=h;refine⟨g,m,hb,?_⟩;have:=congrArg List.length he;simpa using this
end Go.Proofs.YtjikfacdcdiddaaGreatDoor
namespace Go.Proofs.YtjikfacdcdiddaaGreatDoor
open Go Go.RowKit
theorem Zqw(o:Addr){σ:Type}(Inv:σ->World->Prop)(g:σ->ATree->Bool×σ)(B:Nat):∀(m:Nat) (a:ATree),a.many<=m->(∀s w,Inv s w->TreeAt w B a)->
 ∀s,(∀x s',Reach g a s x s'->∀w,Inv s' w->Calls Tryz.prog 32 #[x.ptr,.pointer (some o)] w λe w'=>e=.returned (.bool (g s' x).1)∧Inv (g s' x).2 w')->
 ∀w,Inv s w->Calls Tryz.prog 28 #[a.ptr,.func (.func 32) #[] #[.pointer (some o)]] w λe w'=>e=.returned (.tuple #[])∧Inv (uR g a s) w':=by
 exact tq6
def lw(l:List (Nat×Nat))(a:ATree):Bool×List (Nat×Nat):=(true,l++[(a.b,l.length)])
mutual
theorem Zc5:∀(a:ATree) (l:List (Nat×Nat)),(uR lw a l).map (·.1)=l.map (·.1)++a.subs.map (·.b)
 | .mk b v k t n ks, l => by
   simp only[uR,lw,if_true,ATree.subs,List.map_cons];rw[Z9l ks];simp[ATree.b]
theorem Z9l:∀(ks:List ATree) (l:List (Nat×Nat)),(rf lw ks l).map (·.1)=l.map (·.1)++(ox ks).map (·.b)
 | [],l=>by simp[rf,ox]
 | a :: ks, l => by
   simp only[rf,ox,List.map_append];rw[Z9l ks,Zc5 a,List.append_assoc]
end
theorem Zmi(l m:List ATree):ox (l++m)=ox l++ox m:=by
 induction l with
 |nil=>rfl
 |cons a l g=>simp only[List.cons_append,ox,g,List.append_assoc]
theorem Zrt(a:ATree):a.subs=a::ox a.kids:=by cases a;rfl
theorem Zmp{l:List ATree}{i:Nat}{k:ATree}(h:l[i]?=some k):ox l=ox (l.take i)++(k.subs++ox (l.drop (i+1))):=by
 obtain⟨hi,hk⟩:=List.getElem?_eq_some_iff.1 h;have:l=l.take i++(k::l.drop (i+1)):=by
  rw[<-hk,List.getElem_cons_drop,List.take_append_drop]
 rw[show ox l=ox (l.take i++(k::l.drop (i+1)))from congrArg ox this,Zmi];rfl
theorem Zf7{a x:ATree}{s s':List (Nat×Nat)}(h:Reach lw a s x s'):(s.map (·.1)++a.subs.map (·.b)).Nodup->x.b∉s'.map (·.1):=by
 induction h with
 | self a s =>
   intro hd g;exact(List.nodup_append.1 hd).2.2 _ g _ (List.mem_map.2 ⟨a,Z7w a,rfl⟩) rfl
 | @kid a k x s s' i ok hk h m =>
   intro hd;refine m ?_;rw[Z9l];simp only[lw,List.map_append,List.map_cons,List.map_nil];refine List.Nodup.sublist ?_ hd;rw[Zrt a,Zmp hk];simp only[List.map_cons,List.map_append,List.append_assoc,List.cons_append,List.nil_append];refine List.Sublist.append (List.Sublist.refl _) (List.Sublist.cons_cons _ (List.Sublist.append (List.Sublist.refl _) (List.sublist_append_left _ _)))
structure NInv(w0:World)(c mb:Nat)(l:List (Nat×Nat))(w:World):Prop where
 cell:w.heap[c]?=some (.cells #[.map (some mb)] 46 (0,0))
 map:mI w mb l
 bel:Below w0.heap.size w0 w
 le:w0.heap.size<=mb
 has:∀x∈l,rA w0 x.1
theorem rA.bel{w0 w:World}{k:Nat}(h:rA w0 k)(g:Below w0.heap.size w0 w):rA w k:=by
 obtain⟨c,t,h⟩:=h;exact⟨c,t,(g.block k (Y1.1 h).1).trans h⟩
theorem TreeAt.cellsOf{w:World}{B:Nat}{a:ATree}(h:TreeAt w B a):rA w a.b:=⟨_,_,h.blkOf⟩
theorem Zn3(w0:World)(c mb B:Nat)(I:c≠mb)(x:ATree)(hx:TreeAt w0 B x)(l:List (Nat×Nat))(w:World)(hI:NInv w0 c mb l w)(hf:x.b∉l.map (·.1)) :
 Calls Tryz.prog 32 #[x.ptr,vP c] w λe w'=>e=.returned (.bool (lw l x).1)∧NInv w0 c mb (lw l x).2 w':=by
 have g:=lh hI;obtain⟨o,Z,hb,p⟩:=hI.map.len;have ik:∀u,(Builtin.len_ #[46] u #[.map (some mb)]).run Tryz.prog w=.ok (vI o.size) w:=λu=>by
  simp[Builtin.len_,run_underlying Tryz.underlying46,Go.MapKept.run_getObj_map hb,Result.andThen,goInt]
 have cc:vC w c 0 (.map (some mb)):=by simp[vC,World.cell?,hI.cell]
 have J:=lh (hx.cellsOf.bel hI.bel);have HL:=lh (show∀y∈l,rA w y.1∧y.1≠x.b from λy m=>⟨(hI.has y m).bel hI.bel,λe=>hf (List.mem_map.2 ⟨y,m,e⟩)⟩);have O:=lh hx;have U:=lh p;have X:=lh (Y1.1 hI.cell).1;clear hI hx hf p;unfold ATree.ptr;simp only[lw];go_enter Tryz.func32,Tryz.ntmps32
 go_wp2_with (at_mapUpdate;go_must (refine Z6h _ rfl _ _ _ rfl mb x.b o.size l rfl rfl rfl g.o.map J.o HL.o ?_);intro w1 E F;have Y:=lh E;have G:=lh F;clear E F)
 go_ret;refine⟨rfl,?_,?_,?_,g.o.le,?_⟩;·exact(G.o.block c X.o (λe=>I (Yc e))).trans g.o.cell
 .rw[<-U.o];exact Y.o
 .exact g.o.bel.grown G.o g.o.bel.size λk hk=>by cases hk;exact g.o.le
 .intro y m;rcases List.mem_append.1 m with h|h;·exact g.o.has y h
  .simp only[List.mem_singleton]at h;rw[h];exact O.o.cellsOf
theorem Zht(w:World)(B:Nat)(a:ATree)(g:TreeAt w B a)(hd:(a.subs.map (·.b)).Nodup) :
 Calls Tryz.prog 12 #[a.ptr] w λe w'=>∃mb,e=.returned (.map (some mb))∧mI w' mb (uR lw a [])∧Below w.heap.size w w'∧w.heap.size<=mb:=by
 refine Dz ?_;intro iV;have y:∀w:World,(Instr.makeMap 46 none).run Tryz.prog w=.ok (.map (some w.heap.size)) (w.alloc (.map #[] 0)):=λw=>run_makeMap _ w
 have m:=lh (λ(w1:World) (h:NInv w (w.heap.size+1) w.heap.size [] w1)=>Zqw ⟨w.heap.size+1,0,none⟩ (NInv w (w.heap.size+1) w.heap.size) lw B a.many a (Y0 _) (λs w1 h=>g.keep λk _ hk=>h.bel.block k hk) []
  (λx s hx w1 h=>Zn3 w (w.heap.size+1) w.heap.size B O' x (Zea g hx.sub) s w1 h (Zf7 hx (by simpa using hd))) w1 h)
 have p:NInv w (w.heap.size+1) w.heap.size [] ((w.alloc (.map #[] 0)).alloc (.cells #[.map (some w.heap.size)] 46)):=by
  refine⟨?_,⟨#[],0,?_,rfl,Go.MapKept.stamped_empty 0⟩,((Y2 _ _).alloc (Y0 _) _).alloc Pg _,Y0 _,λ_ h=>by cases h⟩
  .have:=(Go.MapKept.heap_alloc (w.alloc (.map #[] 0)) (.cells #[.map (some w.heap.size)] 46)).1;simpa using this
  .exact((Go.MapKept.heap_alloc (w.alloc (.map #[] 0)) (.cells #[.map (some w.heap.size)] 46)).2 _ Pg).trans (Go.MapKept.heap_alloc w (.map #[] 0)).1
 have u:=lh p;clear p g hd;unfold ATree.ptr at m ⊢;go_enter Tryz.func12,Tryz.ntmps12
 go_wp2_with fail
 refine(m.o _ u.o).mono ?_;rintro e w1⟨rfl,hI⟩;have E:vC w1 (w.heap.size+1) 0 (.map (some w.heap.size)):=by simp[vC,World.cell?,hI.cell]
 have o:=lh hI;clear hI u m;go_wp2;go_ret;exact⟨_,rfl,o.o.map,o.o.bel,o.o.le⟩
structure RS where
 ts:List Tok
 f:Option (Int×Nat)
def Zp3(e:Int)(σ:RS):RS:=if σ.f.isNone then⟨σ.ts,some (e,(bL σ.ts).at')⟩else σ
def WY(σ:RS):RS:=⟨σ.ts.tail,σ.f⟩
def Zwm(s:ByteArray)(σ:RS):RS:=if σ.f.isNone then(if aa s σ.ts then WY σ else Zp3 3 σ)else σ
def Zmf(σ:RS):ByteArray×RS:=if σ.f.isNone then(if(bL σ.ts).kind=1 then((bL σ.ts).text,WY σ)else(ByteArray.empty,Zp3 3 σ))else(ByteArray.empty,σ)
abbrev RR:=Option (Tree×RS)
def Zxj(p:RR)(k:Tree->RS->RR):RR:=match p with|none=>none|some (t,σ)=>k t σ
def UJ(s:ByteArray):Int:=if Zg s BN then 25 else if Zg s TZ then 26 else if Zg s T8 then 27 else if Zg s TQ then 28 else if Zg s Tp then 29 else if Zg s T2 then 30 else if Zg s T7 then 31 else 0
def Zma(s:ByteArray):Int:=if Zg s SA then 19 else if Zg s SQ then 20 else if Zg s Tn then 21 else if Zg s TL then 22 else 0
def Zms(r:RR)(e:Int×Nat):Prop:=∃t ts,r=some (t,⟨ts,some e⟩)
def Zpu(t:Tok):Prop:=(t.kind=2->UJ t.text=0)∧(t.kind=5->Zma t.text=0)
def Sk(ts:List Tok):Prop:=∀t∈ts,Zpu t
theorem Sk.tail{ts:List Tok}(h:Sk ts):Sk ts.tail:=λt ht=>h t (List.mem_of_mem_tail ht)
theorem Sk.hd{ts:List Tok}(h:Sk ts):Zpu (bL ts):=by
 cases ts with
 |nil=>exact⟨λh=>by simp[bL]at h,λh=>by simp[bL]at h⟩
 |cons t l=>exact h t Pg
def Agree(p:PR)(q:RR):Prop:=
 match p with
 |none=>True
 |some (.ok (t,ts))=>q=some (t,⟨ts,none⟩)∧Sk ts
 |some (.error e)=>Zms q e
theorem Agree.ok{t:Tree}{ts:List Tok}(h:Sk ts):Agree (iy t ts) (some (t,⟨ts,none⟩)):=⟨rfl,h⟩
theorem Agree.fail{k:Int}{t:Tree}{ts:List Tok}:Agree (vg k ts) (some (t,Zp3 k ⟨ts,none⟩)):=⟨_,_,rfl⟩
theorem Agree.bind{p:PR}{q:RR}{k:Tree->List Tok->PR}{m:Tree->RS->RR}(h:Agree p q)(hk:∀t ts,Sk ts->Agree (k t ts) (m t ⟨ts,none⟩))(he:∀t ts e,Zms (m t ⟨ts,some e⟩) e) :
 Agree (Zr p k) (Zxj q m):=by
 cases p with
 |none=>trivial
 | some r =>
   cases r with
   |error e=>obtain⟨t,ts,rfl⟩:=h;exact he t ts e
   |ok x=>obtain⟨t,ts⟩:=x;obtain⟨rfl,g⟩:=h;exact hk t ts g
theorem Agree.want{s:ByteArray}{ts:List Tok}{k:List Tok->PR}{m:RS->RR}(g:Sk ts)(hk:Sk ts.tail->Agree (k ts.tail) (m ⟨ts.tail,none⟩))(he:∀ts e,Zms (m ⟨ts,some e⟩) e) :
 Agree (iB s ts k) (m (Zwm s ⟨ts,none⟩)):=by
 unfold iB Zwm;by_cases h:aa s ts=true;·simp only[h,Option.isNone_none,if_true];exact hk g.tail
 .simp only[h,Option.isNone_none,if_true];exact he _ _
theorem Agree.name{ts:List Tok}{k:ByteArray->List Tok->PR}{m:ByteArray->RS->RR}(g:Sk ts)(hk:∀s,Sk ts.tail->Agree (k s ts.tail) (m s ⟨ts.tail,none⟩))(he:∀s ts e,Zms (m s ⟨ts,some e⟩) e) :
 Agree (wc ts k) (m (Zmf ⟨ts,none⟩).1 (Zmf ⟨ts,none⟩).2):=by
 unfold wc Zmf;by_cases h:(bL ts).kind=1;·simp only[h,Option.isNone_none,if_true];exact hk _ g.tail
 .simp only[h,Option.isNone_none,if_true,if_false];exact he _ _ _
theorem Agree.ite{c:Prop} [Decidable c]{c':Bool}{g m:PR}{o p:RR}(h:c↔c'=true)(u:c->Agree g o)(y:¬c->Agree m p):Agree (if c then g else m) (if c'=true then o else p):=by
 by_cases hc:c;·rw[Y5 hc,Y5 (h.1 hc)];exact u hc
 .rw[Y3 hc,Y3 (λe=>hc (h.2 e))];exact y hc
theorem Agree.within{d:Nat}{ts:List Tok}{p:PR}{q:RR}{t:Tree}(h:d+1<=30->Agree p q):Agree (vX d ts p) (if 30<d+1 then some (t,Zp3 4 ⟨ts,none⟩)else q):=by
 unfold vX;by_cases hd:30<d+1;·rw[Y5 hd,Y5 hd];exact Agree.fail
 .rw[Y3 hd,Y3 hd];exact h O'
structure QC where
 rb:Nat
 tb:Nat
 off:Nat
 cap:Nat
 L:List Tok
section
variable {w w':World}{C:QC}{i:Nat}{f:Option (Int×Nat)}{σ:RS}
end
structure KidsAt(w0:World)(B:Nat)(w:World)(kids:List ATree)(ts:List Tree):Prop where
 tree:fs kids=ts
 at':∀a∈kids,TreeAt w B a
 nodup:(Zl kids).Nodup
 new:∀x∈Zl kids,w0.heap.size<=x∧x<w.heap.size
structure ListAt(w0:World)(B:Nat)(w:World)(v:Value)(kids:List ATree)(ts:List Tree):Prop where
 ks:KidsAt w0 B w kids ts
 row:w.ownsRow B 22 1 v kids.length (kids.map ATree.ptr)
 own:∀g,v.ownBlock=some g->w0.heap.size<=g∧g<w.heap.size∧g∉Zl kids
section
variable {w0 w w' w1 w2 wA:World}{B rb:Nat}{v:Value}{kids:List ATree}{ts:List Tree}{a:ATree}{t:Tree}{k n:Int}{tx:ByteArray}{b:Nat}
theorem KidsAt.nil:KidsAt w0 B w [] []:=⟨rfl,λa g=>(by cases g),by simp[Zl],λx hx=>by simp[Zl]at hx⟩
theorem KidsAt.rfr(h:KidsAt w0 B w kids ts)(hr:rb<B)(f:RFr w w' rb):KidsAt w0 B w' kids ts:=
 ⟨h.tree,λa g=>(h.at' a g).rfr hr f,h.nodup,λx hx=>⟨(h.new x hx).1,Y7 (h.new x hx).2 f.size⟩⟩
theorem KidsAt.pre(h:KidsAt w1 B w kids ts)(f:w0.heap.size<=w1.heap.size):KidsAt w0 B w kids ts:=
 ⟨h.tree,h.at',h.nodup,λx hx=>⟨Y4 f (h.new x hx).1,(h.new x hx).2⟩⟩
theorem KidsAt.add(h:KidsAt w0 B w kids ts)(g:∀x∈Zl kids,x<wA.heap.size)(A:Got wA B w a t)(o:w0.heap.size<=wA.heap.size):KidsAt w0 B w (kids++[a]) (ts++[t]):=by
 refine⟨by rw[Z9i,h.tree];simp[fs,A.tree],λx hx=>?_,?_,λx hx=>?_⟩
 .rcases List.mem_append.1 hx with hx|hx;·exact h.at' x hx
  .simp only[List.mem_singleton]at hx;subst hx;exact A.at'
 .rw[Vq];simp only[Zl,List.append_nil,List.nodup_append];exact⟨h.nodup,A.nodup,λx hx y m e=>by have p:=g x hx;have u:=A.new y m;omega⟩
 .rw[Vq]at hx;simp only[Zl,List.append_nil,List.mem_append]at hx;rcases hx with hx|hx;·exact h.new x hx
  .have:=A.new x hx;omega
theorem KidsAt.one(A:Got w0 B w a t):KidsAt w0 B w [a] [t]:=KidsAt.nil.add (kids:=[]) (ts:=[]) (wA:=w0) (λx hx=>by simp[Zl]at hx) A (Y0 _)
theorem KidsAt.two{a2:ATree}{t2:Tree}(A:Got w0 B w a t)(g:∀x∈a.blocks,x<wA.heap.size)(m:w0.heap.size<=wA.heap.size)(o:Got wA B w a2 t2):KidsAt w0 B w [a,a2] [t,t2]:=
 (KidsAt.one A).add (wA:=wA) (λx hx=>g x (by simpa[Zl]using hx)) o m
theorem ListAt.nil:ListAt w0 B w (.slice none 0 0) [] []:=⟨KidsAt.nil,World.ownsRow_nil _ _ _ _,λg m=>by simp[Value.ownBlock]at m⟩
theorem ListAt.rfr(h:ListAt w0 B w v kids ts)(hr:rb<B)(f:RFr w w' rb):ListAt w0 B w' v kids ts:=
 ⟨h.ks.rfr hr f,Z2 h.row λg m=>f.block g (h.own g m).2.1 (by have:=(h.row.lt g m).1;omega),λg m=>⟨(h.own g m).1,Y7 (h.own g m).2.1 f.size,(h.own g m).2.2⟩⟩
theorem ListAt.pre(h:ListAt w1 B w v kids ts)(f:w0.heap.size<=w1.heap.size):ListAt w0 B w v kids ts:=
 ⟨h.ks.pre f,h.row,λg m=>⟨Y4 f (h.own g m).1,(h.own g m).2⟩⟩
theorem KidsAt.lit(h:KidsAt w0 B w kids ts)(p:B<=w.heap.size)(u:w0.heap.size<=w.heap.size)(hl:kids.length<=1000) :
 ListAt w0 B (w.alloc (.cells (kids.map ATree.ptr).toArray 22)) (.slice (some ⟨w.heap.size,0,none⟩) kids.length kids.length) kids ts:=by
 have m:Below w.heap.size w (w.alloc (.cells (kids.map ATree.ptr).toArray 22)):=(Y2 _ _).alloc (Y0 _) _;refine⟨⟨h.tree,λa y=>(h.at' a y).bel m,h.nodup,λx hx=>⟨(h.new x hx).1,Y7 (h.new x hx).2 m.size⟩⟩,Zkf p hl,λg o=>?_⟩;simp only[Value.ownBlock,Option.some.injEq]at o;subst o;exact⟨u,by simp,λE=>by have:=(h.new _ E).2;omega⟩
theorem ListAt.push{g cap:Nat}(L:ListAt w0 B w v kids ts)(U:∀x∈Zl kids,x<wA.heap.size)(X:∀x,v.ownBlock=some x->x<wA.heap.size)(A:Got wA B w a t)(h0:w0.heap.size<=wA.heap.size)(Oa:wA.heap.size<=w.heap.size)
 (p:Below w.heap.size w w1)(u:w1.grownBy w2 v.ownBlock)(Y:w2.ownsRow B 22 1 (.slice (some ⟨g,0,none⟩) (kids.length+1) cap) (kids.length+1) (kids.map ATree.ptr++[a.ptr]))
 (F:v.ownBlock=some g∨w.heap.size<=g)(Z:g<w2.heap.size)(o:RFr w0 w rb) :
 ListAt w0 B w2 (.slice (some ⟨g,0,none⟩) (kids.length+1) cap) (kids++[a]) (ts++[t])∧(∀x,x<w.heap.size->v.ownBlock≠some x->w2.heap[x]?=w.heap[x]?)∧w.heap.size<=w2.heap.size∧
  RFr w0 w2 rb:=by
 have aG:w.heap.size<=w2.heap.size:=Y4 p.size u.size;have far:∀x,x<w.heap.size->v.ownBlock≠some x->w2.heap[x]?=w.heap[x]?:=λx hx hn=>(u.block x (Y7 hx p.size) (λe=>hn e.symm)).trans (p.block x hx);have E:∀x,v.ownBlock=some x->w0.heap.size<=x∧x<wA.heap.size:=λx hx=>⟨(L.own x hx).1,X x hx⟩;have vb:g∉Zl kids:=λm=>by
  rcases F with h|h;·exact(L.own g h).2.2 m
  .have:=(L.ks.new g m).2;omega
 have y9:g∉a.blocks:=λm=>by
  have J:=A.new g m;rcases F with h|h;·have:=E g h;omega
  .omega
 have rl:w0.heap.size<=g:=by
  rcases F with h|h;·exact(E g h).1
  .have:=o.size;omega
 have eH:∀x∈Zl kids,w2.heap[x]?=w.heap[x]?:=λx hx=>far x (L.ks.new x hx).2 λe=>(L.own x e).2.2 hx;have vd:∀x∈a.blocks,w2.heap[x]?=w.heap[x]?:=λx hx=>far x (A.new x hx).2 λe=>by have J:=E x e;have h2:=A.new x hx;omega
 refine⟨⟨⟨?_,λx hx=>?_,?_,λx hx=>?_⟩,?_,λg' O=>?_⟩,far,aG,⟨?_,?_,?_,?_,?_⟩⟩;·rw[Z9i,L.ks.tree];simp[fs,A.tree]
 .rcases List.mem_append.1 hx with hx|hx
  .refine(L.ks.at' x hx).keepB λy I=>eH y ?_;rw[UQ];exact List.mem_flatMap.2 ⟨x,hx,I⟩
  .simp only[List.mem_singleton]at hx;subst hx;exact A.at'.keepB vd
 .rw[Vq];simp only[Zl,List.append_nil,List.nodup_append];exact⟨L.ks.nodup,A.nodup,λx hx y I e=>by have J:=U x hx;have h2:=A.new y I;omega⟩
 .rw[Vq]at hx;simp only[Zl,List.append_nil,List.mem_append]at hx;rcases hx with hx|hx;·have :=L.ks.new x hx;omega
  .have:=A.new x hx;omega
 .rw[Yi,Yl];exact Y
 .simp only[Value.ownBlock,Option.some.injEq]at O;subst O;refine⟨rl,Z,λm=>?_⟩;rw[Vq]at m;simp only[Zl,List.append_nil,List.mem_append]at m;exact m.elim vb y9
 .exact(u.os.trans p.os).trans o.os
 .exact(u.tape.trans p.tape).trans o.tape
 .exact(u.output.trans p.output).trans o.output
 .have:=o.size;omega
 .intro x hx hn;have:=o.size;exact(far x O' (λe=>by have:=E x e;omega)).trans (o.block x hx hn)
theorem ListAt.node(L:ListAt w0 B w v kids ts)(g:B<=w.heap.size)(p:w0.heap.size<=w.heap.size) :
 Got w0 B (w.alloc (.cells #[vI k,.string tx,vI n,v] 42)) (.mk w.heap.size v k tx n kids) (.mk k tx n ts):=by
 refine⟨by simp[ATree.tree,L.ks.tree],TreeAt.new g L.row L.ks.at',?_,λx hx=>?_⟩
 .simp only[ATree.blocks,List.nodup_cons,List.mem_append,List.nodup_append,Option.mem_toList,not_or];refine⟨⟨λe=>by have :=(L.own _ e).2.1;omega,λm=>by have :=(L.ks.new _ m).2;omega⟩,?_,L.ks.nodup,λx hx y o e=>?_⟩;·cases v.ownBlock<;>simp
  .subst e;exact(L.own x hx).2.2 o
 .simp only[ATree.blocks,List.mem_cons,List.mem_append,Option.mem_toList]at hx;rw[World.size_alloc];rcases hx with rfl|hx|hx;·omega
  .have:=L.own x hx;omega
  .have:=L.ks.new x hx;omega
theorem ListAt.apart(L:ListAt w1 B w v kids ts)(hb:b<w1.heap.size):v.ownBlock≠some b∧b∉Zl kids:=
 ⟨λe=>by have:=(L.own b e).1;omega,λg=>by have:=(L.ks.new b g).1;omega⟩
theorem Got.list(N:Got w0 B w (.mk b v k tx n kids) t):ListAt w0 B w v kids (fs kids)∧v.ownBlock≠some b∧b∉Zl kids:=by
 have m:=N.nodup;simp only[ATree.blocks,List.nodup_cons,List.mem_append,List.nodup_append,Option.mem_toList,not_or]at m;obtain⟨⟨o,p⟩,_,u,y⟩:=m;exact⟨⟨⟨rfl,λa E=>N.at'.kid (k:=a) E,u,λx hx=>N.new x P8⟩,N.at'.rowOf,λg hg=>⟨(N.new g Re).1,(N.new g Re).2,λF=>y g hg g F rfl⟩⟩,o,p⟩
end
theorem Zdh{P:Nat->Prop}(h:∃g,P g):∃m,P m∧∀k,P k->m<=k:=by
 obtain⟨g,o⟩:=h;induction g using Nat.strongRecOn with
 | ind g p =>
   by_cases h:∃k,k<g∧P k
   .obtain⟨k,hk,hp⟩:=h;exact p k hk hp
   .exact⟨g,o,λk hk=>Nat.le_of_not_lt λhl=>h ⟨k,hl,hk⟩⟩
open Classical in
noncomputable def least(P:Nat->Prop):Nat:=if h:∃g,P g then Classical.choose (Zdh h)else 0
theorem ListAt.len{w0 w:World}{B:Nat}{v:Value}{kids:List ATree}{ts:List Tree}(L:ListAt w0 B w v kids ts):kids.length=ts.length:=by rw[<-L.ks.tree,Z87,Ym]
theorem ListAt.slice{w0 w:World}{B:Nat}{v:Value}{kids:List ATree}{ts:List Tree}(L:ListAt w0 B w v kids ts):∃p m,v=.slice p ts.length m:=by
 rw[<-L.len];rcases Z4 L.row with⟨g,o⟩|⟨u,y,g,_⟩;·exact⟨none,0,by rw[g,o]⟩
 .exact⟨_,_,g⟩
theorem Zhh:∀{f d:Nat} {k:Int} {g:List Tree} {us ts:List Tok} {t:Tree},Z3 f (.stmts k g) d us=some (.ok (t,ts))->∃tx l,t=.mk k tx 0 l:=by
 intro f;induction f with
 |zero=>intro d k g us ts t h;cases h
 | succ f m =>
   intro d k g us ts t h;rw[Z3]at h;generalize(if k=1 then decide ((bL us).kind=6)else aa Zp us)=c at h;cases c
   .obtain⟨x,vs,_,h⟩:=Ec h;exact m h
   .obtain⟨rfl,_⟩:=RN h;exact⟨_,_,rfl⟩
theorem Zj5(f:Nat)(body:Bool)(hS:c9 27 (λrb=>#[vP rb,vI 6,.string Zp]) (.stmts 6 []) f) :
 c9 95 (λrb=>#[vP rb,.bool body]) (.block body) (f+1):=by
 intro w rb B d ts r m hp;have J:iB CW ts (λts=>Zr (Z3 f (.stmts 6 []) d ts) λx ts=>iB Zp ts λts=>iy (if body then x else .mk 6 ByteArray.empty 0 x.kids) ts)=some r:=hp;have o:=lh m;simp only;rcases Sy J with⟨hs,h1⟩|⟨hs,rfl⟩
 .have HC:=lh (Hb w rb ts d CW m.rd hs);have H1:=lh h1;clear m hp J hs h1;go_enter Tryz.func95,Tryz.ntmps95
  go_wp2_with fail
  refine HC.o.mono ?_;rintro e w1⟨rfl,dF,O⟩;have U:=lh (o.o.tail dF O);have F1:=lh O;clear dF O HC;rcases Zf H1.o with⟨⟨c,p⟩,hv,rfl⟩|⟨t,u,hv,h2⟩
  .have HV:=hS w1 rb B d _ _ U.o hv;simp only at HV;unfold Zp at HV;have HV:=lh HV;exact Zth
  .have HV:=hS w1 rb B d _ _ U.o hv;simp only at HV;unfold Zp at HV;have HV:=lh HV;have hl:=RX hv;obtain⟨tx,l,rfl⟩:=Zhh hv;have H2:=lh h2;clear hv h2;go_wp2_with fail
   refine HV.o.mono ?_;rintro e w2⟨a,rfl,X,Y,Z⟩;obtain⟨b,v,k,Lu,n,kids⟩:=a;have l9:=X.tree;simp only[ATree.tree,Tree.mk.injEq]at l9;obtain⟨rfl,rfl,rfl,rfl⟩:=l9;have y:=X.pre F1.o;have F2:=F1.o.trans Z;have ac:=y.at'.blkOf;simp only[ATree.b,ATree.v,ATree.kind,ATree.text,ATree.n]at ac ⊢;have c1:vC w2 b 1 (.string Lu):=Pd
   have z1:w2.frozen? ⟨b,1,none⟩=false:=PK
   have g:=U.o.next Y Z hl;have F:=lh (Got.text (t':=ByteArray.empty) o.o.lt o.o.le y F2 Y);have I:Pre (w2.setCell ⟨b,1,none⟩ (.string ByteArray.empty)) rb B d u:=⟨F.o.2.2,g.deep,g.lt,by rw[Yf];exact g.le,g.few⟩
   have g:=lh g;have I:=lh I;have F2:=lh F2;have y:=lh y;clear X Y Z HV hl ac;rcases Sy H2.o with⟨hs,E⟩|⟨hs,rfl⟩
   .have E:=Yc E;have HR:=lh E.symm;cases body
    .have HC:=Hb _ rb u d Zp I.o.rd hs;unfold Zp at HC;have HC:=lh HC;clear hs E;go_wp2_with fail
     refine Zrd ?_;intro w3 R3 F3;go_wp2;go_ret;rw[HR.o];exact⟨_,rfl,F.o.1.rfr o.o.lt F3.o,R3.o,F.o.2.1.trans F3.o⟩
    .have HC:=Hb _ rb u d Zp g.o.rd hs;unfold Zp at HC;have HC:=lh HC;clear hs E;go_wp2_with fail
     refine Zrd ?_;intro w3 R3 F3;go_wp2;go_ret;rw[HR.o];exact⟨_,rfl,y.o.rfr o.o.lt F3.o,R3.o,F2.o.trans F3.o⟩
   .cases body
    .have HC:=RG _ rb u d Zp I.o.rd hs;unfold Zp at HC;have HC:=lh HC;clear hs;go_wp2_with fail
     refine HC.o.mono ?_;rintro e w3⟨⟨b,rfl,h1,h2⟩,hB⟩;exact⟨rfl,ll.err F.o.2.1 ⟨b,rfl,h1,h2⟩ hB⟩
    .have HC:=RG _ rb u d Zp g.o.rd hs;unfold Zp at HC;have HC:=lh HC;exact Zvh
 .have HC:=lh (RG w rb ts d CW m.rd hs);clear m hp J hs;go_enter Tryz.func95,Tryz.ntmps95
  exact T3
theorem Zlo(f:Nat)(kind:Int)(F:Bool)(hV:c9 102 cQ .value f) :
 c9 98 (λrb=>#[vP rb,vI kind,.bool F]) (.decl kind F) (f+1):=by
 intro w rb B d ts r I hp;have hw:wc ts (λs ts=>if F&& !aa iD ts then vg 3 ts else if aa iD ts then Zr (Z3 f .value d ts.tail) λx ts=>iy (.mk kind s 0 [x]) ts else iy (.mk kind s 0 []) ts)=some r:=hp;have HP:=lh I;simp only;rcases V5 hw with⟨hk,h1⟩|⟨hk,rfl⟩
 .have HC:=lh (Tj w rb ts d I.rd hk);obtain⟨s,hs⟩:=zX ((bL ts).text)
  rw[<-hs]at HC h1;have J:=lh h1;clear I hp hw hk h1 hs;go_enter Tryz.func98,Tryz.ntmps98
  go_wp2_with fail
  refine HC.o.mono ?_;rintro e w1⟨rfl,dF,X⟩;have P1:=HP.o.tail dF X;have Y:=lh (Zv w1 rb kind s none 0 0);have Z:Below w1.heap.size w1 (w1.alloc (.cells #[vI kind,.string s,vI 0,.slice none 0 0] 42)):=(Y2 _ _).alloc (Y0 _) _;obtain⟨nb,dw⟩:=zX w1.heap.size
  have u:=Got.leaf (k:=kind) (t:=s) (n:=0) HP.o.le X;have m:=P1.below Z;have y:=X.trans (RFr.below (rb:=rb) Z);rw[<-dw]at u Y;go_wp2_with fail
  refine Y.o.mono ?_;rintro e w2⟨rfl,cw⟩;rw[<-cw]at u m y;have th:=lh dw;have u:=lh u;have m:=lh m;have y:=lh y;clear dF X HC P1 Y Z dw cw;obtain⟨us,jM⟩:=zX ts.tail
  rw[<-jM]at m J;have Ob:=lh jM;clear jM;by_cases he:aa iD us=true
  .have h1:=J.o;rw[Y3 (by rw[he];simp),Y5 he]at h1;have g:=LI w2 rb us d iD m.o.rd;rw[he]at g;unfold iD at g;have g:=lh g;have HE:=lh he;have H2:=lh h1;clear h1 he;have O:∀w3,Below w2.heap.size w2 w3->Hid (Pre w3 rb B d us∧Got w B w3 (.mk nb (.slice none 0 0) kind s 0 []) (.mk kind s 0 [])∧RFr w w3 rb):=λw3 hB=>lh ⟨m.o.below hB,u.o.rfr HP.o.lt (RFr.below (rb:=rb) hB),y.o.trans (RFr.below hB)⟩;have D4:=lh O;clear O;cases F
   .have PX:=lh m.o;have GX:=lh u.o;have FX:=lh y.o;clear D4 g;have HX:=HP.o.lt;have aA:=HP.o.lt;have HT:=wR w2 rb us d iD PX.o.rd HE.o;exact tq7
   .go_wp2_with fail
    refine g.o.mono ?_;rintro e wq⟨rfl,Hz⟩;have hk:=D4.o wq Hz;have PX:=lh hk.o.1;have GX:=lh hk.o.2.1;have FX:=lh hk.o.2.2;clear D4 g Hz hk m u y;have HX:=HP.o.lt;have aA:=HP.o.lt;have HT:=wR wq rb us d iD PX.o.rd HE.o;exact tq7
  .have U:aa iD us=false:=by simpa using he
   have h1:=J.o;cases F
   .rw[Y3 Pg,Y3 he]at h1;obtain rfl:=Yc h1;have HT:=xk w2 rb us d iD m.o.rd U;unfold iD at HT;have HT:=lh HT;clear h1 he U J;go_wp2_with fail
    refine HT.o.mono ?_;rintro e w3⟨rfl,E⟩;have R3:=lh (m.o.rd.below E);have G3:=lh (u.o.rfr HP.o.lt (RFr.below (rb:=rb) E));have F3:=lh (y.o.trans (RFr.below (rb:=rb) E));clear E;go_wp2;go_ret;exact⟨_,rfl,G3.o,R3.o,F3.o⟩
   .rw[Y5 (by rw[U];rfl)]at h1;obtain rfl:=Yc h1;have g:=LI w2 rb us d iD m.o.rd;rw[U]at g;unfold iD at g;have g:=lh g;clear h1 he U J;go_wp2_with fail
    refine g.o.mono ?_;rintro e w3⟨rfl,E⟩;have HF:=lh (S7 w3 rb us d 3 (m.o.rd.below E));have F3:=lh (y.o.trans (RFr.below (rb:=rb) E));clear E;go_wp2_with fail
    refine HF.o.mono ?_;rintro e w4⟨⟨b,rfl,h1,h2⟩,hB⟩;exact⟨rfl,ll.err F3.o ⟨b,rfl,h1,h2⟩ hB⟩
 .have HC:=lh (UU w rb ts d I.rd hk);clear I hp hw hk;go_enter Tryz.func98,Tryz.ntmps98
  exact T3
