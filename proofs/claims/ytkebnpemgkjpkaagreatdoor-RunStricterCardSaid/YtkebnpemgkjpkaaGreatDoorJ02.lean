import Derived.Test.YtkebnpemgkjpkaaGreatDoorJ01
import Derived.Shelf.Small.Strs
import Derived.Shelf.Strings.Prefix
set_option maxRecDepth 100000
set_option maxHeartbeats 20000000
set_option linter.all false
namespace Go.Proofs.YtkebnpemgkjpkaaGreatDoor
open Go Go.RowKit Go.Proofs.Tryz Tryz
structure Tok where
 kind:Int
 text:kB
 n:Int
 at':Nat
def iw(text:kB)(k:Nat):Nat->Nat->Int->Int
 |0,_,n=>n
 |f+1,i,n=>if i<k then iw text k f (i+1) (10*n+(Z5 text i-48))else n
def Zl(text:kB)(j:Nat):Nat:=
 if Z5 text j=61/\Z5 text (j+1)=61/\Z5 text (j+2)=61 then 3
 else if Z5 text j=38/\Z5 text (j+1)=38 then 2
 else if Z5 text j=124/\Z5 text (j+1)=124 then 2
 else 1
def Ua(c:Int):Bool:=c==40||c==41||c==123||c==125||c==91||c==93||c==59||c==58||c==44||c==46||c==61||c==43||c==45||c==42||c==60||c==33
def iq(text:kB)(j:Nat):Except (Int×Nat) (Tok×Nat):=
 if uZ (Z5 text j)then
  let k:=Zh wG text (text.size-j) j
  if Ud (text.extract j k)then .ok (⟨2,text.extract j k,0,j⟩,k)
  else if 20<k-j then .error (4,j)
  else .ok (⟨1,text.extract j k,0,j⟩,k)
 else if mE (Z5 text j)then
  let k:=Zh mE text (text.size-j) j
  if 10<k-j\/(1<k-j/\Z5 text j=48)then .error (3,j)
  else if 1000000000<iw text k (k-j) j 0 then .error (2,j)
  else .ok (⟨3,ByteArray.empty,iw text k (k-j) j 0,j⟩,k)
 else if Z5 text j=39 then
  if(BN text (j+1)).2.1=4 then .error (4,j)
  else if(BN text (j+1)).2.1≠0 then .error (3,(BN text (j+1)).2.2)
  else .ok (⟨4,⟨(BN text (j+1)).1.toArray⟩,0,j⟩,(BN text (j+1)).2.2)
 else if Zl text j=1/\Ua (Z5 text j)=false then .error (3,j)
 else .ok (⟨5,text.extract j (j+Zl text j),0,j⟩,j+Zl text j)
def sL (text:kB):Nat→Nat→List Tok→Except (Int×Nat) (List Tok)
 |0,_,g=>.ok g
 |f+1,i,g=>
   let j:=Zh mF text (text.size-i) i
   if text.size<=j then .ok (g++[⟨6,ByteArray.empty,0,j⟩])
   else match iq text j with
    | .error e=>.error e
    | .ok (t,k)=>sL text f k (g++[t])
def Xz(text:kB):Except (Int×Nat) (List Tok):=sL text (text.size+1) 0 []
def Z4a{text:kB}{i:Nat}(h:text.size<=i):Z5 text i=0:=by
 have g:¬i<text.data.size:=by change¬i<text.size;omega
 unfold Z5 Array.getD;rw[dif_neg g];rfl
def Z5a{text:kB}{i:Nat}(h:Z5 text i≠0):i<text.size:=by
 rcases Nat.lt_or_ge i text.size with g|g;·exact g
 .exact absurd (Z4a g) h
def getD_extract(text:kB){j k i:Nat}(h:i<k-j)(hk:k<=text.size):(text.extract j k).data.getD i 0=text.data.getD (j+i) 0:=by
 have g:j+i<text.data.size:=by change _<text.size;omega
 have h1:i<(text.extract j k).data.size:=by
  change i<(text.extract j k).size;rw[ByteArray.size_extract];omega
 simp only[Array.getD,dif_pos h1,dif_pos g];simp[ByteArray.data_extract]
def Zk(text:kB){j k i:Nat}(h:i<k-j)(hk:k<=text.size):Z5 (text.extract j k) i=Z5 text (j+i):=by
 unfold Z5;rw[getD_extract text h hk]
def UF(text:kB){j k:Nat}(hk:k<=text.size):(text.extract j k).size=k-j:=by
 rw[ByteArray.size_extract];omega
def TQ(p:Int->Bool)(text:kB):∀(f i:Nat),text.size-i<=f->i<=text.size->
 i<=Zh p text f i/\Zh p text f i<=text.size/\(∀m,i<=m->m<Zh p text f i->p (Z5 text m)=true)/\(Zh p text f i<text.size->p (Z5 text (Zh p text f i))=false):=by
 intro f;induction f with
 |zero=>intro i h hi;simp only[Zh];exact⟨Y0 _,hi,λm h1 g=>by omega,λu=>by omega⟩
 |succ f y=>
   intro i h hi;simp only[Zh];by_cases hc:i<text.size/\p (Z5 text i)=true
   .rw[Y5 (by simp[hc.1,hc.2])];obtain⟨h1,g,F,I⟩:=y (i+1) Px Px;refine⟨by omega,g,λm hm J=>?_,I⟩;by_cases e:m=i;·rw[e];exact hc.2
    .exact F m Px J
   .rw[Y3 (by simpa using hc)];refine⟨Y0 _,hi,λm h1 g=>by omega,λu=>?_⟩;simpa[u]using hc
def Z9c(p:Int->Bool)(text:kB):∀(f i k:Nat),text.size-i<=f->i<=k->k<=text.size->(∀m,i<=m->m<k->p (Z5 text m)=true)->(k<text.size->p (Z5 text k)=false)->Zh p text f i=k:=by
 intro f;induction f with
 |zero=>intro i k h h1 g _ _;simp only[Zh];omega
 |succ f F=>
   intro i k h h1 g u y;simp only[Zh];by_cases e:i=k
   .subst e;rw[Y3];simp only[Bool.and_eq_true,decide_eq_true_eq,not_and,Bool.not_eq_true];exact y
   .rw[Y5 (by simp[u i (Nat.le_refl _) Px];omega)];exact F (i+1) k Px Px g (λm a b=>u m Px b) y
def Za0(p:Int->Bool)(text:kB){j k:Nat}(F:j<text.size)(hk:Zh p text (text.size-j) j=k) :
 Zh p (text.extract j k) ((text.extract j k).size-0) 0=k-j:=by
 obtain⟨h1,g,u,y⟩:=TQ p text (text.size-j) j (Y0 _) Px;rw[hk]at h1 g u y;have hs:=UF text (j:=j) g;refine Z9c p _ _ _ _ Px Px Px (λm _ hm=>?_) (λh=>by omega);rw[Zk text hm g];exact u _ Px Px
def Zrl(text:kB){j k:Nat}(hk:k<=text.size):∀(f i:Nat) (n:Int),j<=i->iw (text.extract j k) (k-j) f (i-j) n=iw text k f i n:=by
 intro f;induction f with
 |zero=>intro i n _;rfl
 |succ f g=>
   intro i n hi;simp only[iw];by_cases h:i<k
   .rw[Y5 Px,Y5 h,Zk text Px hk,show j+(i-j)=i by omega,show i-j+1=i+1-j by omega];exact g (i+1) _ Px
   .rw[Y3 Px,Y3 h]
def Zhm (text:kB) {j:Nat}:∀ (f i:Nat) (F u:List UInt8) (k:Nat),j≤i→Zo text f i F=(u,0,k) →
 i<k/\k<=text.size/\Z5 text (k-1)=39/\∀m,k-i<=m->Zo (text.extract j k) m (i-j) F=(u,0,k-j):=by
 intro f;induction f with
 |zero=>intro i F u k _ h;simp[Zo]at h
 |succ f U=>
   intro i F u k hj h;simp only[Zo]at h;by_cases h1:text.size<=i\/Z5 text i=10;·rw[Y5 h1]at h;simp at h
   rw[Y3 h1]at h;simp only[not_or,Nat.not_le]at h1;by_cases y:Z5 text i=39
   .rw[Y5 y]at h;by_cases p:500<F.length;·rw[Y5 p]at h;simp at h
    rw[Y3 p]at h;simp only[Prod.mk.injEq,true_and]at h;obtain⟨rfl,rfl⟩:=h;refine⟨by omega,by omega,by simpa using y,λm hf=>?_⟩;obtain⟨g,rfl⟩:∃g,m=g+1:=⟨m-1,by omega⟩
    have hb:Z5 (text.extract j (i+1)) (i-j)=Z5 text i:=by
     exact Zub
    have hs:=UF text (j:=j) (k:=i+1) Px;simp only[Zo,hb,hs];rw[Y3 Px,Y5 y,Y3 p,show i-j+1=i+1-j by omega]
   rw[Y3 y]at h;by_cases p:Z5 text i=92
   ·rw [Y5 p] at h;by_cases X : i + 1 < text.size
    ·rw [Y5 X] at h;cases he : Ui (Z5 text (i + 1)) with
     |none=>rw[he]at h;simp at h
     |some e=>
       rw[he]at h;simp only at h;obtain⟨Y,I,J,O⟩:=U (i+2) _ u k Px h;refine⟨by omega,I,J,λm hf=>?_⟩;obtain⟨g,rfl⟩:∃g,m=g+1:=⟨m-1,by omega⟩
       have hb:Z5 (text.extract j k) (i-j)=Z5 text i:=by
        exact Zub
       have Z:Z5 (text.extract j k) (i-j+1)=Z5 text (i+1):=by
        rw[Zk text Px Px,show j+(i-j+1)=i+1 by omega]
       have hs:=UF text (j:=j) (k:=k) I;simp only[Zo,hb,hs,Z];rw[Y3 Px,Y3 y,Y5 p,Y5 Px,he];simp only;rw[show i-j+2=i+2-j by omega];exact O g Px
    .rw[Y3 X]at h;simp at h
   .rw[Y3 p]at h;obtain⟨Y,I,J,O⟩:=U (i+1) _ u k Px h;refine⟨by omega,I,J,λm hf=>?_⟩;obtain⟨g,rfl⟩:∃g,m=g+1:=⟨m-1,by omega⟩
    have hb:Z5 (text.extract j k) (i-j)=Z5 text i:=by
     exact Zub
    have hd:(text.extract j k).data.getD (i-j) 0=text.data.getD i 0:=by
     rw[getD_extract text Px Px,show j+(i-j)=i by omega]
    have hs:=UF text (j:=j) (k:=k) I;simp only[Zo,hb,hs,hd];rw[Y3 Px,Y3 y,Y3 p,show i-j+1=i+1-j by omega];exact O g Px
def YH{c:Int}(h:wG c=true):mF c=false:=by
 unfold wG uZ mE at h;unfold mF;simp only[Bool.or_eq_true,Bool.and_eq_true,decide_eq_true_eq]at h;simp only[Bool.or_eq_false_iff,decide_eq_false_iff_not];omega
theorem Z7m{c:Int}(h:uZ c=true):wG c=true:=by simp[wG,h]
theorem Z91{c:Int}(h:mE c=true):wG c=true:=by simp[wG,h]
def Zqh{c:Int}(h:Ua c=true):c≠0/\mF c=false:=by
 simp only[Ua,Bool.or_eq_true,beq_iff_eq]at h;simp only[mF,Bool.or_eq_false_iff,decide_eq_false_iff_not];omega
theorem extract_all(b:kB)(n:Nat)(h:n=b.size):b.extract 0 n=b:=by subst h;simp
def Zgj(text:kB)(j:Nat)(h:Zl text j=1->Ua (Z5 text j)=true) :
 1 ≤ Zl text j ∧ j + Zl text j ≤ text.size ∧ (∀ m, j ≤ m → m < j + Zl text j → mF (Z5 text m) = false) ∧ Zl (text.extract j (j + Zl text j)) 0 = Zl text j ∧
   (Zl text j=1->Z5 (text.extract j (j+Zl text j)) 0=Z5 text j)/\Z5 (text.extract j (j+Zl text j)) 0=Z5 text j:=by
 by_cases p:Z5 text j=61/\Z5 text (j+1)=61/\Z5 text (j+2)=61
 .have e:Zl text j=3:=by simp[Zl,p]
  rw[e];have hl:=Z5a (text:=text) (i:=j+2) Px;have b0:=Zk text (j:=j) (k:=j+3) (i:=0) Px Px;have b1:=Zk text (j:=j) (k:=j+3) (i:=1) Px Px;have b2:=Zk text (j:=j) (k:=j+3) (i:=2) Px Px;refine⟨by omega,by omega,λm h1 g=>?_,?_,λ_=>by rw[b0,Nat.add_zero],by rw[b0,Nat.add_zero]⟩
  .have :m=j\/m=j+1\/m=j+2:=by omega
   rcases this with rfl|rfl|rfl<;>simp[mF,p]
  .unfold Zl;rw[show 0+1=1 by rfl,show 0+2=2 by rfl,b0,b1,b2,Nat.add_zero,Y5 p]
 .by_cases g:Z5 text j=38/\Z5 text (j+1)=38
  .have e:Zl text j=2:=by simp[Zl,g]
   rw[e];refine Zz4 ?_;intro hl b0 b1;refine⟨by omega,by omega,λm h1 u=>?_,?_,λ_=>by rw[b0,Nat.add_zero],by rw[b0,Nat.add_zero]⟩
   .have :m=j\/m=j+1:=by omega
    rcases this with rfl|rfl<;>simp[mF,g]
   .unfold Zl;rw[show 0+1=1 by rfl,show 0+2=2 by rfl,b0,b1,Nat.add_zero,Y3 Px,Y5 g]
  .by_cases h1:Z5 text j=124/\Z5 text (j+1)=124
   .have e:Zl text j=2:=by simp[Zl,h1]
    rw[e];refine Zz4 ?_;intro hl b0 b1;refine⟨by omega,by omega,λm y u=>?_,?_,λ_=>by rw[b0,Nat.add_zero],by rw[b0,Nat.add_zero]⟩
    .have :m=j\/m=j+1:=by omega
     rcases this with rfl|rfl<;>simp[mF,h1]
    .unfold Zl;rw[show 0+1=1 by rfl,show 0+2=2 by rfl,b0,b1,Nat.add_zero,Y3 Px,Y3 Px,Y5 h1]
   .have e:Zl text j=1:=by simp[Zl,p,g,h1]
    have hs:=h e;rw[e];have hp:=Zqh hs;have hl:=Z5a hp.1;have b0:=Zk text (j:=j) (k:=j+1) (i:=0) Px Px;have b1:=Z4a (text:=text.extract j (j+1)) (i:=1) (by rw[UF text Px];omega);refine⟨by omega,by omega,λm y u=>?_,?_,λ_=>by rw[b0,Nat.add_zero],by rw[b0,Nat.add_zero]⟩
    .obtain rfl:m=j:=by omega
     exact hp.2
    .unfold Zl;rw[show 0+1=1 by rfl,show 0+2=2 by rfl,b1,Y3 Px,Y3 Px,Y3 Px]
def VB(text:kB){j k:Nat}{t:Tok}(Z:j<text.size)(h:iq text j=.ok (t,k)) :
 j < k ∧ k ≤ text.size ∧ t.at' = j ∧ t.kind ≠ 6 ∧ mF (Z5 text j) = false ∧ mF (Z5 text (k - 1)) = false ∧
   iq (text.extract j k) 0=.ok ({t with at':=0},k-j):=by
 unfold iq at h;by_cases hl:uZ (Z5 text j)=true
 .rw[Y5 hl]at h;simp only at h;obtain⟨K,m⟩:∃K,Zh wG text (text.size-j) j=K:=⟨_,rfl⟩
  rw[m]at h;obtain⟨s1,s2,u,s4⟩:=TQ wG text (text.size-j) j (Y0 _) Px;have y:=Za0 wG text Z m;rw[m]at s1 s2 u s4;have F:j<K:=by
   exact XT
  have g:Z5 (text.extract j K) 0=Z5 text j:=Rm
  have I:=YH (u (K-1) Px Px);have J:(text.extract j K).extract 0 (K-j)=text.extract j K:=extract_all _ _ (UF text s2).symm;by_cases hw:Ud (text.extract j K)=true
  .rw[Y5 hw]at h;simp only[Except.ok.injEq,Prod.mk.injEq]at h;obtain⟨rfl,rfl⟩:=h;refine⟨F,s2,rfl,by simp,YH (Z7m hl),I,?_⟩;unfold iq;rw[g,Y5 hl];simp only[y,J];rw[Y5 hw]
  .rw[Y3 hw]at h;by_cases yD:20<K-j;·rw[Y5 yD]at h;cases h
   .rw[Y3 yD]at h;simp only[Except.ok.injEq,Prod.mk.injEq]at h;obtain⟨rfl,rfl⟩:=h;refine⟨F,s2,rfl,by simp,YH (Z7m hl),I,?_⟩;unfold iq;rw[g,Y5 hl];simp only[y,J];rw[Y3 hw,Y3 Px]
 rw[Y3 hl]at h;by_cases hd:mE (Z5 text j)=true
 .rw[Y5 hd]at h;simp only at h;obtain⟨K,m⟩:∃K,Zh mE text (text.size-j) j=K:=⟨_,rfl⟩
  rw[m]at h;obtain⟨s1,s2,u,s4⟩:=TQ mE text (text.size-j) j (Y0 _) Px;have y:=Za0 mE text Z m;rw[m]at s1 s2 u s4;have F:j<K:=by
   rcases Nat.lt_or_ge j K with h'|h';·exact h'
   .have:=s4 Px;rw[show K=j by omega,hd]at this;cases this
  have g:Z5 (text.extract j K) 0=Z5 text j:=Rm
  have I:=YH (Z91 (u (K-1) Px Px));have pX:=Zrl text (j:=j) s2 (K-j) j 0 (Y0 _);rw[Nat.sub_self]at pX;by_cases h1:10<K-j\/(1<K-j/\Z5 text j=48);·rw[Y5 h1]at h;cases h
  rw[Y3 h1]at h;by_cases X:1000000000<iw text K (K-j) j 0;·rw[Y5 X]at h;cases h
  rw[Y3 X]at h;simp only[Except.ok.injEq,Prod.mk.injEq]at h;obtain⟨rfl,rfl⟩:=h;refine⟨F,s2,rfl,by simp,YH (Z91 hd),I,?_⟩;unfold iq;rw[g,Y3 hl,Y5 hd];simp only[y];simp only[Nat.sub_zero,pX];rw[Y3 h1,Y3 X]
 rw[Y3 hd]at h;by_cases hq:Z5 text j=39
 .rw[Y5 hq]at h;obtain⟨⟨bs,e,K⟩,hR⟩:∃R,R=BN text (j+1):=⟨_,rfl⟩
  rw[<-hR]at h;simp only at h;by_cases h4:e=4;·rw[Y5 h4]at h;cases h
  rw[Y3 h4]at h;by_cases O:e≠0;·rw[Y5 O]at h;cases h
  rw[Y3 O]at h;simp only[ne_eq,Decidable.not_not]at O;subst O;simp only[Except.ok.injEq,Prod.mk.injEq]at h;obtain⟨rfl,rfl⟩:=h;obtain⟨g1,p,U,Y⟩:=Zhm text (j:=j) _ _ _ _ _ Px hR.symm;refine⟨by omega,p,rfl,by simp,by rw[hq];rfl,by rw[U];rfl,?_⟩;have g:Z5 (text.extract j K) 0=Z5 text j:=by rw[Zk text Px p,Nat.add_zero]
  have DE:BN (text.extract j K) (0+1)=(bs,0,K-j):=by
   have:=Y ((text.extract j K).size+1-(0+1)) (by rw[UF text p];omega);rw[show j+1-j=0+1 by omega]at this;exact this
  unfold iq;rw[g,Y3 hl,Y3 hd,Y5 hq,DE];simp
 rw[Y3 hq]at h;by_cases hs:Zl text j=1/\Ua (Z5 text j)=false;·rw[Y5 hs]at h;cases h
 rw[Y3 hs]at h;simp only[Except.ok.injEq,Prod.mk.injEq]at h;obtain⟨rfl,rfl⟩:=h;obtain⟨g1,p,U,Y,g5,g6⟩:=Zgj text j (λe=>by
  cases hb:Ua (Z5 text j)with
  |true=>rfl
  |false=>exact absurd ⟨e,hb⟩ hs)
 refine⟨by omega,p,rfl,by simp,U j (Y0 _) Px,U _ Px Px,?_⟩;have J:(text.extract j (j+Zl text j)).extract 0 (0+Zl text j)=text.extract j (j+Zl text j):=extract_all _ _ (by rw[UF text p];omega);unfold iq;rw[g6,Y3 hl,Y3 hd,Y3 hq,Y,Y3 hs,J];simp
def Sk(text:kB):Nat->List Tok->Prop
 |_,[]=>False
 |i,[t]=>text.size<=Zh mF text (text.size-i) i/\t=⟨6,ByteArray.empty,0,Zh mF text (text.size-i) i⟩
 |i,t::u::l=>∃k,Zh mF text (text.size-i) i<text.size/\iq text (Zh mF text (text.size-i) i)=.ok (t,k)/\Sk text k (u::l)
def Zkg(text:kB):∀(f i:Nat) (g l:List Tok),i<=text.size->text.size-i<f->sL text f i g=.ok l->∃r,l=g++r/\Sk text i r:=by
 intro f;induction f with
 |zero=>intro i g l _ F;omega
 |succ f y=>
   intro i g l hi hf h;simp only[sL]at h;obtain⟨s1,I,_,_⟩:=TQ mF text (text.size-i) i (Y0 _) hi;by_cases m:text.size<=Zh mF text (text.size-i) i
   .rw[Y5 m]at h;simp only[Except.ok.injEq]at h;exact⟨_,h.symm,m,rfl⟩
   .rw[Y3 m]at h;cases ht:iq text (Zh mF text (text.size-i) i)with
    |error e=>rw[ht]at h;cases h
    |ok x=>
      obtain⟨t,k⟩:=x;rw[ht]at h;simp only at h;obtain⟨c1,c2,_,_,_,_,_⟩:=VB text Px ht;obtain⟨r,hr,p⟩:=y k _ l c2 Px h;refine⟨t::r,by simp[hr],?_⟩;cases r with
      |nil=>exact p.elim
      |cons u r=>exact⟨k,by omega,ht,p⟩
def Zet(text:kB):∀(r:List Tok) (f i:Nat) (m:List Tok),i<=text.size->text.size-i<f->Sk text i r->sL text f i m=.ok (m++r):=by
 intro r;induction r with
 |nil=>intro f i m _ _ h;exact h.elim
 |cons t r y=>
   intro f i m hi hf h;obtain⟨g,rfl⟩:∃g,f=g+1:=⟨f-1,by omega⟩
   obtain⟨s1,I,_,_⟩:=TQ mF text (text.size-i) i (Y0 _) hi;simp only[sL];cases r with
   |nil=>obtain⟨h1,p⟩:=h;rw[Y5 h1,p]
   |cons u r=>
     obtain⟨k,h1,p,F⟩:=h;rw[Y3 Px,p];simp only;obtain⟨c1,c2,_,_,_,_,_⟩:=VB text h1 p;rw[y g k _ c2 Px F];simp
def Z8e{text:kB}{l:List Tok}(h:Xz text=.ok l):Sk text 0 l:=by
 obtain⟨r,hr,g⟩:=Zkg text _ 0 [] l (Yh _) Px h;rw[hr];exact g
inductive Tree
 |mk(kind:Int)(text:kB)(n:Int)(kids:List Tree)
def Tree.kind:Tree->Int| .mk k _ _ _=>k
def Tree.text:Tree->kB| .mk _ t _ _=>t
def Tree.n:Tree->Int| .mk _ _ n _=>n
def Tree.kids:Tree->List Tree| .mk _ _ _ l=>l
abbrev PR:=Option (Except (Int×Nat) (Tree×List Tok))
def c9(ts:List Tok):Tok:=ts.headD ⟨6,ByteArray.empty,0,0⟩
def ak(s:kB)(ts:List Tok):Bool:=(decide ((c9 ts).kind=5)||decide ((c9 ts).kind=2))&&Zg (c9 ts).text s
def xn(e:Int)(ts:List Tok):PR:=some (.error (e,(c9 ts).at'))
def ir(t:Tree)(ts:List Tok):PR:=some (.ok (t,ts))
def lF(s:kB)(ts:List Tok)(k:List Tok->PR):PR:=if ak s ts then k ts.tail else xn 3 ts
def B6(ts:List Tok)(k:kB->List Tok->PR):PR:=if(c9 ts).kind=1 then k (c9 ts).text ts.tail else xn 3 ts
def Zq(p:PR)(k:Tree->List Tok->PR):PR:=match p with|none=>none|some (.error e)=>some (.error e)|some (.ok (t,ts))=>k t ts
def Ku:kB:=⟨#[123]⟩
def Zn:kB:=⟨#[125]⟩
def vV:kB:=⟨#[40]⟩
def s5:kB:=⟨#[41]⟩
def K5:kB:=⟨#[59]⟩
def x4:kB:=⟨#[44]⟩
def Xh:kB:=⟨#[58]⟩
def YP:kB:=⟨#[46]⟩
def iA:kB:=⟨#[61]⟩
def XO:kB:=⟨#[118,97,114]⟩
def WX:kB:=⟨#[108,101,116]⟩
def Yz:kB:=⟨#[99,111,110,115,116]⟩
def SF:kB:=⟨#[102,117,110,99,116,105,111,110]⟩
def L2:kB:=⟨#[105,102]⟩
def XS:kB:=⟨#[101,108,115,101]⟩
def XE:kB:=⟨#[119,104,105,108,101]⟩
def X0:kB:=⟨#[119,105,116,104]⟩
def YA:kB:=⟨#[114,101,116,117,114,110]⟩
def X5:kB:=⟨#[116,104,114,111,119]⟩
def Xe:kB:=⟨#[116,114,121]⟩
def V3:kB:=⟨#[99,97,116,99,104]⟩
def Ir:kB:=⟨#[102,105,110,97,108,108,121]⟩
def SY:kB:=⟨#[33]⟩
def TF:kB:=⟨#[116,121,112,101,111,102]⟩
def T6:kB:=⟨#[100,101,108,101,116,101]⟩
def TP:kB:=⟨#[116,114,117,101]⟩
def Un:kB:=⟨#[102,97,108,115,101]⟩
def Vg:kB:=⟨#[110,117,108,108]⟩
def Vw:kB:=⟨#[117,110,100,101,102,105,110,101,100]⟩
def Hs:kB:=⟨#[124,124]⟩
def V0:kB:=⟨#[38,38]⟩
def Wc:kB:=⟨#[61,61,61]⟩
def Vt:kB:=⟨#[60]⟩
def U5:kB:=⟨#[43]⟩
def Vn:kB:=⟨#[45]⟩
def V5:kB:=⟨#[42]⟩
def WJ:kB:=⟨#[117,115,101,32,115,116,114,105,99,116]⟩
def Cw:kB:=⟨#[115,116,114,105,99,116]⟩
def Up(l:List Tree):Bool:=
 match l with
 | .mk k _ _ (x::_)::_=>decide (k=15)&&decide (x.kind=18)&&Zg x.text WJ
 |_=>false
def Dc(g:Nat)(ts:List Tok):Int:=
 match g with
 |0=>if ak Hs ts then 25 else 0
 |1=>if ak V0 ts then 26 else 0
 |2=>if ak Wc ts then 27 else 0
 |3=>if ak Vt ts then 28 else 0
 |4=>if ak U5 ts then 29 else if ak Vn ts then 30 else 0
 |5=>if ak V5 ts then 31 else 0
 |_=>0
def Oh(ts:List Tok):Int:=if ak SY ts then 32 else if ak TF ts then 33 else if ak T6 ts then 34 else 0
def Sq(ts:List Tok):Int:=if ak TP ts then 19 else if ak Un ts then 20 else if ak Vg ts then 21 else if ak Vw ts then 22 else 0
inductive Job
 |stmts(kind:Int)(aj:List Tree)
 |block(body:Bool)
 |func(kind:Int)(text:kB)
 |params(aj:List Tree)
 |around
 |stmt
 |decl(kind:Int)(gE:Bool)
 |try_
 |value
 |assign
 |bin(aV:Nat)
 |binLoop(aV:Nat)(x:Tree)
 |unary
 |postfix_
 |postLoop(x:Tree)
 |args(aj:List Tree)
 |primary
 |object(aj:List Tree)
def wP(n:Tree)(ts:List Tok):PR:=lF K5 ts λts=>ir n ts
def x6(d:Nat)(ts:List Tok)(p:PR):PR:=if 30<d+1 then xn 4 ts else p
def Z2:Nat→Job→Nat→List Tok→PR
 |0,_,_,_=>none
 |f+1,.stmts kind g,d,ts=>
   if(if kind=1 then decide ((c9 ts).kind=6)else ak Zn ts)then ir (.mk kind (if Up g then Cw else ByteArray.empty) 0 g) ts
   else Zq (x6 d ts (Z2 f .stmt (d+1) ts)) λx ts=>Z2 f (.stmts kind (g++[x])) d ts
 |f+1,.block body,d,ts=>
   lF Ku ts λts=>Zq (Z2 f (.stmts 6 []) d ts) λx ts=>lF Zn ts λts=>ir (if body then x else .mk 6 ByteArray.empty 0 x.kids) ts
 |f+1,.func kind text,d,ts=>
   lF vV ts λts=>Zq (Z2 f (.params []) d ts) λp ts=>lF s5 ts λts=>Zq (Z2 f (.block true) d ts) λb ts=>ir (.mk kind text 0 [p,b]) ts
 |f+1,.params g,d,ts=>
   if ak s5 ts then ir (.mk 40 ByteArray.empty 0 g) ts
   else(if 0<g.length then lF x4 ts else λk=>k ts) λts=>
    if g.length=8 then xn 4 ts else B6 ts λs ts=>Z2 f (.params (g++[.mk 23 s 0 []])) d ts
 |f+1,.around,d,ts=>
   lF vV ts λts=>Zq (Z2 f .value d ts) λx ts=>lF s5 ts λts=>ir x ts
 |f+1,.stmt,d,ts=>
   if ak Ku ts then Z2 f (.block false) d ts
   else if ak K5 ts then ir (.mk 16 ByteArray.empty 0 []) ts.tail
   else if ak XO ts then Zq (Z2 f (.decl 2 false) d ts.tail) wP
   else if ak WX ts then Zq (Z2 f (.decl 3 false) d ts.tail) wP
   else if ak Yz ts then Zq (Z2 f (.decl 4 true) d ts.tail) wP
   else if ak SF ts then B6 ts.tail λs ts=>Z2 f (.func 5 s) d ts
   else if ak L2 ts then
    Zq (Z2 f .around d ts.tail) λx ts=>Zq (x6 d ts (Z2 f .stmt (d+1) ts)) λy ts=>
     if ak XS ts then Zq (x6 d ts.tail (Z2 f .stmt (d+1) ts.tail)) λz ts=>ir (.mk 7 ByteArray.empty 0 [x,y,z]) ts
     else ir (.mk 7 ByteArray.empty 0 [x,y]) ts
   else if ak XE ts then
    Zq (Z2 f .around d ts.tail) λx ts=>Zq (x6 d ts (Z2 f .stmt (d+1) ts)) λy ts=>ir (.mk 8 ByteArray.empty 0 [x,y]) ts
   else if ak X0 ts then
    Zq (Z2 f .around d ts.tail) λx ts=>Zq (x6 d ts (Z2 f .stmt (d+1) ts)) λy ts=>ir (.mk 9 ByteArray.empty 0 [x,y]) ts
   else if ak YA ts then
    if ak K5 ts.tail then wP (.mk 10 ByteArray.empty 0 []) ts.tail
    else Zq (Z2 f .value d ts.tail) λx ts=>wP (.mk 10 ByteArray.empty 0 [x]) ts
   else if ak X5 ts then Zq (Z2 f .value d ts.tail) λx ts=>wP (.mk 11 ByteArray.empty 0 [x]) ts
   else if ak Xe ts then Z2 f .try_ d ts.tail
   else Zq (Z2 f .value d ts) λx ts=>wP (.mk 15 ByteArray.empty 0 [x]) ts
 |f+1,.decl kind u,d,ts=>
   B6 ts λs ts=>
    if u&& !ak iA ts then xn 3 ts
    else if ak iA ts then Zq (Z2 f .value d ts.tail) λx ts=>ir (.mk kind s 0 [x]) ts
    else ir (.mk kind s 0 []) ts
 |f+1,.try_,d,ts=>
   Zq (Z2 f (.block false) d ts) λb ts=>
    (fun (k : List Tree → List Tok → PR) =>
     if ak V3 ts then lF vV ts.tail λts=>B6 ts λs ts=>lF s5 ts λts=>Zq (Z2 f (.block false) d ts) λc ts=>k [b,.mk 13 s 0 [c]] ts
     else k [b] ts) λl ts=>
    if ak Ir ts then Zq (Z2 f (.block false) d ts.tail) λc ts=>ir (.mk 12 ByteArray.empty 0 (l++[.mk 14 ByteArray.empty 0 [c]])) ts
    else if l.length=1 then xn 3 ts else ir (.mk 12 ByteArray.empty 0 l) ts
 |f+1,.value,d,ts=>x6 d ts (Z2 f .assign (d+1) ts)
 |f+1,.assign,d,ts=>
   Zq (Z2 f (.bin 0) d ts) λx ts'=>
    if ak iA ts' then
     if x.kind=23\/x.kind=36 then Zq (Z2 f .value d ts'.tail) λy ts=>ir (.mk 24 ByteArray.empty 0 [x,y]) ts
     else some (.error (1,(c9 ts).at'))
    else ir x ts'
 |f+1,.bin m,d,ts=>
   if 6<=m then Z2 f .unary d ts
   else Zq (Z2 f (.bin (m+1)) d ts) λx ts=>Z2 f (.binLoop m x) d ts
 |f+1,.binLoop m x,d,ts=>
   if Dc m ts=0 then ir x ts
   else Zq (Z2 f (.bin (m+1)) d ts.tail) λy ts'=>Z2 f (.binLoop m (.mk (Dc m ts) ByteArray.empty 0 [x,y])) d ts'
 |f+1,.unary,d,ts=>
   if Oh ts=0 then Z2 f .postfix_ d ts
   else Zq (x6 d ts.tail (Z2 f .unary (d+1) ts.tail)) λx ts'=>ir (.mk (Oh ts) ByteArray.empty 0 [x]) ts'
 |f+1,.postfix_,d,ts=>Zq (Z2 f .primary d ts) λx ts=>Z2 f (.postLoop x) d ts
 |f+1,.postLoop x,d,ts=>
   if ak YP ts then B6 ts.tail λs ts=>Z2 f (.postLoop (.mk 36 s 0 [x])) d ts
   else if ak vV ts then Zq (Z2 f (.args [x]) d ts.tail) λn ts=>Z2 f (.postLoop n) d ts
   else ir x ts
 |f+1,.args g,d,ts=>
   if ak s5 ts then ir (.mk 35 ByteArray.empty 0 g) ts.tail
   else(if 1<g.length then lF x4 ts else λk=>k ts) λts=>
    if 8<g.length then xn 4 ts else Zq (Z2 f .value d ts) λv ts=>Z2 f (.args (g++[v])) d ts
 |f+1,.primary,d,ts=>
   if(c9 ts).kind=1 then ir (.mk 23 (c9 ts).text 0 []) ts.tail
   else if(c9 ts).kind=3 then ir (.mk 17 ByteArray.empty (c9 ts).n []) ts.tail
   else if(c9 ts).kind=4 then ir (.mk 18 (c9 ts).text 0 []) ts.tail
   else if Sq ts≠0 then ir (.mk (Sq ts) ByteArray.empty 0 []) ts.tail
   else if ak vV ts then Z2 f .around d ts
   else if ak SF ts then
    if(c9 ts.tail).kind=1 then Z2 f (.func 37 (c9 ts.tail).text) d ts.tail.tail
    else Z2 f (.func 37 ByteArray.empty) d ts.tail
   else if ak Ku ts then Z2 f (.object []) d ts.tail
   else xn 3 ts
 |f+1,.object g,d,ts=>
   if ak Zn ts then ir (.mk 38 ByteArray.empty 0 g) ts.tail
   else(if 0<g.length then lF x4 ts else λk=>k ts) λts=>
    if g.length=8 then xn 4 ts
    else B6 ts λs ts=>lF Xh ts λts=>Zq (Z2 f .value d ts) λv ts=>Z2 f (.object (g++[.mk 39 s 0 [v]])) d ts
mutual
def Tree.many:Tree->Nat
 | .mk _ _ _ l=>qc l+1
def qc:List Tree->Nat
 | []=>0
 |t::l=>t.many+qc l
end
def Zm{s:kB}{ts:List Tok}(h:ak s ts=true):ts.tail.length<ts.length:=by
 cases ts with
 |nil=>simp[ak,c9]at h
 |cons t l=>simp
theorem Zv(ts:List Tok):ts.tail.length<=ts.length:=by cases ts<;>simp
def Z6m{ts:List Tok}(h:(c9 ts).kind≠6):ts.tail.length<ts.length:=by
 cases ts with
 |nil=>simp[c9]at h
 |cons t l=>simp
def Leaves(n:Nat)(p:PR):Prop:=∀t ts,p=some (.ok (t,ts))->ts.length<n
theorem Leaves.fail{n:Nat}{e:Int}{ts:List Tok}:Leaves n (xn e ts):=by intro t ts' h;cases h
theorem Leaves.none{n:Nat}:Leaves n none:=by intro t ts' h;cases h
theorem Leaves.err{n:Nat}{e:Int×Nat}:Leaves n (some (.error e)):=by intro t ts' h;cases h
theorem Leaves.ok{n:Nat}{t:Tree}{ts:List Tok}(h:ts.length<n):Leaves n (ir t ts):=by
 intro t' ts' g;simp only[ir,Option.some.injEq,Except.ok.injEq,Prod.mk.injEq]at g;rw[<-g.2];exact h
def Leaves.bind{n m:Nat}{p:PR}{k:Tree->List Tok->PR}(hp:Leaves m p)(hk:∀t ts,ts.length<m->Leaves n (k t ts)):Leaves n (Zq p k):=by
 cases p with
 |none=>exact Leaves.none
 |some r=>
   cases r with
   |error e=>exact Leaves.err
   |ok x=>obtain⟨t,ts⟩:=x;exact hk t ts (hp t ts rfl)
def Leaves.want{n:Nat}{s:kB}{ts:List Tok}{k:List Tok->PR}(hk:ts.tail.length<ts.length->Leaves n (k ts.tail)):Leaves n (lF s ts k):=by
 unfold lF;by_cases h:ak s ts=true;·rw[Y5 h];exact hk (Zm h)
 .rw[Y3 h];exact Leaves.fail
def Leaves.name{n:Nat}{ts:List Tok}{k:kB->List Tok->PR}(hk:∀s,ts.tail.length<ts.length->Leaves n (k s ts.tail)):Leaves n (B6 ts k):=by
 unfold B6;by_cases h:(c9 ts).kind=1;·exact Zv7
 .rw[Y3 h];exact Leaves.fail
def Leaves.within{n d:Nat}{ts:List Tok}{p:PR}(h:Leaves n p):Leaves n (x6 d ts p):=by
 unfold x6;by_cases g:30<d+1;·rw[Y5 g];exact Leaves.fail
 .rw[Y3 g];exact h
def Leaves.ite{n:Nat}{c:Prop} [Decidable c]{p q:PR}(hp:c->Leaves n p)(hq:¬c->Leaves n q):Leaves n (if c then p else q):=by
 exact Zrj
def Leaves.comma{n:Nat}{c:Prop} [Decidable c]{ts:List Tok}{k:List Tok->PR}(hk:∀ts',ts'.length<=ts.length->Leaves n (k ts')):Leaves n ((if c then lF x4 ts else λk=>k ts) k):=by
 by_cases h:c;·rw[Y5 h];exact Leaves.want λg=>hk _ Px
 .rw[Y3 h];exact hk _ (Y0 _)
def Job.least:Job->Nat
 | .stmts ..=>1
 | .params ..=>1
 | .binLoop ..=>1
 | .postLoop ..=>1
 |_=>0
def XK:∀(f:Nat) (p:Job) (d:Nat) (ts:List Tok),Leaves (ts.length+p.least) (Z2 f p d ts):=by
 intro f;induction f with
 |zero=>intro p d ts;unfold Z2;exact Leaves.none
 |succ f g=>
   intro p d ts;have m:∀{n:Nat} {p:Job} (d:Nat) (ts:List Tok),ts.length+p.least<=n->Leaves n (Z2 f p d ts):=λd ts h t ts' e=>Y7 (g _ d ts t ts' e) h;cases p with
   |stmts kind F=>
     unfold Z2;refine Leaves.ite (λ_=>Leaves.ok Qn) λ_=>?_;exact Leaves.bind (Leaves.within (g .stmt _ _)) λt ts' h=>m _ _ PG
   |block body=>
     unfold Z2;refine Leaves.want λh=>?_;refine Leaves.bind (g (.stmts 6 []) _ _) λt ts' J=>?_;refine Leaves.want λU=>Leaves.ok ?_;simp only[Job.least]at *;omega
   |func kind text=>
     unfold Z2;refine Leaves.want λh=>Leaves.bind (g (.params []) _ _) λt ts' J=>Leaves.want λh2=>Leaves.bind (g (.block true) _ _) λt ts' h3=>Leaves.ok ?_;simp only[Job.least]at *;omega
   |params F=>
     unfold Z2;refine Leaves.ite (λ_=>Leaves.ok Qn) λ_=>?_;refine Leaves.comma λts' h=>Leaves.ite (λ_=>Leaves.fail) λ_=>Leaves.name λs h2=>m _ _ ?_;simp only[Job.least]at *;omega
   |around=>
     unfold Z2;refine Leaves.want λh=>Leaves.bind (g .value _ _) λt ts' J=>Leaves.want λh2=>Leaves.ok ?_;simp only[Job.least]at *;omega
   |stmt=>
     unfold Z2;have u:∀(n:Tree) (us:List Tok),us.length<=ts.length->Leaves (ts.length+Job.stmt.least) (wP n us):=λn us h=>Leaves.want λh2=>Leaves.ok PG;have O:=Zv ts;refine Leaves.ite (λh=>m _ _ Qn) λ_=>?_;refine Leaves.ite (λh=>Leaves.ok Qt) λ_=>?_;refine Leaves.ite (λh=>Leaves.bind (g (.decl 2 false) _ _) λt us h2=>u _ _ PG) λ_=>?_
     refine Leaves.ite (λh=>Leaves.bind (g (.decl 3 false) _ _) λt us h2=>u _ _ PG) λ_=>?_;refine Leaves.ite (λh=>Leaves.bind (g (.decl 4 true) _ _) λt us h2=>u _ _ PG) λ_=>?_;refine Leaves.ite (λh=>Leaves.name λs h2=>m _ _ PG) λ_=>?_
     refine Leaves.ite (λh=>Leaves.bind (g .around _ _) λt us h2=>Leaves.bind (Leaves.within (g .stmt _ _)) λt vs h3=>Leaves.ite (λh4=>Leaves.bind (Leaves.within (g .stmt _ _)) λt xs h5=>Leaves.ok (by have:=Zv vs;simp only[Job.least]at *;omega)) (λ_=>Leaves.ok PG)) λ_=>?_;refine Leaves.ite (λh=>Leaves.bind (g .around _ _) λt us h2=>Leaves.bind (Leaves.within (g .stmt _ _)) λt vs h3=>Leaves.ok PG) λ_=>?_
     refine Leaves.ite (λh=>Leaves.bind (g .around _ _) λt us h2=>Leaves.bind (Leaves.within (g .stmt _ _)) λt vs h3=>Leaves.ok PG) λ_=>?_;refine Leaves.ite (λh=>Leaves.ite (λh1=>u _ _ O) (λ_=>Leaves.bind (g .value _ _) λt us h2=>u _ _ PG)) λ_=>?_;refine Leaves.ite (λh=>Leaves.bind (g .value _ _) λt us h2=>u _ _ PG) λ_=>?_;refine Leaves.ite (λh=>m _ _ PG) λ_=>?_
     exact Leaves.bind (g .value _ _) λt us h2=>u _ _ PG
   |decl kind X=>
     unfold Z2;refine Leaves.name λs h=>Leaves.ite (λ_=>Leaves.fail) λ_=>Leaves.ite (λh2=>Leaves.bind (g .value _ _) λt us h3=>Leaves.ok ?_) λ_=>Leaves.ok ?_;·have:=Zv ts.tail;simp only[Job.least]at *;omega
     .simp only[Job.least]at *;omega
   |try_=>
     unfold Z2;refine Leaves.bind (g (.block false) _ _) λb us h=>?_;have hk:∀(l:List Tree) (vs:List Tok),vs.length<=us.length->Leaves (ts.length+Job.try_.least) (if ak Ir vs then Zq (Z2 f (.block false) d vs.tail) λc ts=>ir (.mk 12 ByteArray.empty 0 (l++[.mk 14 ByteArray.empty 0 [c]])) ts else if l.length=1 then xn 3 vs else ir (.mk 12 ByteArray.empty 0 l) vs):=by
      intro l vs h2;have:=Zv vs;refine Leaves.ite (λ_=>Leaves.bind (g (.block false) _ _) λt xs h3=>Leaves.ok ?_) λ_=>Leaves.ite (λ_=>Leaves.fail) λ_=>Leaves.ok ?_;·simp only[Job.least]at *;omega
      .simp only[Job.least]at *;omega
     refine Leaves.ite (λh1=>?_) λ_=>hk _ _ (Y0 _);refine Leaves.want λh2=>Leaves.name λs h3=>Leaves.want λh4=>Leaves.bind (g (.block false) _ _) λc vs h5=>hk _ _ ?_;have:=Zv us;simp only[Job.least]at *;omega
   |value=>unfold Z2;exact Leaves.within (m _ _ Qn)
   |assign=>
     unfold Z2;refine Leaves.bind (g (.bin 0) _ _) λx us h=>Leaves.ite (λh1=>Leaves.ite (λ_=>Leaves.bind (g .value _ _) λy vs h2=>Leaves.ok ?_) λ_=>Leaves.err) λ_=>Leaves.ok ?_;·have:=Zv us;simp only[Job.least]at *;omega
     .simp only[Job.least]at *;omega
   |bin I=>
     unfold Z2;refine Leaves.ite (λ_=>m _ _ Qn) λ_=>Leaves.bind (g (.bin (I+1)) _ _) λx us h=>m _ _ ?_;simp only[Job.least]at *;omega
   |binLoop I x=>
     unfold Z2;refine Leaves.ite (λ_=>Leaves.ok Qn) λ_=>Leaves.bind (g (.bin (I+1)) _ _) λy us h=>m _ _ ?_;have:=Zv ts;simp only[Job.least]at *;omega
   |unary=>
     unfold Z2;refine Leaves.ite (λ_=>m _ _ Qn) λ_=>Leaves.bind (Leaves.within (g .unary _ _)) λy us h=>Leaves.ok ?_;have:=Zv ts;simp only[Job.least]at *;omega
   |postfix_=>
     unfold Z2;refine Leaves.bind (g .primary _ _) λy us h=>m _ _ ?_;simp only[Job.least]at *;omega
   |postLoop x=>
     unfold Z2;have:=Zv ts;refine Leaves.ite (λ_=>Leaves.name λs h=>m _ _ PG) λ_=>Leaves.ite (λ_=>Leaves.bind (g (.args [x]) _ _) λy us h=>m _ _ PG) λ_=>Leaves.ok Qn
   |args F=>
     unfold Z2;refine Leaves.ite (λh=>Leaves.ok Qt) λ_=>Leaves.comma λus h=>Leaves.ite (λ_=>Leaves.fail) λ_=>Leaves.bind (g .value _ _) λy vs h2=>m _ _ PG
   |primary=>
     unfold Z2;have:=Zv ts;have:=Zv ts.tail;refine Leaves.ite (λh=>Leaves.ok P') λ_=>?_;refine Leaves.ite (λh=>Leaves.ok P') λ_=>?_;refine Leaves.ite (λh=>Leaves.ok P') λ_=>?_;refine Leaves.ite (λh=>Leaves.ok ?_) λ_=>?_
     .have:ts.tail.length<ts.length:=by
       exact Aa'
      simp only[Job.least]at *;omega
     refine Leaves.ite (λ_=>m _ _ Qn) λ_=>?_;refine Leaves.ite (λ_=>Leaves.ite (λ_=>m _ _ PG) λ_=>m _ _ PG) λ_=>?_;exact Leaves.ite (λ_=>m _ _ PG) λ_=>Leaves.fail
   |object F=>
     unfold Z2;refine Leaves.ite (λh=>Leaves.ok Qt) λ_=>Leaves.comma λus h=>Leaves.ite (λ_=>Leaves.fail) λ_=>Leaves.name λs h1=>Leaves.want λh2=>Leaves.bind (g .value _ _) λy vs h2=>m _ _ PG
def Job.rank:Job->Nat
 | .stmts ..=>30
 | .block _=>5
 | .func ..=>1
 | .params _=>1
 | .around=>1
 | .stmt=>20
 | .decl ..=>1
 | .try_=>6
 | .value=>19
 | .assign=>18
 | .bin g=>10+(6-g)
 | .binLoop ..=>31
 | .unary=>9
 | .postfix_=>8
 | .postLoop _=>31
 | .args _=>31
 | .primary=>7
 | .object _=>31
def Z8(p:PR):Prop:=p≠none
theorem Z8.fail{e:Int}{ts:List Tok}:Z8 (xn e ts):=by simp[Z8,xn]
theorem Z8.ok{t:Tree}{ts:List Tok}:Z8 (ir t ts):=by simp[Z8,ir]
def Z8.bind{p:PR}{k:Tree->List Tok->PR}{n:Nat}(hp:Z8 p)(hl:Leaves n p)(hk:∀t ts,ts.length<n->Z8 (k t ts)):Z8 (Zq p k):=by
 cases p with
 |none=>exact absurd rfl hp
 |some r=>
   cases r with
   |error e=>simp[Z8,Zq]
   |ok x=>obtain⟨t,ts⟩:=x;exact hk t ts (hl t ts rfl)
def Z8.want{s:kB}{ts:List Tok}{k:List Tok->PR}(hk:ts.tail.length<ts.length->Z8 (k ts.tail)):Z8 (lF s ts k):=by
 unfold lF;by_cases h:ak s ts=true;·rw[Y5 h];exact hk (Zm h)
 .rw[Y3 h];exact Z8.fail
def Z8.name{ts:List Tok}{k:kB->List Tok->PR}(hk:∀s,ts.tail.length<ts.length->Z8 (k s ts.tail)):Z8 (B6 ts k):=by
 unfold B6;by_cases h:(c9 ts).kind=1;·exact Zv7
 .rw[Y3 h];exact Z8.fail
def Z8.within{d:Nat}{ts:List Tok}{p:PR}(h:Z8 p):Z8 (x6 d ts p):=by
 unfold x6;by_cases g:30<d+1;·rw[Y5 g];exact Z8.fail
 .rw[Y3 g];exact h
def Z8.ite{c:Prop} [Decidable c]{p q:PR}(hp:c->Z8 p)(hq:¬c->Z8 q):Z8 (if c then p else q):=by
 exact Zrj
def Z8.comma{c:Prop} [Decidable c]{ts:List Tok}{k:List Tok->PR}(hk:∀ts',ts'.length<=ts.length->Z8 (k ts')):Z8 ((if c then lF x4 ts else λk=>k ts) k):=by
 by_cases h:c;·rw[Y5 h];exact Z8.want λg=>hk _ Px
 .rw[Y3 h];exact hk _ (Y0 _)
def Zb5{ts:List Tok}(h:¬Oh ts=0):ts.tail.length<ts.length:=by
 unfold Oh at h;by_cases h1:ak SY ts=true;·exact Zm h1
 .by_cases g:ak TF ts=true;·exact Zm g
  .by_cases m:ak T6 ts=true;·exact Zm m
   .simp[h1,g,m]at h
def Z7o{m:Nat}{ts:List Tok}(h:¬Dc m ts=0):ts.tail.length<ts.length:=by
 have g:∀{s:kB} {x y:Int},¬(if ak s ts then x else y)=0->¬y=0\/ts.tail.length<ts.length:=by
  intro s x y h;by_cases h1:ak s ts=true;·exact .inr (Zm h1)
  .rw[Y3 h1]at h;exact .inl h
 unfold Dc at h;split at h
 all_goals first
  |exact absurd rfl h
  |(rcases g h with h|h;(exact absurd rfl h);exact h)
  |(rcases g h with h|h;(rcases g h with h|h;(exact absurd rfl h);exact h);exact h)
def Zk8:∀(f:Nat) (m:Job) (d:Nat) (ts:List Tok),40*ts.length+m.rank<f->Z8 (Z2 f m d ts):=by
 intro f;induction f with
 |zero=>intro m d ts h;omega
 |succ f ih=>
   intro m d ts hf;have L:=XK f;have J:=Zv ts;cases m with
   |stmts kind u=>
     unfold Z2;refine Z8.ite (λ_=>Z8.ok) λ_=>Z8.bind (n:=ts.length) (Z8.within (ih _ _ _ PD)) (Leaves.within (L .stmt _ _)) λt us h=>ih _ _ _ PD
   |block body=>
     exact Zzz
   |func kind text=>
     unfold Z2;refine Z8.want λh=>Z8.bind (ih _ _ _ PD) (L (.params []) _ _) λt us h=>Z8.want λh2=>Z8.bind (ih _ _ _ PK) (L _ _ _) λt us h=>Z8.ok
   |params u=>
     unfold Z2;refine Z8.ite (λ_=>Z8.ok) λ_=>Z8.comma λus h=>Z8.ite (λ_=>Z8.fail) λ_=>Z8.name λs h2=>ih _ _ _ PD
   |around=>
     exact Zzz
   |stmt=>
     unfold Z2;have g:∀(n:Tree) (us:List Tok),Z8 (wP n us):=λn us=>Z8.want λh2=>Z8.ok;refine Z8.ite (λh=>ih _ _ _ PD) λ_=>?_;refine Z8.ite (λh=>Z8.ok) λ_=>?_;refine Z8.ite (λh=>Z8.bind (ih _ _ _ PD) (L _ _ _) λt us h2=>g _ _) λ_=>?_;refine Z8.ite (λh=>Z8.bind (ih _ _ _ PD) (L _ _ _) λt us h2=>g _ _) λ_=>?_
     refine Z8.ite (λh=>Z8.bind (ih _ _ _ PD) (L _ _ _) λt us h2=>g _ _) λ_=>?_;refine Z8.ite (λh=>Z8.name λs h2=>ih _ _ _ PD) λ_=>?_;refine Z8.ite (λh=>?_) λ_=>?_
     .have:=Zm h;refine Z8.bind (ih _ _ _ PD) (L .around _ _) λt us h2=>?_;refine Z8.bind (Z8.within (ih _ _ _ PK)) (Leaves.within (L .stmt _ _)) λt vs h3=>?_;have:=Zv vs;exact Z8.ite (λI=>Z8.bind (Z8.within (ih _ _ _ PK)) (Leaves.within (L .stmt _ _)) λt xs h5=>Z8.ok) λ_=>Z8.ok
     refine Z8.ite (λh=>?_) λ_=>?_;·exact Acu
     refine Z8.ite (λh=>?_) λ_=>?_;·exact Acu
     refine Z8.ite (λh=>Z8.ite (λh1=>g _ _) λ_=>Z8.bind (ih _ _ _ PD) (L _ _ _) λt us h2=>g _ _) λ_=>?_;refine Z8.ite (λh=>Z8.bind (ih _ _ _ PD) (L _ _ _) λt us h2=>g _ _) λ_=>?_;refine Z8.ite (λh=>ih _ _ _ PD) λ_=>?_;exact Z8.bind (ih _ _ _ PD) (L _ _ _) λt us h2=>g _ _
   |decl kind O=>
     unfold Z2;refine Z8.name λs h=>Z8.ite (λ_=>Z8.fail) λ_=>Z8.ite (λh2=>Z8.bind (ih _ _ _ ?_) (L _ _ _) λt us h3=>Z8.ok) λ_=>Z8.ok;have:=Zv ts.tail;simp only[Job.rank]at *;omega
   |try_=>
     unfold Z2;refine Z8.bind (ih _ _ _ PD) (L (.block false) _ _) λb us h=>?_;have hk:∀(l:List Tree) (vs:List Tok),vs.length<=us.length->Z8 (if ak Ir vs then Zq (Z2 f (.block false) d vs.tail) λc ts=>ir (.mk 12 ByteArray.empty 0 (l++[.mk 14 ByteArray.empty 0 [c]])) ts else if l.length=1 then xn 3 vs else ir (.mk 12 ByteArray.empty 0 l) vs):=by
      intro l vs h2;have:=Zv vs;exact Z8.ite (λ_=>Z8.bind (ih _ _ _ PK) (L _ _ _) λt xs h3=>Z8.ok) λ_=>Z8.ite (λ_=>Z8.fail) λ_=>Z8.ok
     refine Z8.ite (λh1=>?_) λ_=>hk _ _ (Y0 _);have:=Zv us;refine Z8.want λh2=>Z8.name λs h3=>Z8.want λI=>Z8.bind (ih _ _ _ PK) (L (.block false) _ _) λc vs h5=>hk _ _ ?_;simp only[Job.least]at *;omega
   |value=>unfold Z2;exact Z8.within (ih _ _ _ PD)
   |assign=>
     unfold Z2;refine Z8.bind (ih _ _ _ PD) (L (.bin 0) _ _) λx us h=>Z8.ite (λh1=>Z8.ite (λ_=>Z8.bind (ih _ _ _ ?_) (L _ _ _) λy vs h2=>Z8.ok) λ_=>by simp[Z8]) λ_=>Z8.ok;have:=Zv us;simp only[Job.rank,Job.least]at *;omega
   |bin F=>
     unfold Z2;refine Z8.ite (λh=>ih _ _ _ PD) λh=>Z8.bind (ih _ _ _ PD) (L (.bin (F+1)) _ _) λx us h=>ih _ _ _ PK
   |binLoop F x=>
     unfold Z2;refine Z8.ite (λ_=>Z8.ok) λp=>Z8.bind (ih _ _ _ ?_) (L (.bin (F+1)) _ _) λy us h=>ih _ _ _ ?_;·have:=Z7o p;simp only[Job.rank]at *;omega
     .have:=Z7o p;simp only[Job.rank,Job.least]at *;omega
   |unary=>
     unfold Z2;refine Z8.ite (λ_=>ih _ _ _ PD) λp=>Z8.bind (Z8.within (ih _ _ _ ?_)) (Leaves.within (L _ _ _)) λy us h=>Z8.ok;have:=Zb5 p;simp only[Job.rank]at *;omega
   |postfix_=>
     unfold Z2;exact Z8.bind (ih _ _ _ PD) (L .primary _ _) λy us h=>ih _ _ _ PK
   |postLoop x=>
     unfold Z2;refine Z8.ite (λh=>Z8.name λs h2=>ih _ _ _ PD) λ_=>Z8.ite (λh=>?_) λ_=>Z8.ok;have:=Zm h;exact Z8.bind (ih _ _ _ PD) (L (.args [x]) _ _) λy us h=>ih _ _ _ PK
   |args u=>
     unfold Z2;exact Z8.ite (λh=>Z8.ok) λ_=>Z8.comma λus h=>Z8.ite (λ_=>Z8.fail) λ_=>Z8.bind (ih _ _ _ PD) (L .value _ _) λy vs h2=>ih _ _ _ PK
   |primary=>
     unfold Z2;have:=Zv ts.tail;refine Z8.ite (λ_=>Z8.ok) λ_=>Z8.ite (λ_=>Z8.ok) λ_=>Z8.ite (λ_=>Z8.ok) λ_=>Z8.ite (λ_=>Z8.ok) λ_=>?_;refine Z8.ite (λ_=>ih _ _ _ PD) λ_=>?_;refine Z8.ite (λ_=>Z8.ite (λ_=>ih _ _ _ PD) λ_=>ih _ _ _ PD) λ_=>?_;exact Z8.ite (λh=>ih _ _ _ (by have:=Zm h;simp only[Job.rank]at *;omega)) λ_=>Z8.fail
   |object u=>
     unfold Z2;exact Z8.ite (λh=>Z8.ok) λ_=>Z8.comma λus h=>Z8.ite (λ_=>Z8.fail) λ_=>Z8.name λs h1=>Z8.want λh2=>Z8.bind (ih _ _ _ PD) (L .value _ _) λy vs h2=>ih _ _ _ PK
def Zt (text:kB):Except (Int×Int) Tree:=
 if 3000<text.size then .error (4,-1)
 else match Xz text with
  | .error (e,p)=>.error (e,p)
  | .ok ts=>match Z2 (40*ts.length+31) (.stmts 1 []) 0 ts with
    |none=>.error (0,-2)
    |some (.error (e,p))=>.error (e,p)
    |some (.ok (t,_))=>if 1500<t.many then .error (4,-1)else .ok t
end Go.Proofs.YtkebnpemgkjpkaaGreatDoor
namespace Go.Proofs
def Tryz.lays137_ren:Go.Shelf.Ren:=⟨fun|137=>62|217=>94|266=>127|n=>n,fun|9=>9|5=>5|3=>3|n=>n,fun|n=>n⟩
def Tryz.lays137:Go.Proofs.Lays.n137 Tryz.prog Tryz.lays137_ren:={
 mixed:=by kernel_rfl
 f137:=Tryz.func62.trans (congrArg some (by kernel_rfl))
 f217:=Tryz.func94.trans (congrArg some (by kernel_rfl))
 f266:=Tryz.func127.trans (congrArg some (by kernel_rfl))
 t3:=Tryz.underlying3
 a3:=Tryz.isAgg3
 z3:=Tryz.sizeOf3
 v3:=Tryz.zeroValue3
 t5:=Tryz.underlying5
 a5:=Tryz.isAgg5
 z5:=Tryz.sizeOf5
 v5:=Tryz.zeroValue5
 t9:=Tryz.underlying9
 a9:=Tryz.isAgg9
 z9:=Tryz.sizeOf9
 v9:=Tryz.zeroValue9}
open Go.RowKit in
theorem Tryz.strings_IndexByte(s:ByteArray)(c:Int)(w:World) :
 Calls Tryz.prog 62 #[.string s,.int .u8 c] w λe w'=>e=.returned (.int .i64 (Lib.indexByte s.data.toList c.toNat.toUInt8))/\w'=w:=Any.strings_IndexByte Tryz.lays137 s c w
end Go.Proofs
namespace Go.Proofs.YtkebnpemgkjpkaaGreatDoor
open Go Go.RowKit Go.Proofs.Tryz Tryz
def ScanAt.bfr{w0 w w':kV}{sb b B a:Nat}{text:kB}{p v g:Value}{m:List Value}(h:ScanAt w0 w sb text a)(hb:BAt B w b p v m)(hs:sb<B)(u:w0.heap.size<=B)(f:BFr w w' b v g):ScanAt w0 w' sb text a:=by
 have hr:∀k,k<B->v.ownBlock≠some k:=λk hk e=>by have:=(hb.own.lt k e).1;omega
 have y:=hb.le
 exact⟨(f.block sb h.lt Px (hr sb hs)).trans h.blk,f.os.trans h.os,f.tape.trans h.tape,f.output.trans h.output,Y4 h.size f.size,
  λk hk hn=>(f.block k (Y7 hk h.size) Px (hr k Px)).trans (h.block k hk hn)⟩
def BAt.set{B:Nat}{w:kV}{b sb:Nat}{p v:Value}{m:List Value}(h:BAt B w b p v m)(hs:sb<B)(x:Value):BAt B (w.setCell ⟨sb,1,none⟩ x) b p v m:=by
 have y:=h.le;exact⟨(Y8 _ _ _ _ PB).trans h.blk,h.ptr,Z3 h.own λg u=>Y8 _ _ _ _ (by have:=(h.own.lt g u).1;simp;omega),h.ne,h.le⟩
theorem BAt.drew{B:Nat}{w:kV}{b:Nat}{p v:Value}{g:List Value}(h:BAt B w b p v g):BAt B w.drew b p v g:=⟨h.blk,h.ptr,h.own,h.ne,h.le⟩
def BAt.new(w:kV):BAt w.heap.size (w.alloc (.cells #[.pointer none,.slice none 0 0] 184)) w.heap.size (.pointer none) (.slice none 0 0) []:=
 ⟨Yq w _,.inl rfl,World.ownsRow_nil _ _ _ _,by simp[Value.ownBlock],Y0 _⟩
def Z8k(B:Nat)(w:kV)(b:Nat)(p v:Value)(g:List Value)(c:Int)(h:BAt B w b p v g)(hn:g.length<1099511627776) :
 kC 92 #[vP b,.int .u8 c] w λe w'=>e=.returned .nilIface/\∃m,BAt B w' b (vP b) m (g++[.int .u8 c])/\BFr w w' b v m:=by
 rcases h.ptr with rfl|rfl;·exact Zba B w b v g c h hn
 .exact Zbl B w b v g c h hn
def ScanAt.set'{w0 w:kV}{sb a b:Nat}{text:kB}{x:Int}(h:ScanAt w0 w sb text a)(hx:x=b):ScanAt w0 (w.setCell ⟨sb,1,none⟩ (vI x)) sb text b:=by
 subst hx;exact h.set b
def ScanAt.c1'{w0 w:kV}{sb a:Nat}{text:kB}{x:Int}(h:ScanAt w0 w sb text a)(hx:x=a):w.cell? ⟨sb,1,none⟩=some (vI x):=by
 subst hx;exact h.c1
def ScanAt.belowB{w0 w w':kV}{B sb a:Nat}{text:kB}(h:ScanAt w0 w sb text a)(hs:sb<B)(m:w0.heap.size<=B)(g:Below B w w'):ScanAt w0 w' sb text a:=
 ⟨(g.block sb hs).trans h.blk,g.os.trans h.os,g.tape.trans h.tape,g.output.trans h.output,Y4 h.size g.size,λk hk hn=>(g.block k (Y7 hk m)).trans (h.block k hk hn)⟩
def Zm3(c:Int)(u:UInt8)(I:(u.toNat:Int)=c):(Ui c=none/\Lib.indexByte [110,39,92] c.toNat.toUInt8=-1)\/(c=110/\Ui c=some 10/\Lib.indexByte [110,39,92] c.toNat.toUInt8=0)\/(c=39/\Ui c=some 39/\Lib.indexByte [110,39,92] c.toNat.toUInt8=1)\/(c=92/\Ui c=some 92/\Lib.indexByte [110,39,92] c.toNat.toUInt8=2):=by
 subst I;have hx:((u.toNat:Int)).toNat.toUInt8=u:=PE
 rw[hx];by_cases h1:u=110;·subst h1;exact .inr (.inl ⟨rfl,rfl,rfl⟩)
 by_cases g:u=39;·subst g;exact .inr (.inr (.inl ⟨rfl,rfl,rfl⟩))
 by_cases m:u=92;·subst m;exact .inr (.inr (.inr ⟨rfl,rfl,rfl⟩))
 refine .inl ⟨?_,?_⟩
 .have p:¬(u.toNat:Int)=110:=λh=>h1 (UInt8.toNat_inj.1 PB);have y:¬(u.toNat:Int)=39:=λh=>g (UInt8.toNat_inj.1 PB);have F:¬(u.toNat:Int)=92:=λh=>m (UInt8.toNat_inj.1 PB);unfold Ui;rw[Y3 p,Y3 y,Y3 F]
 .have p:((110:UInt8)==u)=false:=by simpa using λh=>h1 h.symm
  have y:((39:UInt8)==u)=false:=by simpa using λh=>g h.symm
  have F:((92:UInt8)==u)=false:=by simpa using λh=>m h.symm
  simp[Lib.indexByte,p,y,F]
def Zk3(w:kV)(sb a:Nat)(text:kB)(h:w.heap[sb]?=some (.cells #[.string text,vI a] 135 (0,0)))(ha:a<text.size)(hm:text.size<=1000000) :
 kC 60 #[vP sb] w λe w'=>e=.returned (.tuple #[.string ⟨(BN text (a+1)).1.toArray⟩,vI (BN text (a+1)).2.1,vI (BN text (a+1)).2.2])/\ScanAt w w' sb text (BN text (a+1)).2.2:=by
 obtain⟨R,m⟩:=zX (BN text (a+1))
 rw[<-m];have HR:=lh m;clear m;have S0:=lh (ScanAt.refl h);have U:sb<w.heap.size:=(Y1.1 h).1;have B0:=lh (BAt.new w);have S1:=lh (S0.o.below (w':=w.alloc (.cells #[.pointer none,.slice none 0 0] 184)) ((Y2 _ _).alloc (Y0 _) _));have c0:=S1.o.c0;have c1:=S1.o.c1;have z1:=S1.o.fz 1;clear h;go_enter func60,ntmps60
 go_wp2;have X:=lh ((S0.o.set (a+1)).below (w':=(w.setCell ⟨sb,1,none⟩ (vI ((a:Int)+1))).alloc (.cells #[.pointer none,.slice none 0 0] 184)) ((Y2 _ _).alloc (Y0 _) _));have aZ:(w.setCell ⟨sb,1,none⟩ (vI ((a:Int)+1))).heap.size=w.heap.size:=Yf ..;have b2:=BAt.new (w.setCell ⟨sb,1,none⟩ (vI ((a:Int)+1)));rw[aZ]at b2;have B2:=lh b2;clear b2 aZ;clear S1 B0 c0 c1 z1
 go_loopw [] (λwr=>∃(i f:Nat) (y:List UInt8) (p v:Value),ScanAt w wr sb text i/\BAt w.heap.size wr w.heap.size p v (Lib.byteCells y)/\Zo text f i y=R/\text.size+1<=i+f/\i<=text.size/\y.length<=i) (λwr=>text.size+1-(intOf ((wr.cell? ⟨sb,1,none⟩).getD .nilIface)).toNat)
 case atStart=>exact⟨a+1,text.size+1-(a+1),[],_,_,X.o,B2.o,HR.o.symm,by omega,by omega,by simp⟩
 case round=>
  obtain⟨i,f,y,p,v,hS,hB,hq,hf,hi,hl⟩:=hrel;have q0:=hS.c0;have q1:=hS.c1;have z1:=hS.fz 1;obtain⟨SI,BI,Y⟩:=ds hS hB hq;obtain⟨f,rfl⟩:∃g,f=g+1:=⟨f-1,by omega⟩
  clear hS hB hq X B2;by_cases ay:i<text.size
  .have hd:decide (text.size<=i)=false:=by simp;omega
   have F:=Z4y (text:=text) ay;obtain⟨c,hc⟩:=zX (Z5 text i)
   rw[<-hc]at F;by_cases gU:c=10
   .subst gU;have m:R=([],3,i):=by rw[<-Y.o];simp[Zo,<-hc]
    have aA:=F.symm;have bA:=lh m;clear F m hc;exact Acm
   have DG:(c==10)=false:=by simp[gU]
   have aE:(Lib.byteCells y).length=y.length:=by simp[Lib.byteCells]
   have bM:=lh aE;clear aE;by_cases B9:c=39
   .subst B9;have m:R=if 500<y.length then([],4,i+1)else(y,0,i+1):=by rw[<-Y.o];simp[Zo,<-hc];omega
    have aA:=F.symm;have bA:=lh m;clear F m hc gU DG;have z1:=SI.o.drew.drew.fz 1;go_wp2_with fail
    refine Z7 [0,2,4,6,8,10,12,14,16,18,20,22,24,26,28,30,32,34,36] [19,20,21] (λW=>vC W sb 0 (.string text)/\vC W sb 1 (vI i)) ⟨q0,q1⟩ λ_=>?_;refine dU ?_
    iterate 19
     refine fa ?_
    refine Z0 ?_;go_wp2;refine Z7 [0,2,4,6,8,10,12,14] [8,9] (λW=>vC W sb 0 (.string text)/\vC W sb 1 (vI i)) ⟨q0,q1⟩ λ_=>?_;refine dU ?_
    iterate 8
     refine fa ?_
    refine Z0 ?_;go_wp2_with fail
    have u:=(SI.o.set' (b:=i+1) (x:=(i:Int)+1) Px).drew.drew;have O:=(BI.o.set U (vI ((i:Int)+1))).drew.drew;have HL:=Zvy O;rw[bM.o]at HL;have HL:=lh HL;have jm:=u.c1' (x:=(i:Int)+1) Px;have Le:=u.lt;have O:=lh O;have u:=lh u;refine HL.o.mono ?_;rintro e w1⟨rfl,hw⟩;rw[<-hw]at O u jm Le;clear hw HL z1 q0 q1;by_cases h5:500<y.length
    .go_wp2;refine Z7 [0,2,4,6,8,10] [6] (λW=>W.cell? ⟨sb,1,none⟩=some (vI ((i:Int)+1))) jm λ_=>?_;refine dU ?_
     iterate 6
      refine fa ?_
     refine Z0 ?_;go_wp2;go_ret3
     rw[bA.o,Y5 h5];exact⟨rfl,u.o.drew⟩
    .go_wp2;refine Z7 [2,4,6,8,1,10,12] [7] (λW=>W.cell? ⟨sb,1,none⟩=some (vI ((i:Int)+1))) jm λ_=>?_;refine dU ?_
     iterate 4
      refine fa ?_
     refine Ze (λK hK=>?_);go_simp
     refine(Zkc y O.o.drew (by have:=(Y1.1 O.o.blk).1;simp;omega)).mono ?_;rintro e w2⟨rfl,hB⟩;have X:=u.o.drew.belowB U (Y0 _) hB;refine hK _ _ (X.c1' Px) ?_;have X:=lh X;clear hK K hB
     iterate 2
      refine fa ?_
     refine Z0 ?_;go_wp2;go_ret3
     rw[bA.o,Y3 h5];exact⟨rfl,X.o⟩
   have Hu:(c==39)=false:=by simp[B9]
   by_cases DI:c=92
   .subst DI;have aA:=F.symm;clear F gU DG B9 Hu;have HC:=lh hc;clear hc;go_wp2_with fail
    refine Z7 [0,2,4,6,8,10,12,14,16,18,20,22,24,26,28,30,32,34,36] [19,20,21] (λW=>vC W sb 0 (.string text)/\vC W sb 1 (vI i)) ⟨q0,q1⟩ λ_=>?_;refine dU ?_
    iterate 19
     refine fa ?_
    refine Z0 ?_;go_wp2;refine Z7 [0,2,4,6,8,10,12,14] [8,9] (λW=>vC W sb 0 (.string text)/\vC W sb 1 (vI i)) ⟨q0,q1⟩ λ_=>?_;refine dU ?_
    iterate 8
     refine fa ?_
    refine Z0 ?_;go_wp2_with fail
    have u:=(SI.o.set' (b:=i+1) (x:=(i:Int)+1) Px).drew.drew;have O:=(BI.o.set U (vI ((i:Int)+1))).drew.drew;obtain⟨w1,hw⟩:=zX ((wr.setCell ⟨sb,1,none⟩ (vI ((i:Int)+1))).drew.drew)
    rw[<-hw]at O u ⊢;have p0:=u.c0;have p1:=u.c1' (x:=(i:Int)+1) Px;have pz:=u.fz 1;have O:=lh O;have u:=lh u;clear hw q0 q1 z1 aA;by_cases h4:i+1<text.size
    .have F:=Z4y (text:=text) h4;have Lf:decide ((i:Int)+1<text.size)=true:=by simp;omega
     obtain⟨k,hk⟩:∃k,k=Lib.indexByte [110,39,92] ((text[i+1].toNat:Int)).toNat.toUInt8:=⟨_,rfl⟩
     have uU:=Zm3 (Z5 text (i+1)) text[i+1] F.symm;rw[F,<-hk]at uU;have HX:Hid (∀w,kC 62 #[.string ⟨#[110,39,92]⟩,.int .u8 (text[i+1].toNat:Int)] w λe w'=>e=.returned (vI k)/\w'=w):=
      lh λw=>(Tryz.strings_IndexByte ⟨#[110,39,92]⟩ (text[i+1].toNat:Int) w).mono λe w' h=>⟨by rw[hk];exact h.1,h.2⟩
     have Hv:=lh F;have HE:=lh uU;clear F uU hk;go_wp2_with fail
     refine Z7 [0,2,4,6,8,10,12,14,16] [9] (λW=>vC W sb 0 (.string text)/\W.cell? ⟨sb,1,none⟩=some (vI ((i:Int)+1))) ⟨p0,p1⟩ λ_=>?_;refine dU ?_
     iterate 9
      refine fa ?_
     refine Z0 ?_;go_wp2;refine Z7 [0,2,4,6,8,10,12,14] [8,9,10] (λW=>vC W sb 0 (.string text)/\W.cell? ⟨sb,1,none⟩=some (vI ((i:Int)+1))) ⟨p0,p1⟩ λ_=>?_;refine dU ?_
     iterate 8
      refine fa ?_
     refine Z0 ?_;go_wp2_with fail
     refine(HX.o _).mono ?_;rintro e w2⟨rfl,hw⟩;have yE:=O.o.drew.drew;have Z:=u.o.drew.drew;rw[<-hw]at yE Z;have od:=Z.c1' (x:=(i:Int)+1) Px;have Lg:=Z.fz 1;have yE:=lh yE;have Z:=lh Z;clear hw O u p0 p1 pz HX;have fin:∀(x:UInt8),Hid (Ui (text[i+1].toNat:Int)=some x)->Zo text f (i+2) (y++[x])=R:=by
      intro x hx;rw[<-Y.o];simp only[Zo];rw[Y3 Qh,Y3 Qh,Y5 HC.o.symm,Y5 h4,Hv.o,hx.o]
     have ct:=lh fin;have DJ:Hid ((Lib.byteCells y).length<1099511627776):=lh (by rw[bM.o];omega);clear fin;rcases HE.o with⟨he,rfl⟩|⟨_,he,rfl⟩|⟨_,he,rfl⟩|⟨_,he,rfl⟩
     .have m:R=([],3,i+1):=by
       rw[<-Y.o];simp only[Zo];rw[Y3 Qh,Y3 Qh,Y5 HC.o.symm,Y5 h4,Hv.o,he]
      have bA:=lh m;clear m he HE;go_wp2;refine Z7 [0,2,4,6,8,10] [6] (λW=>W.cell? ⟨sb,1,none⟩=some (vI ((i:Int)+1))) od λ_=>?_;refine dU ?_
      iterate 6
       refine fa ?_
      refine Z0 ?_;go_wp2;go_ret3
      rw[bA.o];exact⟨rfl,Z.o.drew⟩
     all_goals
      have FI:=lh (ct.o _ (lh he));clear he HE ct;go_wp2_with fail
      refine(Z8k _ _ _ _ _ _ _ yE.o DJ.o).mono ?_;rintro e w3⟨rfl,v',I,bg⟩;have J:=Z.o.bfr yE.o U (Y0 _) bg;have r1:=J.c1' (x:=(i:Int)+1) Px;have rz:=J.fz 1;have B3:=lh I;have J:=lh J;clear I bg od Lg;go_wp2;go_roundw
      case rel=>exact⟨i+2,f,_,_,_,J.o.set' Px,(by rw[Lib.byteCells,Yl];exact B3.o.set U _),FI.o,by omega,by omega,by simp;omega⟩
      case measure=>
       have e1:=(J.o.set' (b:=i+2) (x:=(i:Int)+1+1) Px).c1;exact Zxy
    .have Lf:decide ((i:Int)+1<text.size)=false:=by simp;omega
     have m:R=([],3,i+1):=by
      rw[<-Y.o];simp only[Zo];rw[Y3 Qh,Y3 Qh,Y5 HC.o.symm,Y3 h4]
     have bA:=lh m;clear m;go_wp2_with fail
     refine Z7 [0,2,4,6,8,10,12,14,16] [9] (λW=>vC W sb 0 (.string text)/\W.cell? ⟨sb,1,none⟩=some (vI ((i:Int)+1))) ⟨p0,p1⟩ λ_=>?_;refine dU ?_
     iterate 9
      refine fa ?_
     refine Z0 ?_;go_wp2;refine Z7 [0,2,4,6,8,10] [6] (λW=>W.cell? ⟨sb,1,none⟩=some (vI ((i:Int)+1))) p1 λ_=>?_;refine dU ?_
     iterate 6
      refine fa ?_
     refine Z0 ?_;go_wp2;go_ret3
     rw[bA.o];exact⟨rfl,u.o.drew.drew⟩
   have Or:(c==92)=false:=by simp[DI]
   have FI:Hid (Zo text f (i+1) (y++[text.data.getD i 0])=R):=by
    refine lh ?_;rw[<-Y.o];simp only[Zo];rw[Y3 R8,Y3 R8,Y3 R8]
   have DJ:Hid ((Lib.byteCells y).length<1099511627776):=lh (by rw[bM.o];omega);have pS:Hid (Lib.byteCells y++[.int .u8 c]=Lib.byteCells (y++[text.data.getD i 0])):=lh (by rw[Lib.byteCells,Lib.byteCells,Yl,hc];rfl);have aA:=F.symm;clear F hc gU B9 DI;go_wp2_with fail
   refine Z7 [0,2,4,6,8,10,12,14,16,18,20,22,24,26,28,30,32,34,36] [19,20,21] (λW=>vC W sb 0 (.string text)/\vC W sb 1 (vI i)) ⟨q0,q1⟩ λ_=>?_;refine dU ?_
   iterate 19
    refine fa ?_
   refine Z0 ?_;go_wp2;refine Z7 [0,2,4,6,8,10,12,14] [8,9] (λW=>vC W sb 0 (.string text)/\vC W sb 1 (vI i)) ⟨q0,q1⟩ λ_=>?_;refine dU ?_
   iterate 8
    refine fa ?_
   refine Z0 ?_;go_wp2_with fail
   refine(Z8k _ _ _ _ _ _ c BI.o.drew.drew DJ.o).mono ?_;rintro e w3⟨rfl,v',I,bg⟩;have J:=SI.o.drew.drew.bfr BI.o.drew.drew U (Y0 _) bg;rw[pS.o]at I;have r1:=J.c1;have rz:=J.fz 1;have B3:=lh I;have J:=lh J;clear I bg q0 q1 z1;go_wp2;go_roundw
   case rel=>exact⟨i+1,f,_,_,_,J.o.set' Px,B3.o.set U _,FI.o,by omega,by omega,by simp;omega⟩
   case measure=>
    have e1:=(J.o.set' (b:=i+1) (x:=(i:Int)+1) Px).c1;exact Zxy
  .have bU:(text.size:Int)<=i:=by omega
   have dF:text.size<=i:=Px
   have m:R=([],3,i):=by rw[<-Y.o];simp[Zo,show text.size<=i by omega]
   have bA:=lh m;clear m;exact Acm
def Z6d{text:kB}{f i j k:Nat}{l:List Tok}{t:Tok}{R:Except (Int×Nat) (List Tok)}(h:sL text (f+1) i l=R)(g:j=Zh mF text (text.size-i) i)(m:j<text.size)
 (ht:iq text j=.ok (t,k)):sL text f k (l++[t])=R:=by
 rw[<-h];simp only[sL];rw[<-g,Y3 Px,ht]
def YF{text:kB}{f i j:Nat}{l:List Tok}{e:Int×Nat}{R:Except (Int×Nat) (List Tok)}(h:sL text (f+1) i l=R)(g:j=Zh mF text (text.size-i) i)(m:j<text.size)
 (ht:iq text j=.error e):R=.error e:=by
 rw[<-h];simp only[sL];rw[<-g,Y3 Px,ht]
def Zpt{text:kB}{f i j:Nat}{l:List Tok}{R:Except (Int×Nat) (List Tok)}(h:sL text (f+1) i l=R)(g:j=Zh mF text (text.size-i) i)(m:text.size<=j):R=.ok (l++[⟨6,ByteArray.empty,0,j⟩]):=by
 rw[<-h];simp only[sL];rw[<-g,Y5 m]
def Zfn(text:kB):∀(f i:Nat) (g:List UInt8),(Zo text f i g).2.1=0\/(Zo text f i g).2.1=3\/(Zo text f i g).2.1=4:=by
 intro f;induction f with
 |zero=>intro i g;simp[Zo]
 |succ f p=>
   intro i g;simp only[Zo];by_cases h1:text.size<=i\/Z5 text i=10;·rw[Y5 h1];simp
   rw[Y3 h1];by_cases u:Z5 text i=39
   .rw[Y5 u];by_cases m:500<g.length;·rw[Y5 m];simp
    .rw[Y3 m];simp
   rw[Y3 u];by_cases m:Z5 text i=92
   .rw[Y5 m];by_cases y:i+1<text.size
    .rw[Y5 y];cases Ui (Z5 text (i+1))with
     |none=>simp
     |some e=>exact p _ _
    .rw[Y3 y];simp
   .rw[Y3 m];exact p _ _
section
variable {text:kB}{j k:Nat}
def Zka(hl:uZ (Z5 text j)=true)(hk:k=Zh wG text (text.size-j) j)(hw:Ud (text.extract j k)=true):iq text j=.ok (⟨2,text.extract j k,0,j⟩,k):=by
 subst hk;unfold iq;rw[Y5 hl];simp only;rw[Y5 hw]
def Zjb(hl:uZ (Z5 text j)=true)(hk:k=Zh wG text (text.size-j) j)(hw:Ud (text.extract j k)=false)(h:¬20<k-j):iq text j=.ok (⟨1,text.extract j k,0,j⟩,k):=by
 subst hk;unfold iq;rw[Y5 hl];simp only;rw[Y3 (by simp[hw]),Y3 h]
def Zji(hl:uZ (Z5 text j)=true)(hk:k=Zh wG text (text.size-j) j)(hw:Ud (text.extract j k)=false)(h:20<k-j):iq text j=.error (4,j):=by
 subst hk;unfold iq;rw[Y5 hl];simp only;rw[Y3 (by simp[hw]),Y5 h]
def Zoj(hl:uZ (Z5 text j)=false)(hd:mE (Z5 text j)=true)(hk:k=Zh mE text (text.size-j) j)(h1:¬(10<k-j\/(1<k-j/\Z5 text j=48)))(g:¬1000000000<iw text k (k-j) j 0) :
 iq text j=.ok (⟨3,ByteArray.empty,iw text k (k-j) j 0,j⟩,k):=by
 subst hk;unfold iq;rw[Y3 R',Y5 hd];simp only;rw[Y3 h1,Y3 g]
def Zce(hl:uZ (Z5 text j)=false)(hd:mE (Z5 text j)=true)(hk:k=Zh mE text (text.size-j) j)(h1:10<k-j\/(1<k-j/\Z5 text j=48)):iq text j=.error (3,j):=by
 subst hk;unfold iq;rw[Y3 R',Y5 hd];simp only;rw[Y5 h1]
def Zfz(hl:uZ (Z5 text j)=false)(hd:mE (Z5 text j)=true)(hk:k=Zh mE text (text.size-j) j)(h1:¬(10<k-j\/(1<k-j/\Z5 text j=48)))(g:1000000000<iw text k (k-j) j 0):iq text j=.error (2,j):=by
 subst hk;unfold iq;rw[Y3 R',Y5 hd];simp only;rw[Y3 h1,Y5 g]
def Zmf{g:List UInt8}(hq:Z5 text j=39)(hr:BN text (j+1)=(g,0,k)):iq text j=.ok (⟨4,⟨g.toArray⟩,0,j⟩,k):=by
 exact Ztu
def Zkb{g:List UInt8}(hq:Z5 text j=39)(hr:BN text (j+1)=(g,4,k)):iq text j=.error (4,j):=by
 exact Ztu
def Zl2{g:List UInt8}(hq:Z5 text j=39)(hr:BN text (j+1)=(g,3,k)):iq text j=.error (3,k):=by
 exact Ztu
def Zc1(hl:uZ (Z5 text j)=false)(hd:mE (Z5 text j)=false)(hq:Z5 text j≠39)(hs:¬(Zl text j=1/\Ua (Z5 text j)=false)):iq text j=.ok (⟨5,text.extract j (j+Zl text j),0,j⟩,j+Zl text j):=by
 unfold iq;rw[Y3 R',Y3 (by simp[hd]),Y3 hq,Y3 hs]
def Zfc(hl:uZ (Z5 text j)=false)(hd:mE (Z5 text j)=false)(hq:Z5 text j≠39)(hs:Zl text j=1/\Ua (Z5 text j)=false):iq text j=.error (3,j):=by
 unfold iq;rw[Y3 R',Y3 (by simp[hd]),Y3 hq,Y5 hs]
def Zm5{n m:Nat}{N:Int}(h:m<n):iw text (j+n) (n-m) (j+m) N=iw text (j+n) (n-(m+1)) (j+m+1) (10*N+(Z5 text (j+m)-48)):=by
 obtain⟨g,p⟩:∃g,n-m=g+1:=⟨n-m-1,by omega⟩
 rw[p,show n-(m+1)=g by omega];simp only[iw];rw[Y5 Px]
theorem Zo2{n:Nat}{N:Int}:iw text (j+n) (n-n) (j+n) N=N:=by rw[Nat.sub_self];rfl
end
def ZR(text:kB)(j:Nat)(u:UInt8)(p:List UInt8)(m:u≠0):(u::p).isPrefixOf (text.data.toList.drop j)=(decide (Z5 text j=u.toNat)&&p.isPrefixOf (text.data.toList.drop (j+1))):=by
 by_cases h:j<text.size
 .have g:j<text.data.toList.length:=by simpa using h
  rw[Yt g,List.isPrefixOf_cons_cons];congr 1
  have hb:Z5 text j=(text.data.toList[j].toNat:Int):=by
   have y:j<text.data.size:=h;unfold Z5 Array.getD;rw[dif_pos y];rfl
  rw[hb,Bool.eq_iff_iff];simp only[beq_iff_eq,decide_eq_true_eq];constructor;·intro e;rw[e]
  .intro e;exact(UInt8.toNat_inj.1 Px).symm
 .have g:text.data.toList.length<=j:=by simpa using h
  rw[List.drop_eq_nil_of_le g,Z4a Px];have:u.toNat≠0:=λe=>m (UInt8.toNat_inj.1 (by simpa using e));have F:¬(0:Int)=u.toNat:=Px
  simp[F]
def sN:Nat->kB
 |0=>⟨#[61,61,61]⟩
 |1=>⟨#[38,38]⟩
 |_=>⟨#[124,124]⟩
def preB(text:kB)(j m:Nat):Bool:=(sN m).data.toList.isPrefixOf (text.data.toList.drop j)
def D4(text:kB)(j:Nat):Nat->kB
 |0=>text.extract j (j+1)
 |m+1=>if preB text j m then sN m else D4 text j m
def Adg(text:kB)(j:Nat):preB text j 0=true↔Z5 text j=61/\Z5 text (j+1)=61/\Z5 text (j+2)=61:=by
 unfold preB;rw[show(sN 0).data.toList=[61,61,61]from rfl,ZR _ _ _ _ Py,ZR _ _ _ _ Py,ZR _ _ _ _ Py];simp
def Ade(text:kB)(j:Nat):preB text j 1=true↔Z5 text j=38/\Z5 text (j+1)=38:=by
 unfold preB;rw[show(sN 1).data.toList=[38,38]from rfl,ZR _ _ _ _ Py,ZR _ _ _ _ Py];simp
def AcY(text:kB)(j:Nat):preB text j 2=true↔Z5 text j=124/\Z5 text (j+1)=124:=by
 unfold preB;rw[show(sN 2).data.toList=[124,124]from rfl,ZR _ _ _ _ Py,ZR _ _ _ _ Py];simp
theorem ZP{text:kB}{i:Nat}{u:UInt8}(h:Z5 text i=u.toNat):text.data.getD i 0=u:=UInt8.toNat_inj.1 (by unfold Z5 at h;omega)
def Z6j(text:kB)(j n:Nat)(h:j+n<=text.size):text.extract j (j+n)=⟨((List.range n).map λi=>text.data.getD (j+i) 0).toArray⟩:=by
 apply ByteArray.ext;apply Array.ext
 .have :(text.extract j (j+n)).data.size=n:=by change(text.extract j (j+n)).size=n;rw[ByteArray.size_extract];omega
  rw[this];simp
 .intro i h1 m;have e:(text.extract j (j+n)).data.size=n:=by change(text.extract j (j+n)).size=n;rw[ByteArray.size_extract];omega
  have g:=getD_extract text (j:=j) (k:=j+n) (i:=i) Px h;have h5:(text.extract j (j+n)).data.getD i 0=(text.extract j (j+n)).data[i]:=by simp only[Array.getD,dif_pos h1];rfl
  rw[<-h5,g];simp
def Zte(text:kB)(j:Nat)(h:j<text.size):D4 text j 3=text.extract j (j+Zl text j)/\(D4 text j 3).size=Zl text j/\j+Zl text j<=text.size:=by
 have y:∀n,j+n<=text.size->(text.extract j (j+n)).size=n:=λn hn=>by rw[ByteArray.size_extract];omega
 have F:=Adg text j;have I:=Ade text j;have J:=AcY text j;simp only[D4];by_cases m:preB text j 2=true
 .have hb:=J.1 m;have hl:=Z5a (text:=text) (i:=j+1) Px;have g:Zl text j=2:=by simp[Zl,hb]
  rw[Y5 m,g,Z6j text j 2 Px];have b0:=ZP (u:=124) hb.1;have b1:=ZP (u:=124) hb.2;refine Zxi ?_;rfl
 ·rw [Y3 m];by_cases h1 : preB text j 1 = true
  .have hb:=I.1 h1;have hl:=Z5a (text:=text) (i:=j+1) Px;have g:Zl text j=2:=by simp[Zl,hb]
   rw[Y5 h1,g,Z6j text j 2 Px];have b0:=ZP (u:=38) hb.1;have b1:=ZP (u:=38) hb.2;refine Zxi ?_;rfl
  .rw[Y3 h1];by_cases p:preB text j 0=true
   .have hb:=F.1 p;have hl:=Z5a (text:=text) (i:=j+2) Px;have g:Zl text j=3:=by simp[Zl,hb]
    rw[Y5 p,g,Z6j text j 3 Px];have b0:=ZP (u:=61) hb.1;have b1:=ZP (u:=61) hb.2.1;have b2:=ZP (u:=61) hb.2.2;refine⟨?_,rfl,by omega⟩;simp only[List.range_succ,List.range_zero,List.nil_append,List.map_append,List.map_cons,List.map_nil,Nat.add_zero,b0,b1,b2];rfl
   .rw[Y3 p];have g:Zl text j=1:=by
     unfold Zl;rw[Y3 (λx=>p (F.2 x)),Y3 (λx=>h1 (I.2 x)),Y3 (λx=>m (J.2 x))]
    rw[g];exact⟨rfl,y 1 Px,by omega⟩
def Zpv:List UInt8:=[40,41,123,125,91,93,59,58,44,46,61,43,45,42,60,33]
def Zgv(u:UInt8):decide (Lib.indexByte Zpv u<0)=!Ua u.toNat:=by
 have g:∀n:Fin 256,decide (Lib.indexByte Zpv (UInt8.ofNat n.val)<0)=!Ua ((UInt8.ofNat n.val).toNat:Int):=by decide+kernel
 have h:=g ⟨u.toNat,by have:=u.toNat_lt;omega⟩;simpa using h
end Go.Proofs.YtkebnpemgkjpkaaGreatDoor
namespace Go.Proofs
def Tryz.lays99_ren:Go.Shelf.Ren:=⟨fun|99=>61|206=>93|n=>n,fun|9=>9|4=>4|3=>3|n=>n,fun|n=>n⟩
def Tryz.lays99:Go.Proofs.Lays.n99 Tryz.prog Tryz.lays99_ren:={
 mixed:=by kernel_rfl
 f99:=Tryz.func61.trans (congrArg some (by kernel_rfl))
 f206:=Tryz.func93.trans (congrArg some (by kernel_rfl))
 t3:=Tryz.underlying3
 a3:=Tryz.isAgg3
 z3:=Tryz.sizeOf3
 v3:=Tryz.zeroValue3
 t4:=Tryz.underlying4
 a4:=Tryz.isAgg4
 z4:=Tryz.sizeOf4
 v4:=Tryz.zeroValue4
 t9:=Tryz.underlying9
 a9:=Tryz.isAgg9
 z9:=Tryz.sizeOf9
 v9:=Tryz.zeroValue9}
open Go.RowKit Go.Lib in
theorem Tryz.strings_HasPrefix(s p:ByteArray)(w:World) :
 Calls Tryz.prog 61 #[.string s,.string p] w λe w'=>e=.returned (.bool (Lib.hasPrefix s.data.toList p.data.toList))/\w'=w:=Any.strings_HasPrefix Tryz.lays99 s p w
end Go.Proofs
