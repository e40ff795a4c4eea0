/- Package lex: words of the language. -/
import Derived.Test.YtmjfllklcpjddaaGreatDoorJ01
import Derived.Test.YtmjfllklcpjddaaGreatDoorRows
import Derived.Shelf.Small.Strs
namespace Go.Proofs.YtmjfllklcpjddaaGreatDoor
open Go Go.RowKit
set_option maxRecDepth 100000
def Z4j:List ByteArray:=match (Rows.laid_sloppyscope_lex_wordList:DataW Unit) with
 | .agg l => l.map fun
   | .lit (.string bs)=>⟨bs.toArray⟩
   | _=>⟨#[]⟩
 | _=>[]
theorem Z63:Z4j.length=19:=by kernel_rfl
def Z34 (s:ByteArray):Bool:=Lib.containsS Z4j s
def Words (w:World):Prop:=∀ j,j < 19→w.cell? ⟨2,j,none⟩=some (.string (Z4j.getD j ByteArray.empty))
theorem Ze0 (w:World) (s:ByteArray) (hW:Words w) :
 Calls Tryz.prog 60 #[.string s] w fun e w'=>e=.returned (.bool (Z34 s))∧w'=w:=by
 have HC:=Tryz.slices_Contains_string 2 0 19 19 Z4j s w (by rw [Z63]; omega) (by omega) (fun j hj=>by rw [Nat.zero_add]; exact hW j (by rw [Z63] at hj; exact hj));rw [show Z4j.take 19=Z4j by rw [← Z63]; exact List.take_length] at HC;have HC:=lh HC;clear hW;unfold Z34;generalize Lib.containsS Z4j s=B at HC ⊢;go_enter Tryz.func60,Tryz.ntmps60
 go_wp2_with fail
 refine HC.out.mono ?_;rintro e w1 ⟨rfl,rfl⟩;go_wp2;go_ret;exact ⟨rfl,rfl⟩
end Go.Proofs.YtmjfllklcpjddaaGreatDoor
namespace Go.Proofs.YtmjfllklcpjddaaGreatDoor
open Go Go.RowKit
set_option maxRecDepth 100000
structure Tok where
 kind:Int
 text:ByteArray
 n:Int
 at':Nat
def numF (text:ByteArray) (k:Nat):Nat→Nat→Int→Int
 | 0,_,n=>n
 | f + 1,i,n=>if i < k then numF text k f (i + 1) (10 * n + (Z8 text i - 48)) else n
def Zt (text:ByteArray) (j:Nat):Nat:=
 if Z8 text j=61∧Z8 text (j + 1)=61∧Z8 text (j + 2)=61 then 3
 else if Z8 text j=38∧Z8 text (j + 1)=38 then 2
 else if Z8 text j=124∧Z8 text (j + 1)=124 then 2
 else 1
def Z5g (c:Int):Bool:=c == 40 || c == 41 || c == 123 || c == 125 || c == 91 || c == 93 || c == 59 || c == 58 || c == 44 || c == 46 || c == 61 || c == 43 || c == 45 || c == 42 || c == 60 || c == 33
def Z11 (text:ByteArray) (j:Nat):Except (Int×Nat) (Tok×Nat):=
 if Z0k (Z8 text j) then
  let k:=Zz Z4c text (text.size - j) j
  if Z34 (text.extract j k) then .ok (⟨2,text.extract j k,0,j⟩,k)
  else if 20 < k - j then .error (4,j)
  else .ok (⟨1,text.extract j k,0,j⟩,k)
 else if Z0j (Z8 text j) then
  let k:=Zz Z0j text (text.size - j) j
  if 10 < k - j∨(1 < k - j∧Z8 text j=48) then .error (3,j)
  else if 1000000000 < numF text k (k - j) j 0 then .error (2,j)
  else .ok (⟨3,ByteArray.empty,numF text k (k - j) j 0,j⟩,k)
 else if Z8 text j=39 then
  if (Z0f text (j + 1)).2.1=4 then .error (4,j)
  else if (Z0f text (j + 1)).2.1≠0 then .error (3,(Z0f text (j + 1)).2.2)
  else .ok (⟨4,⟨(Z0f text (j + 1)).1.toArray⟩,0,j⟩,(Z0f text (j + 1)).2.2)
 else if Zt text j=1∧Z5g (Z8 text j)=false then .error (3,j)
 else .ok (⟨5,text.extract j (j + Zt text j),0,j⟩,j + Zt text j)
def lexF (text:ByteArray):Nat→Nat→List Tok→Except (Int×Nat) (List Tok)
 | 0,_,acc=>.ok acc
 | f + 1, i, acc =>
   let j:=Zz Z1f text (text.size - i) i
   if text.size≤j then .ok (acc ++ [⟨6,ByteArray.empty,0,j⟩])
   else match Z11 text j with
    | .error e=>.error e
    | .ok (t,k)=>lexF text f k (acc ++ [t])
def Z5x (text:ByteArray):Except (Int×Nat) (List Tok):=lexF text (text.size + 1) 0 []
theorem Z7n {text:ByteArray} {i:Nat} (h:text.size≤i):Z8 text i=0:=by
 have h':¬ i < text.data.size:=by change ¬ i < text.size; omega
 unfold Z8 Array.getD;rw [dif_neg h'];rfl
theorem Z46 {text:ByteArray} {i:Nat} (h:Z8 text i≠0):i < text.size:=by
 rcases Nat.lt_or_ge i text.size with h' | h';·exact h'
 ·exact absurd (Z7n h') h
theorem getD_extract (text:ByteArray) {j k i:Nat} (h:i < k - j) (hk:k≤text.size):(text.extract j k).data.getD i 0=text.data.getD (j + i) 0:=by
 have h2:j + i < text.data.size:=by change _ < text.size; omega
 have h1:i < (text.extract j k).data.size:=by
  change i < (text.extract j k).size;rw [ByteArray.size_extract]; omega
 simp only [Array.getD,dif_pos h1,dif_pos h2];simp [ByteArray.data_extract]
theorem Zq (text:ByteArray) {j k i:Nat} (h:i < k - j) (hk:k≤text.size):Z8 (text.extract j k) i=Z8 text (j + i):=by
 unfold Z8; rw [getD_extract text h hk]
theorem Z3m (text:ByteArray) {j k:Nat} (hk:k≤text.size):(text.extract j k).size=k - j:=by
 rw [ByteArray.size_extract]; omega
theorem Z26 (p:Int→Bool) (text:ByteArray):∀ (f i:Nat),text.size - i≤f→i≤text.size →
 i≤Zz p text f i∧Zz p text f i≤text.size∧(∀ m,i≤m→m < Zz p text f i→p (Z8 text m)=true)∧(Zz p text f i < text.size→p (Z8 text (Zz p text f i))=false):=by
 intro f;induction f with
 | zero=>intro i h hi; simp only [Zz]; exact ⟨Y5 _,hi,fun m h1 h2=>by omega,fun h'=>by omega⟩
 | succ f ih =>
   intro i h hi;simp only [Zz];by_cases hc:i < text.size∧p (Z8 text i)=true
   ·rw [Yb (by simp [hc.1, hc.2])];obtain ⟨h1, h2, h3, h4⟩ := ih (i + 1) (by omega) (by omega);refine ⟨by omega, h2, fun m hm hm2 => ?_, h4⟩;by_cases e : m = i;·rw [e]; exact hc.2
    ·exact h3 m (by omega) hm2
   ·rw [Y9 (by simpa using hc)];refine ⟨Y5 _,hi,fun m h1 h2=>by omega,fun h'=>?_⟩;simpa [h'] using hc
theorem Zbo (p:Int→Bool) (text:ByteArray):∀ (f i k:Nat),text.size - i≤f→i≤k→k≤text.size→(∀ m,i≤m→m < k→p (Z8 text m)=true)→(k < text.size→p (Z8 text k)=false)→Zz p text f i=k:=by
 intro f;induction f with
 | zero=>intro i k h h1 h2 _ _; simp only [Zz]; omega
 | succ f ih =>
   intro i k h h1 h2 h3 h4;simp only [Zz];by_cases e:i=k
   ·subst e;rw [Y9];simp only [Bool.and_eq_true,decide_eq_true_eq,not_and,Bool.not_eq_true];exact h4
   ·rw [Yb (by simp [h3 i (Nat.le_refl _) (by omega)]; omega)];exact ih (i + 1) k (by omega) (by omega) h2 (fun m a b=>h3 m (by omega) b) h4
theorem Z9a (p:Int→Bool) (text:ByteArray) {j k:Nat} (hj:j < text.size) (hk:Zz p text (text.size - j) j=k) :
 Zz p (text.extract j k) ((text.extract j k).size - 0) 0=k - j:=by
 obtain ⟨h1,h2,h3,h4⟩:=Z26 p text (text.size - j) j (Y5 _) (by omega);rw [hk] at h1 h2 h3 h4;have hs:=Z3m text (j:=j) h2;refine Zbo p _ _ _ _ (by omega) (by omega) (by omega) (fun m _ hm=>?_) (fun h=>by omega);rw [Zq text hm h2];exact h3 _ (by omega) (by omega)
theorem Zhx (text:ByteArray) {j k:Nat} (hk:k≤text.size):∀ (f i:Nat) (n:Int),j≤i→numF (text.extract j k) (k - j) f (i - j) n=numF text k f i n:=by
 intro f;induction f with
 | zero=>intro i n _; rfl
 | succ f ih =>
   intro i n hi;simp only [numF];by_cases h:i < k
   ·rw [Yb (by omega),Yb h,Zq text (by omega) hk,show j + (i - j)=i by omega,show i - j + 1=i + 1 - j by omega];exact ih (i + 1) _ (by omega)
   ·rw [Y9 (by omega),Y9 h]
theorem Zck (text:ByteArray) {j:Nat}:∀ (f i:Nat) (acc bs:List UInt8) (k:Nat),j≤i→Z0h text f i acc=(bs,0,k) →
 i < k∧k≤text.size∧Z8 text (k - 1)=39∧∀ f',k - i≤f'→Z0h (text.extract j k) f' (i - j) acc=(bs,0,k - j):=by
 intro f;induction f with
 | zero=>intro i acc bs k _ h; simp [Z0h] at h
 | succ f ih =>
   intro i acc bs k hj h;simp only [Z0h] at h;by_cases h1:text.size≤i∨Z8 text i=10;·rw [Yb h1] at h; simp at h
   rw [Y9 h1] at h;simp only [not_or,Nat.not_le] at h1;by_cases h2:Z8 text i=39
   ·rw [Yb h2] at h;by_cases h3 : 500 < acc.length;·rw [Yb h3] at h; simp at h
    rw [Y9 h3] at h;simp only [Prod.mk.injEq,true_and] at h;obtain ⟨rfl,rfl⟩:=h;refine ⟨by omega,by omega,by simpa using h2,fun f' hf=>?_⟩;obtain ⟨g,rfl⟩:∃ g,f'=g + 1:=⟨f' - 1,by omega⟩
    have hb:Z8 (text.extract j (i + 1)) (i - j)=Z8 text i:=by
     rw [Zq text (by omega) (by omega),show j + (i - j)=i by omega]
    have hs:=Z3m text (j:=j) (k:=i + 1) (by omega);simp only [Z0h,hb,hs];rw [Y9 (by omega),Yb h2,Y9 h3,show i - j + 1=i + 1 - j by omega]
   rw [Y9 h2] at h;by_cases h3:Z8 text i=92
   ·rw [Yb h3] at h;by_cases h4 : i + 1 < text.size
    ·rw [Yb h4] at h;cases he : Z6d (Z8 text (i + 1)) with
     | none=>rw [he] at h; simp at h
     | some e =>
       rw [he] at h;simp only at h;obtain ⟨g1,g2,g3,g4⟩:=ih (i + 2) _ bs k (by omega) h;refine ⟨by omega,g2,g3,fun f' hf=>?_⟩;obtain ⟨g,rfl⟩:∃ g,f'=g + 1:=⟨f' - 1,by omega⟩
       have hb:Z8 (text.extract j k) (i - j)=Z8 text i:=by
        rw [Zq text (by omega) (by omega),show j + (i - j)=i by omega]
       have hb1:Z8 (text.extract j k) (i - j + 1)=Z8 text (i + 1):=by
        rw [Zq text (by omega) (by omega),show j + (i - j + 1)=i + 1 by omega]
       have hs:=Z3m text (j:=j) (k:=k) g2;simp only [Z0h,hb,hs,hb1];rw [Y9 (by omega),Y9 h2,Yb h3,Yb (by omega),he];simp only;rw [show i - j + 2=i + 2 - j by omega];exact g4 g (by omega)
    ·rw [Y9 h4] at h; simp at h
   ·rw [Y9 h3] at h;obtain ⟨g1, g2, g3, g4⟩ := ih (i + 1) _ bs k (by omega) h;refine ⟨by omega, g2, g3, fun f' hf => ?_⟩;obtain ⟨g, rfl⟩ : ∃ g, f' = g + 1 := ⟨f' - 1, by omega⟩
    have hb:Z8 (text.extract j k) (i - j)=Z8 text i:=by
     rw [Zq text (by omega) (by omega),show j + (i - j)=i by omega]
    have hd:(text.extract j k).data.getD (i - j) 0=text.data.getD i 0:=by
     rw [getD_extract text (by omega) (by omega),show j + (i - j)=i by omega]
    have hs:=Z3m text (j:=j) (k:=k) g2;simp only [Z0h,hb,hs,hd];rw [Y9 (by omega),Y9 h2,Y9 h3,show i - j + 1=i + 1 - j by omega];exact g4 g (by omega)
theorem Z2z {c:Int} (h:Z4c c=true):Z1f c=false:=by
 unfold Z4c Z0k Z0j at h;unfold Z1f;simp only [Bool.or_eq_true,Bool.and_eq_true,decide_eq_true_eq] at h;simp only [Bool.or_eq_false_iff,decide_eq_false_iff_not];omega
theorem Z35 {c:Int} (h:Z0k c=true):Z4c c=true:=by simp [Z4c,h]
theorem Za6 {c:Int} (h:Z0j c=true):Z4c c=true:=by simp [Z4c,h]
theorem Zhw {c:Int} (h:Z5g c=true):c≠0∧Z1f c=false:=by
 simp only [Z5g,Bool.or_eq_true,beq_iff_eq] at h;simp only [Z1f,Bool.or_eq_false_iff,decide_eq_false_iff_not];omega
theorem extract_all (b:ByteArray) (n:Nat) (h:n=b.size):b.extract 0 n=b:=by subst h; simp
theorem Zdj (text:ByteArray) (j:Nat) (h:Zt text j=1→Z5g (Z8 text j)=true) :
 1 ≤ Zt text j ∧ j + Zt text j ≤ text.size ∧ (∀ m, j ≤ m → m < j + Zt text j → Z1f (Z8 text m) = false) ∧ Zt (text.extract j (j + Zt text j)) 0 = Zt text j ∧
   (Zt text j=1→Z8 (text.extract j (j + Zt text j)) 0=Z8 text j)∧Z8 (text.extract j (j + Zt text j)) 0=Z8 text j:=by
 by_cases h3:Z8 text j=61∧Z8 text (j + 1)=61∧Z8 text (j + 2)=61
 ·have e : Zt text j = 3 := by simp [Zt, h3]
  rw [e];have hl:=Z46 (text:=text) (i:=j + 2) (by omega);have b0:=Zq text (j:=j) (k:=j + 3) (i:=0) (by omega) (by omega);have b1:=Zq text (j:=j) (k:=j + 3) (i:=1) (by omega) (by omega);have b2:=Zq text (j:=j) (k:=j + 3) (i:=2) (by omega) (by omega);refine ⟨by omega,by omega,fun m h1 h2=>?_,?_,fun _=>by rw [b0,Nat.add_zero],by rw [b0,Nat.add_zero]⟩
  ·have : m = j ∨ m = j + 1 ∨ m = j + 2 := by omega
   rcases this with rfl | rfl | rfl <;> simp [Z1f,h3]
  ·unfold Zt; rw [show 0 + 1=1 by rfl,show 0 + 2=2 by rfl,b0,b1,b2,Nat.add_zero,Yb h3]
 ·by_cases h2 : Z8 text j = 38 ∧ Z8 text (j + 1) = 38
  ·have e : Zt text j = 2 := by simp [Zt, h2]
   rw [e];have hl:=Z46 (text:=text) (i:=j + 1) (by omega);have b0:=Zq text (j:=j) (k:=j + 2) (i:=0) (by omega) (by omega);have b1:=Zq text (j:=j) (k:=j + 2) (i:=1) (by omega) (by omega);refine ⟨by omega,by omega,fun m h1 h2'=>?_,?_,fun _=>by rw [b0,Nat.add_zero],by rw [b0,Nat.add_zero]⟩
   ·have : m = j ∨ m = j + 1 := by omega
    rcases this with rfl | rfl <;> simp [Z1f,h2]
   ·unfold Zt; rw [show 0 + 1=1 by rfl,show 0 + 2=2 by rfl,b0,b1,Nat.add_zero,Y9 (by omega),Yb h2]
  ·by_cases h1 : Z8 text j = 124 ∧ Z8 text (j + 1) = 124
   ·have e : Zt text j = 2 := by simp [Zt, h1]
    rw [e];have hl:=Z46 (text:=text) (i:=j + 1) (by omega);have b0:=Zq text (j:=j) (k:=j + 2) (i:=0) (by omega) (by omega);have b1:=Zq text (j:=j) (k:=j + 2) (i:=1) (by omega) (by omega);refine ⟨by omega,by omega,fun m h1' h2'=>?_,?_,fun _=>by rw [b0,Nat.add_zero],by rw [b0,Nat.add_zero]⟩
    ·have : m = j ∨ m = j + 1 := by omega
     rcases this with rfl | rfl <;> simp [Z1f,h1]
    ·unfold Zt; rw [show 0 + 1=1 by rfl,show 0 + 2=2 by rfl,b0,b1,Nat.add_zero,Y9 (by omega),Y9 (by omega),Yb h1]
   ·have e : Zt text j = 1 := by simp [Zt, h3, h2, h1]
    have hs:=h e;rw [e];have hp:=Zhw hs;have hl:=Z46 hp.1;have b0:=Zq text (j:=j) (k:=j + 1) (i:=0) (by omega) (by omega);have b1:=Z7n (text:=text.extract j (j + 1)) (i:=1) (by rw [Z3m text (by omega)]; omega);refine ⟨by omega,by omega,fun m h1' h2'=>?_,?_,fun _=>by rw [b0,Nat.add_zero],by rw [b0,Nat.add_zero]⟩
    ·obtain rfl : m = j := by omega
     exact hp.2
    ·unfold Zt; rw [show 0 + 1=1 by rfl,show 0 + 2=2 by rfl,b1,Y9 (by omega),Y9 (by omega),Y9 (by omega)]
theorem Z2r (text:ByteArray) {j k:Nat} {t:Tok} (hj:j < text.size) (h:Z11 text j=.ok (t,k)) :
 j < k ∧ k ≤ text.size ∧ t.at' = j ∧ t.kind ≠ 6 ∧ Z1f (Z8 text j) = false ∧ Z1f (Z8 text (k - 1)) = false ∧
   Z11 (text.extract j k) 0=.ok ({ t with at':=0 },k - j):=by
 unfold Z11 at h;by_cases hl:Z0k (Z8 text j)=true
 ·rw [Yb hl] at h;simp only at h;obtain ⟨K, hK⟩ : ∃ K, Zz Z4c text (text.size - j) j = K := ⟨_, rfl⟩
  rw [hK] at h;obtain ⟨s1,s2,s3,s4⟩:=Z26 Z4c text (text.size - j) j (Y5 _) (by omega);have hcut:=Z9a Z4c text hj hK;rw [hK] at s1 s2 s3 s4;have hjK:j < K:=by
   rcases Nat.lt_or_ge j K with h' | h';·exact h'
   ·have:=s4 (by omega);rw [show K=j by omega,Z35 hl] at this;cases this
  have hb0:Z8 (text.extract j K) 0=Z8 text j:=by rw [Zq text (by omega) s2,Nat.add_zero]
  have hbl:=Z2z (s3 (K - 1) (by omega) (by omega));have hall:(text.extract j K).extract 0 (K - j)=text.extract j K:=extract_all _ _ (Z3m text s2).symm;by_cases hw:Z34 (text.extract j K)=true
  ·rw [Yb hw] at h;simp only [Except.ok.injEq,Prod.mk.injEq] at h;obtain ⟨rfl,rfl⟩:=h;refine ⟨hjK,s2,rfl,by simp,Z2z (Z35 hl),hbl,?_⟩;unfold Z11;rw [hb0,Yb hl];simp only [hcut,hall];rw [Yb hw]
  ·rw [Y9 hw] at h;by_cases h20 : 20 < K - j;·rw [Yb h20] at h; cases h
   ·rw [Y9 h20] at h;simp only [Except.ok.injEq,Prod.mk.injEq] at h;obtain ⟨rfl,rfl⟩:=h;refine ⟨hjK,s2,rfl,by simp,Z2z (Z35 hl),hbl,?_⟩;unfold Z11;rw [hb0,Yb hl];simp only [hcut,hall];rw [Y9 hw,Y9 (by omega)]
 rw [Y9 hl] at h;by_cases hd:Z0j (Z8 text j)=true
 ·rw [Yb hd] at h;simp only at h;obtain ⟨K, hK⟩ : ∃ K, Zz Z0j text (text.size - j) j = K := ⟨_, rfl⟩
  rw [hK] at h;obtain ⟨s1,s2,s3,s4⟩:=Z26 Z0j text (text.size - j) j (Y5 _) (by omega);have hcut:=Z9a Z0j text hj hK;rw [hK] at s1 s2 s3 s4;have hjK:j < K:=by
   rcases Nat.lt_or_ge j K with h' | h';·exact h'
   ·have:=s4 (by omega);rw [show K=j by omega,hd] at this;cases this
  have hb0:Z8 (text.extract j K) 0=Z8 text j:=by rw [Zq text (by omega) s2,Nat.add_zero]
  have hbl:=Z2z (Za6 (s3 (K - 1) (by omega) (by omega)));have hnum:=Zhx text (j:=j) s2 (K - j) j 0 (Y5 _);rw [Nat.sub_self] at hnum;by_cases h1:10 < K - j∨(1 < K - j∧Z8 text j=48);·rw [Yb h1] at h; cases h
  rw [Y9 h1] at h;by_cases h2:1000000000 < numF text K (K - j) j 0;·rw [Yb h2] at h; cases h
  rw [Y9 h2] at h;simp only [Except.ok.injEq,Prod.mk.injEq] at h;obtain ⟨rfl,rfl⟩:=h;refine ⟨hjK,s2,rfl,by simp,Z2z (Za6 hd),hbl,?_⟩;unfold Z11;rw [hb0,Y9 hl,Yb hd];simp only [hcut];simp only [Nat.sub_zero,hnum];rw [Y9 h1,Y9 h2]
 rw [Y9 hd] at h;by_cases hq:Z8 text j=39
 ·rw [Yb hq] at h;obtain ⟨⟨bs, e, K⟩, hR⟩ : ∃ R, R = Z0f text (j + 1) := ⟨_, rfl⟩
  rw [← hR] at h;simp only at h;by_cases h4:e=4;·rw [Yb h4] at h; cases h
  rw [Y9 h4] at h;by_cases h0:e≠0;·rw [Yb h0] at h; cases h
  rw [Y9 h0] at h;simp only [ne_eq,Decidable.not_not] at h0;subst h0;simp only [Except.ok.injEq,Prod.mk.injEq] at h;obtain ⟨rfl,rfl⟩:=h;obtain ⟨g1,g2,g3,g4⟩:=Zck text (j:=j) _ _ _ _ _ (by omega) hR.symm;refine ⟨by omega,g2,rfl,by simp,by rw [hq]; rfl,by rw [g3]; rfl,?_⟩;have hb0:Z8 (text.extract j K) 0=Z8 text j:=by rw [Zq text (by omega) g2,Nat.add_zero]
  have hqa:Z0f (text.extract j K) (0 + 1)=(bs,0,K - j):=by
   have:=g4 ((text.extract j K).size + 1 - (0 + 1)) (by rw [Z3m text g2]; omega);rw [show j + 1 - j=0 + 1 by omega] at this;exact this
  unfold Z11;rw [hb0,Y9 hl,Y9 hd,Yb hq,hqa];simp
 rw [Y9 hq] at h;by_cases hs:Zt text j=1∧Z5g (Z8 text j)=false;·rw [Yb hs] at h; cases h
 rw [Y9 hs] at h;simp only [Except.ok.injEq,Prod.mk.injEq] at h;obtain ⟨rfl,rfl⟩:=h;obtain ⟨g1,g2,g3,g4,g5,g6⟩:=Zdj text j (fun e=>by
  cases hb:Z5g (Z8 text j) with
  | true=>rfl
  | false=>exact absurd ⟨e,hb⟩ hs)
 refine ⟨by omega,g2,rfl,by simp,g3 j (Y5 _) (by omega),g3 _ (by omega) (by omega),?_⟩;have hall:(text.extract j (j + Zt text j)).extract 0 (0 + Zt text j)=text.extract j (j + Zt text j):=extract_all _ _ (by rw [Z3m text g2]; omega);unfold Z11;rw [g6,Y9 hl,Y9 hd,Y9 hq,g4,Y9 hs,hall];simp
def Zen (text:ByteArray):Nat→List Tok→Prop
 | _,[]=>False
 | i,[t]=>text.size≤Zz Z1f text (text.size - i) i∧t=⟨6,ByteArray.empty,0,Zz Z1f text (text.size - i) i⟩
 | i,t :: u :: l=>∃ k,Zz Z1f text (text.size - i) i < text.size∧Z11 text (Zz Z1f text (text.size - i) i)=.ok (t,k)∧Zen text k (u :: l)
theorem Zeb (text:ByteArray):∀ (f i:Nat) (acc l:List Tok),i≤text.size→text.size - i < f→lexF text f i acc=.ok l→∃ r,l=acc ++ r∧Zen text i r:=by
 intro f;induction f with
 | zero=>intro i acc l _ h2; omega
 | succ f ih =>
   intro i acc l hi hf h;simp only [lexF] at h;obtain ⟨s1,s2,_,_⟩:=Z26 Z1f text (text.size - i) i (Y5 _) hi;by_cases hj:text.size≤Zz Z1f text (text.size - i) i
   ·rw [Yb hj] at h;simp only [Except.ok.injEq] at h;exact ⟨_,h.symm,hj,rfl⟩
   ·rw [Y9 hj] at h;cases ht : Z11 text (Zz Z1f text (text.size - i) i) with
    | error e=>rw [ht] at h; cases h
    | ok x =>
      obtain ⟨t,k⟩:=x;rw [ht] at h;simp only at h;obtain ⟨c1,c2,_,_,_,_,_⟩:=Z2r text (by omega) ht;obtain ⟨r,hr,hS⟩:=ih k _ l c2 (by omega) h;refine ⟨t :: r,by simp [hr],?_⟩;cases r with
      | nil=>exact hS.elim
      | cons u r=>exact ⟨k,by omega,ht,hS⟩
theorem Z5w {text:ByteArray} {l:List Tok} (h:Z5x text=.ok l):Zen text 0 l:=by
 obtain ⟨r,hr,hS⟩:=Zeb text _ 0 [] l (Yp _) (by omega) h;rw [hr]; exact hS
end Go.Proofs.YtmjfllklcpjddaaGreatDoor
namespace Go.Proofs.YtmjfllklcpjddaaGreatDoor
open Go Go.RowKit
set_option maxRecDepth 100000
inductive Tree
 | mk (kind:Int) (text:ByteArray) (n:Int) (kids:List Tree)
def Tree.kind:Tree→Int | .mk k _ _ _=>k
def Tree.text:Tree→ByteArray | .mk _ t _ _=>t
def Tree.n:Tree→Int | .mk _ _ n _=>n
def Tree.kids:Tree→List Tree | .mk _ _ _ l=>l
abbrev PR:=Option (Except (Int×Nat) (Tree×List Tok))
def hdT (ts:List Tok):Tok:=ts.headD ⟨6,ByteArray.empty,0,0⟩
def isT (s:ByteArray) (ts:List Tok):Bool:=(decide ((hdT ts).kind=5) || decide ((hdT ts).kind=2)) && Z0n (hdT ts).text s
def Z2c (e:Int) (ts:List Tok):PR:=some (.error (e,(hdT ts).at'))
def okT (t:Tree) (ts:List Tok):PR:=some (.ok (t,ts))
def Z0p (s:ByteArray) (ts:List Tok) (k:List Tok→PR):PR:=if isT s ts then k ts.tail else Z2c 3 ts
def Z2w (ts:List Tok) (k:ByteArray→List Tok→PR):PR:=if (hdT ts).kind=1 then k (hdT ts).text ts.tail else Z2c 3 ts
def Zx (p:PR) (k:Tree→List Tok→PR):PR:=match p with | none=>none | some (.error e)=>some (.error e) | some (.ok (t,ts))=>k t ts
def Zb:ByteArray:=⟨#[123]⟩
def Zk:ByteArray:=⟨#[125]⟩
def Z08:ByteArray:=⟨#[40]⟩
def Z07:ByteArray:=⟨#[41]⟩
def Zg:ByteArray:=⟨#[59]⟩
def Z0l:ByteArray:=⟨#[44]⟩
def Z2m:ByteArray:=⟨#[58]⟩
def Z98:ByteArray:=⟨#[46]⟩
def s_eq:ByteArray:=⟨#[61]⟩
def Z19:ByteArray:=⟨#[118,97,114]⟩
def Z1a:ByteArray:=⟨#[108,101,116]⟩
def Z02:ByteArray:=⟨#[99,111,110,115,116]⟩
def Z9:ByteArray:=⟨#[102,117,110,99,116,105,111,110]⟩
def s_if:ByteArray:=⟨#[105,102]⟩
def Z58:ByteArray:=⟨#[101,108,115,101]⟩
def Zv:ByteArray:=⟨#[119,104,105,108,101]⟩
def Z04:ByteArray:=⟨#[119,105,116,104]⟩
def Z0d:ByteArray:=⟨#[114,101,116,117,114,110]⟩
def Z1h:ByteArray:=⟨#[116,104,114,111,119]⟩
def Z23:ByteArray:=⟨#[116,114,121]⟩
def Z2a:ByteArray:=⟨#[99,97,116,99,104]⟩
def Zy:ByteArray:=⟨#[102,105,110,97,108,108,121]⟩
def Z4o:ByteArray:=⟨#[33]⟩
def Z1g:ByteArray:=⟨#[116,121,112,101,111,102]⟩
def Z1w:ByteArray:=⟨#[100,101,108,101,116,101]⟩
def Z48:ByteArray:=⟨#[116,114,117,101]⟩
def Z3a:ByteArray:=⟨#[102,97,108,115,101]⟩
def Z4w:ByteArray:=⟨#[110,117,108,108]⟩
def Z1c:ByteArray:=⟨#[117,110,100,101,102,105,110,101,100]⟩
def s_or:ByteArray:=⟨#[124,124]⟩
def Z67:ByteArray:=⟨#[38,38]⟩
def Z3w:ByteArray:=⟨#[61,61,61]⟩
def Z41:ByteArray:=⟨#[60]⟩
def Z4f:ByteArray:=⟨#[43]⟩
def Z54:ByteArray:=⟨#[45]⟩
def Z66:ByteArray:=⟨#[42]⟩
def Z0b:ByteArray:=⟨#[117,115,101,32,115,116,114,105,99,116]⟩
def Z27:ByteArray:=⟨#[115,116,114,105,99,116]⟩
def Z1p (l:List Tree):Bool:=
 match l with
 | .mk k _ _ (x :: _) :: _=>decide (k=15) && decide (x.kind=18) && Z0n x.text Z0b
 | _=>false
def Z15 (level:Nat) (ts:List Tok):Int:=
 match level with
 | 0=>if isT s_or ts then 25 else 0
 | 1=>if isT Z67 ts then 26 else 0
 | 2=>if isT Z3w ts then 27 else 0
 | 3=>if isT Z41 ts then 28 else 0
 | 4=>if isT Z4f ts then 29 else if isT Z54 ts then 30 else 0
 | 5=>if isT Z66 ts then 31 else 0
 | _=>0
def Z1y (ts:List Tok):Int:=if isT Z4o ts then 32 else if isT Z1g ts then 33 else if isT Z1w ts then 34 else 0
def Z24 (ts:List Tok):Int:=if isT Z48 ts then 19 else if isT Z3a ts then 20 else if isT Z4w ts then 21 else if isT Z1c ts then 22 else 0
inductive Job
 | stmts (kind:Int) (acc:List Tree)
 | block (body:Bool)
 | func (kind:Int) (text:ByteArray)
 | params (acc:List Tree)
 | around
 | stmt
 | decl (kind:Int) (must:Bool)
 | try_
 | value
 | assign
 | bin (level:Nat)
 | binLoop (level:Nat) (x:Tree)
 | unary
 | postfix_
 | postLoop (x:Tree)
 | args (acc:List Tree)
 | primary
 | object (acc:List Tree)
def endT (n:Tree) (ts:List Tok):PR:=Z0p Zg ts fun ts=>okT n ts
def Z0e (d:Nat) (ts:List Tok) (p:PR):PR:=if 30 < d + 1 then Z2c 4 ts else p
def Z0:Nat→Job→Nat→List Tok→PR
 | 0,_,_,_=>none
 | f + 1, .stmts kind acc, d, ts =>
   if (if kind=1 then decide ((hdT ts).kind=6) else isT Zk ts) then okT (.mk kind (if Z1p acc then Z27 else ByteArray.empty) 0 acc) ts
   else Zx (Z0e d ts (Z0 f .stmt (d + 1) ts)) fun x ts=>Z0 f (.stmts kind (acc ++ [x])) d ts
 | f + 1, .block body, d, ts =>
   Z0p Zb ts fun ts=>Zx (Z0 f (.stmts 6 []) d ts) fun x ts=>Z0p Zk ts fun ts=>okT (if body then x else .mk 6 ByteArray.empty 0 x.kids) ts
 | f + 1, .func kind text, d, ts =>
   Z0p Z08 ts fun ts=>Zx (Z0 f (.params []) d ts) fun p ts=>Z0p Z07 ts fun ts=>Zx (Z0 f (.block true) d ts) fun b ts=>okT (.mk kind text 0 [p,b]) ts
 | f + 1, .params acc, d, ts =>
   if isT Z07 ts then okT (.mk 40 ByteArray.empty 0 acc) ts
   else (if 0 < acc.length then Z0p Z0l ts else fun k=>k ts) fun ts=>
    if acc.length=8 then Z2c 4 ts else Z2w ts fun s ts=>Z0 f (.params (acc ++ [.mk 23 s 0 []])) d ts
 | f + 1, .around, d, ts =>
   Z0p Z08 ts fun ts=>Zx (Z0 f .value d ts) fun x ts=>Z0p Z07 ts fun ts=>okT x ts
 | f + 1, .stmt, d, ts =>
   if isT Zb ts then Z0 f (.block false) d ts
   else if isT Zg ts then okT (.mk 16 ByteArray.empty 0 []) ts.tail
   else if isT Z19 ts then Zx (Z0 f (.decl 2 false) d ts.tail) endT
   else if isT Z1a ts then Zx (Z0 f (.decl 3 false) d ts.tail) endT
   else if isT Z02 ts then Zx (Z0 f (.decl 4 true) d ts.tail) endT
   else if isT Z9 ts then Z2w ts.tail fun s ts=>Z0 f (.func 5 s) d ts
   else if isT s_if ts then
    Zx (Z0 f .around d ts.tail) fun x ts=>Zx (Z0e d ts (Z0 f .stmt (d + 1) ts)) fun y ts=>
     if isT Z58 ts then Zx (Z0e d ts.tail (Z0 f .stmt (d + 1) ts.tail)) fun z ts=>okT (.mk 7 ByteArray.empty 0 [x,y,z]) ts
     else okT (.mk 7 ByteArray.empty 0 [x,y]) ts
   else if isT Zv ts then
    Zx (Z0 f .around d ts.tail) fun x ts=>Zx (Z0e d ts (Z0 f .stmt (d + 1) ts)) fun y ts=>okT (.mk 8 ByteArray.empty 0 [x,y]) ts
   else if isT Z04 ts then
    Zx (Z0 f .around d ts.tail) fun x ts=>Zx (Z0e d ts (Z0 f .stmt (d + 1) ts)) fun y ts=>okT (.mk 9 ByteArray.empty 0 [x,y]) ts
   else if isT Z0d ts then
    if isT Zg ts.tail then endT (.mk 10 ByteArray.empty 0 []) ts.tail
    else Zx (Z0 f .value d ts.tail) fun x ts=>endT (.mk 10 ByteArray.empty 0 [x]) ts
   else if isT Z1h ts then Zx (Z0 f .value d ts.tail) fun x ts=>endT (.mk 11 ByteArray.empty 0 [x]) ts
   else if isT Z23 ts then Z0 f .try_ d ts.tail
   else Zx (Z0 f .value d ts) fun x ts=>endT (.mk 15 ByteArray.empty 0 [x]) ts
 | f + 1, .decl kind must, d, ts =>
   Z2w ts fun s ts=>
    if must && !isT s_eq ts then Z2c 3 ts
    else if isT s_eq ts then Zx (Z0 f .value d ts.tail) fun x ts=>okT (.mk kind s 0 [x]) ts
    else okT (.mk kind s 0 []) ts
 | f + 1, .try_, d, ts =>
   Zx (Z0 f (.block false) d ts) fun b ts=>
    (fun (k : List Tree → List Tok → PR) =>
     if isT Z2a ts then Z0p Z08 ts.tail fun ts=>Z2w ts fun s ts=>Z0p Z07 ts fun ts=>Zx (Z0 f (.block false) d ts) fun c ts=>k [b,.mk 13 s 0 [c]] ts
     else k [b] ts) fun l ts=>
    if isT Zy ts then Zx (Z0 f (.block false) d ts.tail) fun c ts=>okT (.mk 12 ByteArray.empty 0 (l ++ [.mk 14 ByteArray.empty 0 [c]])) ts
    else if l.length=1 then Z2c 3 ts else okT (.mk 12 ByteArray.empty 0 l) ts
 | f + 1,.value,d,ts=>Z0e d ts (Z0 f .assign (d + 1) ts)
 | f + 1, .assign, d, ts =>
   Zx (Z0 f (.bin 0) d ts) fun x ts'=>
    if isT s_eq ts' then
     if x.kind=23∨x.kind=36 then Zx (Z0 f .value d ts'.tail) fun y ts=>okT (.mk 24 ByteArray.empty 0 [x,y]) ts
     else some (.error (1,(hdT ts).at'))
    else okT x ts'
 | f + 1, .bin level, d, ts =>
   if 6≤level then Z0 f .unary d ts
   else Zx (Z0 f (.bin (level + 1)) d ts) fun x ts=>Z0 f (.binLoop level x) d ts
 | f + 1, .binLoop level x, d, ts =>
   if Z15 level ts=0 then okT x ts
   else Zx (Z0 f (.bin (level + 1)) d ts.tail) fun y ts'=>Z0 f (.binLoop level (.mk (Z15 level ts) ByteArray.empty 0 [x,y])) d ts'
 | f + 1, .unary, d, ts =>
   if Z1y ts=0 then Z0 f .postfix_ d ts
   else Zx (Z0e d ts.tail (Z0 f .unary (d + 1) ts.tail)) fun x ts'=>okT (.mk (Z1y ts) ByteArray.empty 0 [x]) ts'
 | f + 1,.postfix_,d,ts=>Zx (Z0 f .primary d ts) fun x ts=>Z0 f (.postLoop x) d ts
 | f + 1, .postLoop x, d, ts =>
   if isT Z98 ts then Z2w ts.tail fun s ts=>Z0 f (.postLoop (.mk 36 s 0 [x])) d ts
   else if isT Z08 ts then Zx (Z0 f (.args [x]) d ts.tail) fun n ts=>Z0 f (.postLoop n) d ts
   else okT x ts
 | f + 1, .args acc, d, ts =>
   if isT Z07 ts then okT (.mk 35 ByteArray.empty 0 acc) ts.tail
   else (if 1 < acc.length then Z0p Z0l ts else fun k=>k ts) fun ts=>
    if 8 < acc.length then Z2c 4 ts else Zx (Z0 f .value d ts) fun v ts=>Z0 f (.args (acc ++ [v])) d ts
 | f + 1, .primary, d, ts =>
   if (hdT ts).kind=1 then okT (.mk 23 (hdT ts).text 0 []) ts.tail
   else if (hdT ts).kind=3 then okT (.mk 17 ByteArray.empty (hdT ts).n []) ts.tail
   else if (hdT ts).kind=4 then okT (.mk 18 (hdT ts).text 0 []) ts.tail
   else if Z24 ts≠0 then okT (.mk (Z24 ts) ByteArray.empty 0 []) ts.tail
   else if isT Z08 ts then Z0 f .around d ts
   else if isT Z9 ts then
    if (hdT ts.tail).kind=1 then Z0 f (.func 37 (hdT ts.tail).text) d ts.tail.tail
    else Z0 f (.func 37 ByteArray.empty) d ts.tail
   else if isT Zb ts then Z0 f (.object []) d ts.tail
   else Z2c 3 ts
 | f + 1, .object acc, d, ts =>
   if isT Zk ts then okT (.mk 38 ByteArray.empty 0 acc) ts.tail
   else (if 0 < acc.length then Z0p Z0l ts else fun k=>k ts) fun ts=>
    if acc.length=8 then Z2c 4 ts
    else Z2w ts fun s ts=>Z0p Z2m ts fun ts=>Zx (Z0 f .value d ts) fun v ts=>Z0 f (.object (acc ++ [.mk 39 s 0 [v]])) d ts
mutual
def Tree.many:Tree→Nat
 | .mk _ _ _ l=>Z3r l + 1
def Z3r:List Tree→Nat
 | []=>0
 | t :: l=>t.many + Z3r l
end
theorem Z00 {s:ByteArray} {ts:List Tok} (h:isT s ts=true):ts.tail.length < ts.length:=by
 cases ts with
 | nil=>simp [isT,hdT] at h
 | cons t l=>simp
theorem Z0m (ts:List Tok):ts.tail.length≤ts.length:=by cases ts <;> simp
theorem Z3b {ts:List Tok} (h:(hdT ts).kind≠6):ts.tail.length < ts.length:=by
 cases ts with
 | nil=>simp [hdT] at h
 | cons t l=>simp
def Leaves (n:Nat) (p:PR):Prop:=∀ t ts,p=some (.ok (t,ts))→ts.length < n
theorem Leaves.fail {n:Nat} {e:Int} {ts:List Tok}:Leaves n (Z2c e ts):=by intro t ts' h; cases h
theorem Leaves.none {n:Nat}:Leaves n none:=by intro t ts' h; cases h
theorem Leaves.err {n:Nat} {e:Int×Nat}:Leaves n (some (.error e)):=by intro t ts' h; cases h
theorem Leaves.ok {n:Nat} {t:Tree} {ts:List Tok} (h:ts.length < n):Leaves n (okT t ts):=by
 intro t' ts' h';simp only [okT,Option.some.injEq,Except.ok.injEq,Prod.mk.injEq] at h';rw [← h'.2]; exact h
theorem Leaves.bind {n m:Nat} {p:PR} {k:Tree→List Tok→PR} (hp:Leaves m p) (hk:∀ t ts,ts.length < m→Leaves n (k t ts)):Leaves n (Zx p k):=by
 cases p with
 | none=>exact Leaves.none
 | some r =>
   cases r with
   | error e=>exact Leaves.err
   | ok x=>obtain ⟨t,ts⟩:=x; exact hk t ts (hp t ts rfl)
theorem Leaves.want {n:Nat} {s:ByteArray} {ts:List Tok} {k:List Tok→PR} (hk:ts.tail.length < ts.length→Leaves n (k ts.tail)):Leaves n (Z0p s ts k):=by
 unfold Z0p;by_cases h:isT s ts=true;·rw [Yb h]; exact hk (Z00 h)
 ·rw [Y9 h]; exact Leaves.fail
theorem Leaves.name {n:Nat} {ts:List Tok} {k:ByteArray→List Tok→PR} (hk:∀ s,ts.tail.length < ts.length→Leaves n (k s ts.tail)):Leaves n (Z2w ts k):=by
 unfold Z2w;by_cases h:(hdT ts).kind=1;·rw [Yb h]; exact hk _ (Z3b (by omega))
 ·rw [Y9 h]; exact Leaves.fail
theorem Leaves.within {n d:Nat} {ts:List Tok} {p:PR} (h:Leaves n p):Leaves n (Z0e d ts p):=by
 unfold Z0e;by_cases h':30 < d + 1;·rw [Yb h']; exact Leaves.fail
 ·rw [Y9 h']; exact h
theorem Leaves.ite {n:Nat} {c:Prop} [Decidable c] {p q:PR} (hp:c→Leaves n p) (hq:¬ c→Leaves n q):Leaves n (if c then p else q):=by
 by_cases h:c;·rw [Yb h]; exact hp h
 ·rw [Y9 h]; exact hq h
theorem Leaves.comma {n:Nat} {c:Prop} [Decidable c] {ts:List Tok} {k:List Tok→PR} (hk:∀ ts',ts'.length≤ts.length→Leaves n (k ts')):Leaves n ((if c then Z0p Z0l ts else fun k=>k ts) k):=by
 by_cases h:c;·rw [Yb h]; exact Leaves.want fun h'=>hk _ (by omega)
 ·rw [Y9 h]; exact hk _ (Y5 _)
def Job.least:Job→Nat
 | .stmts ..=>1
 | .params ..=>1
 | .binLoop ..=>1
 | .postLoop ..=>1
 | _=>0
theorem Z1j:∀ (f:Nat) (job:Job) (d:Nat) (ts:List Tok),Leaves (ts.length + job.least) (Z0 f job d ts):=by
 intro f;induction f with
 | zero=>intro job d ts; unfold Z0; exact Leaves.none
 | succ f ih =>
   intro job d ts;have ih0:∀ {n:Nat} {job:Job} (d:Nat) (ts:List Tok),ts.length + job.least≤n→Leaves n (Z0 f job d ts):=fun d ts h t ts' e=>Ye (ih _ d ts t ts' e) h;cases job with
   | stmts kind acc =>
     unfold Z0;refine Leaves.ite (fun _=>Leaves.ok (by simp [Job.least])) fun _=>?_;exact Leaves.bind (Leaves.within (ih .stmt _ _)) fun t ts' h=>ih0 _ _ (by simp only [Job.least] at *; omega)
   | block body =>
     unfold Z0;refine Leaves.want fun h=>?_;refine Leaves.bind (ih (.stmts 6 []) _ _) fun t ts' h'=>?_;refine Leaves.want fun h''=>Leaves.ok ?_;simp only [Job.least] at *; omega
   | func kind text =>
     unfold Z0;refine Leaves.want fun h=>Leaves.bind (ih (.params []) _ _) fun t ts' h'=>Leaves.want fun h2=>Leaves.bind (ih (.block true) _ _) fun t ts' h3=>Leaves.ok ?_;simp only [Job.least] at *; omega
   | params acc =>
     unfold Z0;refine Leaves.ite (fun _=>Leaves.ok (by simp [Job.least])) fun _=>?_;refine Leaves.comma fun ts' h=>Leaves.ite (fun _=>Leaves.fail) fun _=>Leaves.name fun s h2=>ih0 _ _ ?_;simp only [Job.least] at *; omega
   | around =>
     unfold Z0;refine Leaves.want fun h=>Leaves.bind (ih .value _ _) fun t ts' h'=>Leaves.want fun h2=>Leaves.ok ?_;simp only [Job.least] at *; omega
   | stmt =>
     unfold Z0;have hend:∀ (n:Tree) (us:List Tok),us.length≤ts.length→Leaves (ts.length + Job.stmt.least) (endT n us):=fun n us h=>Leaves.want fun h2=>Leaves.ok (by simp only [Job.least] at *; omega);have htl:=Z0m ts;refine Leaves.ite (fun h=>ih0 _ _ (by simp [Job.least])) fun _=>?_;refine Leaves.ite (fun h=>Leaves.ok (by have:=Z00 h; simp only [Job.least] at *; omega)) fun _=>?_;refine Leaves.ite (fun h=>Leaves.bind (ih (.decl 2 false) _ _) fun t us h2=>hend _ _ (by simp only [Job.least] at *; omega)) fun _=>?_
     refine Leaves.ite (fun h=>Leaves.bind (ih (.decl 3 false) _ _) fun t us h2=>hend _ _ (by simp only [Job.least] at *; omega)) fun _=>?_;refine Leaves.ite (fun h=>Leaves.bind (ih (.decl 4 true) _ _) fun t us h2=>hend _ _ (by simp only [Job.least] at *; omega)) fun _=>?_;refine Leaves.ite (fun h=>Leaves.name fun s h2=>ih0 _ _ (by simp only [Job.least] at *; omega)) fun _=>?_
     refine Leaves.ite (fun h=>Leaves.bind (ih .around _ _) fun t us h2=>Leaves.bind (Leaves.within (ih .stmt _ _)) fun t vs h3=>Leaves.ite (fun h4=>Leaves.bind (Leaves.within (ih .stmt _ _)) fun t xs h5=>Leaves.ok (by have:=Z0m vs; simp only [Job.least] at *; omega)) (fun _=>Leaves.ok (by simp only [Job.least] at *; omega))) fun _=>?_;refine Leaves.ite (fun h=>Leaves.bind (ih .around _ _) fun t us h2=>Leaves.bind (Leaves.within (ih .stmt _ _)) fun t vs h3=>Leaves.ok (by simp only [Job.least] at *; omega)) fun _=>?_
     refine Leaves.ite (fun h=>Leaves.bind (ih .around _ _) fun t us h2=>Leaves.bind (Leaves.within (ih .stmt _ _)) fun t vs h3=>Leaves.ok (by simp only [Job.least] at *; omega)) fun _=>?_;refine Leaves.ite (fun h=>Leaves.ite (fun h1=>hend _ _ htl) (fun _=>Leaves.bind (ih .value _ _) fun t us h2=>hend _ _ (by simp only [Job.least] at *; omega))) fun _=>?_;refine Leaves.ite (fun h=>Leaves.bind (ih .value _ _) fun t us h2=>hend _ _ (by simp only [Job.least] at *; omega)) fun _=>?_;refine Leaves.ite (fun h=>ih0 _ _ (by simp only [Job.least] at *; omega)) fun _=>?_
     exact Leaves.bind (ih .value _ _) fun t us h2=>hend _ _ (by simp only [Job.least] at *; omega)
   | decl kind must =>
     unfold Z0;refine Leaves.name fun s h=>Leaves.ite (fun _=>Leaves.fail) fun _=>Leaves.ite (fun h2=>Leaves.bind (ih .value _ _) fun t us h3=>Leaves.ok ?_) fun _=>Leaves.ok ?_;·have:=Z0m ts.tail; simp only [Job.least] at *; omega
     ·simp only [Job.least] at *; omega
   | try_ =>
     unfold Z0;refine Leaves.bind (ih (.block false) _ _) fun b us h=>?_;have hk:∀ (l:List Tree) (vs:List Tok),vs.length≤us.length→Leaves (ts.length + Job.try_.least) (if isT Zy vs then Zx (Z0 f (.block false) d vs.tail) fun c ts=>okT (.mk 12 ByteArray.empty 0 (l ++ [.mk 14 ByteArray.empty 0 [c]])) ts else if l.length=1 then Z2c 3 vs else okT (.mk 12 ByteArray.empty 0 l) vs):=by
      intro l vs h2;have:=Z0m vs;refine Leaves.ite (fun _=>Leaves.bind (ih (.block false) _ _) fun t xs h3=>Leaves.ok ?_) fun _=>Leaves.ite (fun _=>Leaves.fail) fun _=>Leaves.ok ?_;·simp only [Job.least] at *; omega
      ·simp only [Job.least] at *; omega
     refine Leaves.ite (fun h1=>?_) fun _=>hk _ _ (Y5 _);refine Leaves.want fun h2=>Leaves.name fun s h3=>Leaves.want fun h4=>Leaves.bind (ih (.block false) _ _) fun c vs h5=>hk _ _ ?_;have:=Z0m us; simp only [Job.least] at *; omega
   | value=>unfold Z0; exact Leaves.within (ih0 _ _ (by simp [Job.least]))
   | assign =>
     unfold Z0;refine Leaves.bind (ih (.bin 0) _ _) fun x us h=>Leaves.ite (fun h1=>Leaves.ite (fun _=>Leaves.bind (ih .value _ _) fun y vs h2=>Leaves.ok ?_) fun _=>Leaves.err) fun _=>Leaves.ok ?_;·have:=Z0m us; simp only [Job.least] at *; omega
     ·simp only [Job.least] at *; omega
   | bin level =>
     unfold Z0;refine Leaves.ite (fun _=>ih0 _ _ (by simp [Job.least])) fun _=>Leaves.bind (ih (.bin (level + 1)) _ _) fun x us h=>ih0 _ _ ?_;simp only [Job.least] at *; omega
   | binLoop level x =>
     unfold Z0;refine Leaves.ite (fun _=>Leaves.ok (by simp [Job.least])) fun _=>Leaves.bind (ih (.bin (level + 1)) _ _) fun y us h=>ih0 _ _ ?_;have:=Z0m ts; simp only [Job.least] at *; omega
   | unary =>
     unfold Z0;refine Leaves.ite (fun _=>ih0 _ _ (by simp [Job.least])) fun _=>Leaves.bind (Leaves.within (ih .unary _ _)) fun y us h=>Leaves.ok ?_;have:=Z0m ts; simp only [Job.least] at *; omega
   | postfix_ =>
     unfold Z0;refine Leaves.bind (ih .primary _ _) fun y us h=>ih0 _ _ ?_;simp only [Job.least] at *; omega
   | postLoop x =>
     unfold Z0;have:=Z0m ts;refine Leaves.ite (fun _=>Leaves.name fun s h=>ih0 _ _ (by simp only [Job.least] at *; omega)) fun _=>Leaves.ite (fun _=>Leaves.bind (ih (.args [x]) _ _) fun y us h=>ih0 _ _ (by simp only [Job.least] at *; omega)) fun _=>Leaves.ok (by simp [Job.least])
   | args acc =>
     unfold Z0;refine Leaves.ite (fun h=>Leaves.ok (by have:=Z00 h; simp only [Job.least] at *; omega)) fun _=>Leaves.comma fun us h=>Leaves.ite (fun _=>Leaves.fail) fun _=>Leaves.bind (ih .value _ _) fun y vs h2=>ih0 _ _ (by simp only [Job.least] at *; omega)
   | primary =>
     unfold Z0;have:=Z0m ts;have:=Z0m ts.tail;refine Leaves.ite (fun h=>Leaves.ok (by have:=Z3b (ts:=ts) (by omega); simp only [Job.least] at *; omega)) fun _=>?_;refine Leaves.ite (fun h=>Leaves.ok (by have:=Z3b (ts:=ts) (by omega); simp only [Job.least] at *; omega)) fun _=>?_;refine Leaves.ite (fun h=>Leaves.ok (by have:=Z3b (ts:=ts) (by omega); simp only [Job.least] at *; omega)) fun _=>?_;refine Leaves.ite (fun h=>Leaves.ok ?_) fun _=>?_
     ·have:ts.tail.length < ts.length:=by
       unfold Z24 at h;by_cases h1:isT Z48 ts=true;·exact Z00 h1
       ·by_cases h2 : isT Z3a ts = true;·exact Z00 h2
        ·by_cases h3 : isT Z4w ts = true;·exact Z00 h3
         ·by_cases h4 : isT Z1c ts = true;·exact Z00 h4
          ·simp [h1,h2,h3,h4] at h
      simp only [Job.least] at *; omega
     refine Leaves.ite (fun _=>ih0 _ _ (by simp [Job.least])) fun _=>?_;refine Leaves.ite (fun _=>Leaves.ite (fun _=>ih0 _ _ (by simp only [Job.least] at *; omega)) fun _=>ih0 _ _ (by simp only [Job.least] at *; omega)) fun _=>?_;exact Leaves.ite (fun _=>ih0 _ _ (by simp only [Job.least] at *; omega)) fun _=>Leaves.fail
   | object acc =>
     unfold Z0;refine Leaves.ite (fun h=>Leaves.ok (by have:=Z00 h; simp only [Job.least] at *; omega)) fun _=>Leaves.comma fun us h=>Leaves.ite (fun _=>Leaves.fail) fun _=>Leaves.name fun s h1=>Leaves.want fun h2=>Leaves.bind (ih .value _ _) fun y vs h2=>ih0 _ _ (by simp only [Job.least] at *; omega)
def Job.rank:Job→Nat
 | .stmts ..=>30
 | .block _=>5
 | .func ..=>1
 | .params _=>1
 | .around=>1
 | .stmt=>20
 | .decl ..=>1
 | .try_=>6
 | .value=>19
 | .assign=>18
 | .bin level=>10 + (6 - level)
 | .binLoop ..=>31
 | .unary=>9
 | .postfix_=>8
 | .postLoop _=>31
 | .args _=>31
 | .primary=>7
 | .object _=>31
def Zi (p:PR):Prop:=p≠none
theorem Zi.fail {e:Int} {ts:List Tok}:Zi (Z2c e ts):=by simp [Zi,Z2c]
theorem Zi.ok {t:Tree} {ts:List Tok}:Zi (okT t ts):=by simp [Zi,okT]
theorem Zi.bind {p:PR} {k:Tree→List Tok→PR} {n:Nat} (hp:Zi p) (hl:Leaves n p) (hk:∀ t ts,ts.length < n→Zi (k t ts)):Zi (Zx p k):=by
 cases p with
 | none=>exact absurd rfl hp
 | some r =>
   cases r with
   | error e=>simp [Zi,Zx]
   | ok x=>obtain ⟨t,ts⟩:=x; exact hk t ts (hl t ts rfl)
theorem Zi.want {s:ByteArray} {ts:List Tok} {k:List Tok→PR} (hk:ts.tail.length < ts.length→Zi (k ts.tail)):Zi (Z0p s ts k):=by
 unfold Z0p;by_cases h:isT s ts=true;·rw [Yb h]; exact hk (Z00 h)
 ·rw [Y9 h]; exact Zi.fail
theorem Zi.name {ts:List Tok} {k:ByteArray→List Tok→PR} (hk:∀ s,ts.tail.length < ts.length→Zi (k s ts.tail)):Zi (Z2w ts k):=by
 unfold Z2w;by_cases h:(hdT ts).kind=1;·rw [Yb h]; exact hk _ (Z3b (by omega))
 ·rw [Y9 h]; exact Zi.fail
theorem Zi.within {d:Nat} {ts:List Tok} {p:PR} (h:Zi p):Zi (Z0e d ts p):=by
 unfold Z0e;by_cases h':30 < d + 1;·rw [Yb h']; exact Zi.fail
 ·rw [Y9 h']; exact h
theorem Zi.ite {c:Prop} [Decidable c] {p q:PR} (hp:c→Zi p) (hq:¬ c→Zi q):Zi (if c then p else q):=by
 by_cases h:c;·rw [Yb h]; exact hp h
 ·rw [Y9 h]; exact hq h
theorem Zi.comma {c:Prop} [Decidable c] {ts:List Tok} {k:List Tok→PR} (hk:∀ ts',ts'.length≤ts.length→Zi (k ts')):Zi ((if c then Z0p Z0l ts else fun k=>k ts) k):=by
 by_cases h:c;·rw [Yb h]; exact Zi.want fun h'=>hk _ (by omega)
 ·rw [Y9 h]; exact hk _ (Y5 _)
theorem Z8l {ts:List Tok} (h:¬ Z1y ts=0):ts.tail.length < ts.length:=by
 unfold Z1y at h;by_cases h1:isT Z4o ts=true;·exact Z00 h1
 ·by_cases h2 : isT Z1g ts = true;·exact Z00 h2
  ·by_cases h3 : isT Z1w ts = true;·exact Z00 h3
   ·simp [h1,h2,h3] at h
theorem Z6k {level:Nat} {ts:List Tok} (h:¬ Z15 level ts=0):ts.tail.length < ts.length:=by
 have key:∀ {s:ByteArray} {x y:Int},¬ (if isT s ts then x else y)=0→¬ y=0∨ts.tail.length < ts.length:=by
  intro s x y h;by_cases h1:isT s ts=true;·exact .inr (Z00 h1)
  ·rw [Y9 h1] at h; exact .inl h
 unfold Z15 at h;split at h
 all_goals first
  | exact absurd rfl h
  | (rcases key h with h | h; (exact absurd rfl h); exact h)
  | (rcases key h with h | h; (rcases key h with h | h; (exact absurd rfl h); exact h); exact h)
theorem Za0:∀ (f:Nat) (job:Job) (d:Nat) (ts:List Tok),40 * ts.length + job.rank < f→Zi (Z0 f job d ts):=by
 intro f;induction f with
 | zero=>intro job d ts h; omega
 | succ f ih =>
   intro job d ts hf;have L:=Z1j f;have htl:=Z0m ts;cases job with
   | stmts kind acc =>
     unfold Z0;refine Zi.ite (fun _=>Zi.ok) fun _=>Zi.bind (n:=ts.length) (Zi.within (ih _ _ _ (by simp only [Job.rank] at *; omega))) (Leaves.within (L .stmt _ _)) fun t us h=>ih _ _ _ (by simp only [Job.rank] at *; omega)
   | block body =>
     unfold Z0;refine Zi.want fun h=>Zi.bind (ih _ _ _ (by simp only [Job.rank] at *; omega)) (L _ _ _) fun t us h=>Zi.want fun h2=>Zi.ok
   | func kind text =>
     unfold Z0;refine Zi.want fun h=>Zi.bind (ih _ _ _ (by simp only [Job.rank] at *; omega)) (L (.params []) _ _) fun t us h=>Zi.want fun h2=>Zi.bind (ih _ _ _ (by simp only [Job.rank,Job.least] at *; omega)) (L _ _ _) fun t us h=>Zi.ok
   | params acc =>
     unfold Z0;refine Zi.ite (fun _=>Zi.ok) fun _=>Zi.comma fun us h=>Zi.ite (fun _=>Zi.fail) fun _=>Zi.name fun s h2=>ih _ _ _ (by simp only [Job.rank] at *; omega)
   | around =>
     unfold Z0;refine Zi.want fun h=>Zi.bind (ih _ _ _ (by simp only [Job.rank] at *; omega)) (L _ _ _) fun t us h=>Zi.want fun h2=>Zi.ok
   | stmt =>
     unfold Z0;have hend:∀ (n:Tree) (us:List Tok),Zi (endT n us):=fun n us=>Zi.want fun h2=>Zi.ok;refine Zi.ite (fun h=>ih _ _ _ (by simp only [Job.rank] at *; omega)) fun _=>?_;refine Zi.ite (fun h=>Zi.ok) fun _=>?_;refine Zi.ite (fun h=>Zi.bind (ih _ _ _ (by simp only [Job.rank] at *; omega)) (L _ _ _) fun t us h2=>hend _ _) fun _=>?_;refine Zi.ite (fun h=>Zi.bind (ih _ _ _ (by simp only [Job.rank] at *; omega)) (L _ _ _) fun t us h2=>hend _ _) fun _=>?_
     refine Zi.ite (fun h=>Zi.bind (ih _ _ _ (by simp only [Job.rank] at *; omega)) (L _ _ _) fun t us h2=>hend _ _) fun _=>?_;refine Zi.ite (fun h=>Zi.name fun s h2=>ih _ _ _ (by simp only [Job.rank] at *; omega)) fun _=>?_;refine Zi.ite (fun h=>?_) fun _=>?_
     ·have:=Z00 h;refine Zi.bind (ih _ _ _ (by simp only [Job.rank] at *; omega)) (L .around _ _) fun t us h2=>?_;refine Zi.bind (Zi.within (ih _ _ _ (by simp only [Job.rank,Job.least] at *; omega))) (Leaves.within (L .stmt _ _)) fun t vs h3=>?_;have:=Z0m vs;exact Zi.ite (fun h4=>Zi.bind (Zi.within (ih _ _ _ (by simp only [Job.rank,Job.least] at *; omega))) (Leaves.within (L .stmt _ _)) fun t xs h5=>Zi.ok) fun _=>Zi.ok
     refine Zi.ite (fun h=>?_) fun _=>?_
     ·have:=Z00 h;refine Zi.bind (ih _ _ _ (by simp only [Job.rank] at *; omega)) (L .around _ _) fun t us h2=>?_;exact Zi.bind (Zi.within (ih _ _ _ (by simp only [Job.rank,Job.least] at *; omega))) (Leaves.within (L .stmt _ _)) fun t vs h3=>Zi.ok
     refine Zi.ite (fun h=>?_) fun _=>?_
     ·have:=Z00 h;refine Zi.bind (ih _ _ _ (by simp only [Job.rank] at *; omega)) (L .around _ _) fun t us h2=>?_;exact Zi.bind (Zi.within (ih _ _ _ (by simp only [Job.rank,Job.least] at *; omega))) (Leaves.within (L .stmt _ _)) fun t vs h3=>Zi.ok
     refine Zi.ite (fun h=>Zi.ite (fun h1=>hend _ _) fun _=>Zi.bind (ih _ _ _ (by simp only [Job.rank] at *; omega)) (L _ _ _) fun t us h2=>hend _ _) fun _=>?_;refine Zi.ite (fun h=>Zi.bind (ih _ _ _ (by simp only [Job.rank] at *; omega)) (L _ _ _) fun t us h2=>hend _ _) fun _=>?_;refine Zi.ite (fun h=>ih _ _ _ (by simp only [Job.rank] at *; omega)) fun _=>?_;exact Zi.bind (ih _ _ _ (by simp only [Job.rank] at *; omega)) (L _ _ _) fun t us h2=>hend _ _
   | decl kind must =>
     unfold Z0;refine Zi.name fun s h=>Zi.ite (fun _=>Zi.fail) fun _=>Zi.ite (fun h2=>Zi.bind (ih _ _ _ ?_) (L _ _ _) fun t us h3=>Zi.ok) fun _=>Zi.ok;have:=Z0m ts.tail; simp only [Job.rank] at *; omega
   | try_ =>
     unfold Z0;refine Zi.bind (ih _ _ _ (by simp only [Job.rank] at *; omega)) (L (.block false) _ _) fun b us h=>?_;have hk:∀ (l:List Tree) (vs:List Tok),vs.length≤us.length→Zi (if isT Zy vs then Zx (Z0 f (.block false) d vs.tail) fun c ts=>okT (.mk 12 ByteArray.empty 0 (l ++ [.mk 14 ByteArray.empty 0 [c]])) ts else if l.length=1 then Z2c 3 vs else okT (.mk 12 ByteArray.empty 0 l) vs):=by
      intro l vs h2;have:=Z0m vs;exact Zi.ite (fun _=>Zi.bind (ih _ _ _ (by simp only [Job.rank,Job.least] at *; omega)) (L _ _ _) fun t xs h3=>Zi.ok) fun _=>Zi.ite (fun _=>Zi.fail) fun _=>Zi.ok
     refine Zi.ite (fun h1=>?_) fun _=>hk _ _ (Y5 _);have:=Z0m us;refine Zi.want fun h2=>Zi.name fun s h3=>Zi.want fun h4=>Zi.bind (ih _ _ _ (by simp only [Job.rank,Job.least] at *; omega)) (L (.block false) _ _) fun c vs h5=>hk _ _ ?_;simp only [Job.least] at *; omega
   | value=>unfold Z0; exact Zi.within (ih _ _ _ (by simp only [Job.rank] at *; omega))
   | assign =>
     unfold Z0;refine Zi.bind (ih _ _ _ (by simp only [Job.rank] at *; omega)) (L (.bin 0) _ _) fun x us h=>Zi.ite (fun h1=>Zi.ite (fun _=>Zi.bind (ih _ _ _ ?_) (L _ _ _) fun y vs h2=>Zi.ok) fun _=>by simp [Zi]) fun _=>Zi.ok;have:=Z0m us; simp only [Job.rank,Job.least] at *; omega
   | bin level =>
     unfold Z0;refine Zi.ite (fun h=>ih _ _ _ (by simp only [Job.rank] at *; omega)) fun h=>Zi.bind (ih _ _ _ (by simp only [Job.rank] at *; omega)) (L (.bin (level + 1)) _ _) fun x us h=>ih _ _ _ (by simp only [Job.rank,Job.least] at *; omega)
   | binLoop level x =>
     unfold Z0;refine Zi.ite (fun _=>Zi.ok) fun h0=>Zi.bind (ih _ _ _ ?_) (L (.bin (level + 1)) _ _) fun y us h=>ih _ _ _ ?_;·have:=Z6k h0; simp only [Job.rank] at *; omega
     ·have:=Z6k h0; simp only [Job.rank,Job.least] at *; omega
   | unary =>
     unfold Z0;refine Zi.ite (fun _=>ih _ _ _ (by simp only [Job.rank] at *; omega)) fun h0=>Zi.bind (Zi.within (ih _ _ _ ?_)) (Leaves.within (L _ _ _)) fun y us h=>Zi.ok;have:=Z8l h0; simp only [Job.rank] at *; omega
   | postfix_ =>
     unfold Z0;exact Zi.bind (ih _ _ _ (by simp only [Job.rank] at *; omega)) (L .primary _ _) fun y us h=>ih _ _ _ (by simp only [Job.rank,Job.least] at *; omega)
   | postLoop x =>
     unfold Z0;refine Zi.ite (fun h=>Zi.name fun s h2=>ih _ _ _ (by simp only [Job.rank] at *; omega)) fun _=>Zi.ite (fun h=>?_) fun _=>Zi.ok;have:=Z00 h;exact Zi.bind (ih _ _ _ (by simp only [Job.rank] at *; omega)) (L (.args [x]) _ _) fun y us h=>ih _ _ _ (by simp only [Job.rank,Job.least] at *; omega)
   | args acc =>
     unfold Z0;exact Zi.ite (fun h=>Zi.ok) fun _=>Zi.comma fun us h=>Zi.ite (fun _=>Zi.fail) fun _=>Zi.bind (ih _ _ _ (by simp only [Job.rank] at *; omega)) (L .value _ _) fun y vs h2=>ih _ _ _ (by simp only [Job.rank,Job.least] at *; omega)
   | primary =>
     unfold Z0;have:=Z0m ts.tail;refine Zi.ite (fun _=>Zi.ok) fun _=>Zi.ite (fun _=>Zi.ok) fun _=>Zi.ite (fun _=>Zi.ok) fun _=>Zi.ite (fun _=>Zi.ok) fun _=>?_;refine Zi.ite (fun _=>ih _ _ _ (by simp only [Job.rank] at *; omega)) fun _=>?_;refine Zi.ite (fun _=>Zi.ite (fun _=>ih _ _ _ (by simp only [Job.rank] at *; omega)) fun _=>ih _ _ _ (by simp only [Job.rank] at *; omega)) fun _=>?_;exact Zi.ite (fun h=>ih _ _ _ (by have:=Z00 h; simp only [Job.rank] at *; omega)) fun _=>Zi.fail
   | object acc =>
     unfold Z0;exact Zi.ite (fun h=>Zi.ok) fun _=>Zi.comma fun us h=>Zi.ite (fun _=>Zi.fail) fun _=>Zi.name fun s h1=>Zi.want fun h2=>Zi.bind (ih _ _ _ (by simp only [Job.rank] at *; omega)) (L .value _ _) fun y vs h2=>ih _ _ _ (by simp only [Job.rank,Job.least] at *; omega)
def Z0c (text:ByteArray):Except (Int×Int) Tree:=
 if 3000 < text.size then .error (4,-1)
 else match Z5x text with
  | .error (e,p)=>.error (e,p)
  | .ok ts => match Z0 (40 * ts.length + 31) (.stmts 1 []) 0 ts with
    | none=>.error (0,-2)
    | some (.error (e,p))=>.error (e,p)
    | some (.ok (t,_))=>if 1500 < t.many then .error (4,-1) else .ok t
end Go.Proofs.YtmjfllklcpjddaaGreatDoor
namespace Go.Proofs
def Tryz.lays137_ren:Go.Shelf.Ren:=⟨fun | 137=>62 | 217=>92 | 266=>118 | n=>n,fun | 9=>9 | 5=>5 | 3=>3 | n=>n,fun | n=>n⟩
theorem Tryz.lays137:Go.Proofs.Lays.n137 Tryz.prog Tryz.lays137_ren:={
 mixed:=by kernel_rfl
 f137:=Tryz.func62.trans (congrArg some (by kernel_rfl))
 f217:=Tryz.func92.trans (congrArg some (by kernel_rfl))
 f266:=Tryz.func118.trans (congrArg some (by kernel_rfl))
 t3:=Tryz.underlying3
 a3:=Tryz.isAgg3
 z3:=Tryz.sizeOf3
 v3:=Tryz.zeroValue3
 t5:=Tryz.underlying5
 a5:=Tryz.isAgg5
 z5:=Tryz.sizeOf5
 v5:=Tryz.zeroValue5
 t9:=Tryz.underlying9
 a9:=Tryz.isAgg9
 z9:=Tryz.sizeOf9
 v9:=Tryz.zeroValue9 }
open Go.RowKit in
theorem Tryz.strings_IndexByte (s:ByteArray) (c:Int) (w:World) :
 Calls Tryz.prog 62 #[.string s,.int .u8 c] w fun e w'=>e=.returned (.int .i64 (Lib.indexByte s.data.toList c.toNat.toUInt8))∧w'=w:=Any.strings_IndexByte Tryz.lays137 s c w
end Go.Proofs
