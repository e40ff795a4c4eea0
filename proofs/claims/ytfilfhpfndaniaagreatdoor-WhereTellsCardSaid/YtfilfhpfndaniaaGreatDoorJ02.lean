/- Package lex: words of the language. -/
import Derived.Test.YtfilfhpfndaniaaGreatDoorJ01
import Derived.Test.YtfilfhpfndaniaaGreatDoorRows
import Derived.Shelf.Small.Strs
namespace Go.Proofs.YtfilfhpfndaniaaGreatDoor
open Go Go.RowKit
set_option maxRecDepth 100000
def Z5a:List ByteArray:=match (Rows.laid_sloppyscope_lex_wordList:DataW Unit) with
 | .agg l => l.map fun
   | .lit (.string bs)=>⟨bs.toArray⟩
   | _=>⟨#[]⟩
 | _=>[]
theorem Z6l:Z5a.length=19:=by kernel_rfl
def Z3l (s:ByteArray):Bool:=Lib.containsS Z5a s
def Words (w:World):Prop:=∀ j,j < 19→w.cell? ⟨2,j,none⟩=some (.string (Z5a.getD j ByteArray.empty))
theorem Zfb (w:World) (s:ByteArray) (hW:Words w) :
 Calls Tryz.prog 64 #[.string s] w fun e w'=>e=.returned (.bool (Z3l s))∧w'=w:=by
 have HC:=Tryz.slices_Contains_string 2 0 19 19 Z5a s w (by rw [Z6l]; omega) (by omega) (fun j hj=>by rw [Nat.zero_add]; exact hW j (by rw [Z6l] at hj; exact hj));rw [show Z5a.take 19=Z5a by rw [← Z6l]; exact List.take_length] at HC;have HC:=lh HC;clear hW;unfold Z3l;generalize Lib.containsS Z5a s=B at HC ⊢;go_enter Tryz.func64,Tryz.ntmps64
 go_wp2_with fail
 refine HC.out.mono ?_;rintro e w1 ⟨rfl,rfl⟩;go_wp2;go_ret;exact ⟨rfl,rfl⟩
end Go.Proofs.YtfilfhpfndaniaaGreatDoor
namespace Go.Proofs.YtfilfhpfndaniaaGreatDoor
open Go Go.RowKit
set_option maxRecDepth 100000
structure Tok where
 kind:Int
 text:ByteArray
 n:Int
 at':Nat
def numF (text:ByteArray) (k:Nat):Nat→Nat→Int→Int
 | 0,_,n=>n
 | f + 1,i,n=>if i < k then numF text k f (i + 1) (10 * n + (Z9 text i - 48)) else n
def Zw (text:ByteArray) (j:Nat):Nat:=
 if Z9 text j=61∧Z9 text (j + 1)=61∧Z9 text (j + 2)=61 then 3
 else if Z9 text j=38∧Z9 text (j + 1)=38 then 2
 else if Z9 text j=124∧Z9 text (j + 1)=124 then 2
 else 1
def Z66 (c:Int):Bool:=c == 40 || c == 41 || c == 123 || c == 125 || c == 91 || c == 93 || c == 59 || c == 58 || c == 44 || c == 46 || c == 61 || c == 43 || c == 45 || c == 42 || c == 60 || c == 33
def Z1h (text:ByteArray) (j:Nat):Except (Int×Nat) (Tok×Nat):=
 if Z0s (Z9 text j) then
  let k:=Z02 Z55 text (text.size - j) j
  if Z3l (text.extract j k) then .ok (⟨2,text.extract j k,0,j⟩,k)
  else if 20 < k - j then .error (4,j)
  else .ok (⟨1,text.extract j k,0,j⟩,k)
 else if Z0r (Z9 text j) then
  let k:=Z02 Z0r text (text.size - j) j
  if 10 < k - j∨(1 < k - j∧Z9 text j=48) then .error (3,j)
  else if 1000000000 < numF text k (k - j) j 0 then .error (2,j)
  else .ok (⟨3,ByteArray.empty,numF text k (k - j) j 0,j⟩,k)
 else if Z9 text j=39 then
  if (Z0n text (j + 1)).2.1=4 then .error (4,j)
  else if (Z0n text (j + 1)).2.1≠0 then .error (3,(Z0n text (j + 1)).2.2)
  else .ok (⟨4,⟨(Z0n text (j + 1)).1.toArray⟩,0,j⟩,(Z0n text (j + 1)).2.2)
 else if Zw text j=1∧Z66 (Z9 text j)=false then .error (3,j)
 else .ok (⟨5,text.extract j (j + Zw text j),0,j⟩,j + Zw text j)
def lexF (text:ByteArray):Nat→Nat→List Tok→Except (Int×Nat) (List Tok)
 | 0,_,acc=>.ok acc
 | f + 1, i, acc =>
   let j:=Z02 Z1t text (text.size - i) i
   if text.size≤j then .ok (acc ++ [⟨6,ByteArray.empty,0,j⟩])
   else match Z1h text j with
    | .error e=>.error e
    | .ok (t,k)=>lexF text f k (acc ++ [t])
def Z6a (text:ByteArray):Except (Int×Nat) (List Tok):=lexF text (text.size + 1) 0 []
theorem Z8d {text:ByteArray} {i:Nat} (h:text.size≤i):Z9 text i=0:=by
 have h':¬ i < text.data.size:=by change ¬ i < text.size; omega
 unfold Z9 Array.getD;rw [dif_neg h'];rfl
theorem Z4x {text:ByteArray} {i:Nat} (h:Z9 text i≠0):i < text.size:=by
 rcases Nat.lt_or_ge i text.size with h' | h';·exact h'
 ·exact absurd (Z8d h') h
theorem getD_extract (text:ByteArray) {j k i:Nat} (h:i < k - j) (hk:k≤text.size):(text.extract j k).data.getD i 0=text.data.getD (j + i) 0:=by
 have h2:j + i < text.data.size:=by change _ < text.size; omega
 have h1:i < (text.extract j k).data.size:=by
  change i < (text.extract j k).size;rw [ByteArray.size_extract]; omega
 simp only [Array.getD,dif_pos h1,dif_pos h2];simp [ByteArray.data_extract]
theorem Zu (text:ByteArray) {j k i:Nat} (h:i < k - j) (hk:k≤text.size):Z9 (text.extract j k) i=Z9 text (j + i):=by
 unfold Z9; rw [getD_extract text h hk]
theorem Z48 (text:ByteArray) {j k:Nat} (hk:k≤text.size):(text.extract j k).size=k - j:=by
 rw [ByteArray.size_extract]; omega
theorem Z2m (p:Int→Bool) (text:ByteArray):∀ (f i:Nat),text.size - i≤f→i≤text.size →
 i≤Z02 p text f i∧Z02 p text f i≤text.size∧(∀ m,i≤m→m < Z02 p text f i→p (Z9 text m)=true)∧(Z02 p text f i < text.size→p (Z9 text (Z02 p text f i))=false):=by
 intro f;induction f with
 | zero=>intro i h hi; simp only [Z02]; exact ⟨Y5 _,hi,fun m h1 h2=>by omega,fun h'=>by omega⟩
 | succ f ih =>
   intro i h hi;simp only [Z02];by_cases hc:i < text.size∧p (Z9 text i)=true
   ·rw [Yb (by simp [hc.1, hc.2])];obtain ⟨h1, h2, h3, h4⟩ := ih (i + 1) (by omega) (by omega);refine ⟨by omega, h2, fun m hm hm2 => ?_, h4⟩;by_cases e : m = i;·rw [e]; exact hc.2
    ·exact h3 m (by omega) hm2
   ·rw [Y9 (by simpa using hc)];refine ⟨Y5 _,hi,fun m h1 h2=>by omega,fun h'=>?_⟩;simpa [h'] using hc
theorem Zd1 (p:Int→Bool) (text:ByteArray):∀ (f i k:Nat),text.size - i≤f→i≤k→k≤text.size→(∀ m,i≤m→m < k→p (Z9 text m)=true)→(k < text.size→p (Z9 text k)=false)→Z02 p text f i=k:=by
 intro f;induction f with
 | zero=>intro i k h h1 h2 _ _; simp only [Z02]; omega
 | succ f ih =>
   intro i k h h1 h2 h3 h4;simp only [Z02];by_cases e:i=k
   ·subst e;rw [Y9];simp only [Bool.and_eq_true,decide_eq_true_eq,not_and,Bool.not_eq_true];exact h4
   ·rw [Yb (by simp [h3 i (Nat.le_refl _) (by omega)]; omega)];exact ih (i + 1) k (by omega) (by omega) h2 (fun m a b=>h3 m (by omega) b) h4
theorem Z93 (p:Int→Bool) (text:ByteArray) {j k:Nat} (hj:j < text.size) (hk:Z02 p text (text.size - j) j=k) :
 Z02 p (text.extract j k) ((text.extract j k).size - 0) 0=k - j:=by
 obtain ⟨h1,h2,h3,h4⟩:=Z2m p text (text.size - j) j (Y5 _) (by omega);rw [hk] at h1 h2 h3 h4;have hs:=Z48 text (j:=j) h2;refine Zd1 p _ _ _ _ (by omega) (by omega) (by omega) (fun m _ hm=>?_) (fun h=>by omega);rw [Zu text hm h2];exact h3 _ (by omega) (by omega)
theorem Zj1 (text:ByteArray) {j k:Nat} (hk:k≤text.size):∀ (f i:Nat) (n:Int),j≤i→numF (text.extract j k) (k - j) f (i - j) n=numF text k f i n:=by
 intro f;induction f with
 | zero=>intro i n _; rfl
 | succ f ih =>
   intro i n hi;simp only [numF];by_cases h:i < k
   ·rw [Yb (by omega),Yb h,Zu text (by omega) hk,show j + (i - j)=i by omega,show i - j + 1=i + 1 - j by omega];exact ih (i + 1) _ (by omega)
   ·rw [Y9 (by omega),Y9 h]
theorem Ze7 (text:ByteArray) {j:Nat}:∀ (f i:Nat) (acc bs:List UInt8) (k:Nat),j≤i→Z0q text f i acc=(bs,0,k) →
 i < k∧k≤text.size∧Z9 text (k - 1)=39∧∀ f',k - i≤f'→Z0q (text.extract j k) f' (i - j) acc=(bs,0,k - j):=by
 intro f;induction f with
 | zero=>intro i acc bs k _ h; simp [Z0q] at h
 | succ f ih =>
   intro i acc bs k hj h;simp only [Z0q] at h;by_cases h1:text.size≤i∨Z9 text i=10;·rw [Yb h1] at h; simp at h
   rw [Y9 h1] at h;simp only [not_or,Nat.not_le] at h1;by_cases h2:Z9 text i=39
   ·rw [Yb h2] at h;by_cases h3 : 500 < acc.length;·rw [Yb h3] at h; simp at h
    rw [Y9 h3] at h;simp only [Prod.mk.injEq,true_and] at h;obtain ⟨rfl,rfl⟩:=h;refine ⟨by omega,by omega,by simpa using h2,fun f' hf=>?_⟩;obtain ⟨g,rfl⟩:∃ g,f'=g + 1:=⟨f' - 1,by omega⟩
    have hb:Z9 (text.extract j (i + 1)) (i - j)=Z9 text i:=by
     rw [Zu text (by omega) (by omega),show j + (i - j)=i by omega]
    have hs:=Z48 text (j:=j) (k:=i + 1) (by omega);simp only [Z0q,hb,hs];rw [Y9 (by omega),Yb h2,Y9 h3,show i - j + 1=i + 1 - j by omega]
   rw [Y9 h2] at h;by_cases h3:Z9 text i=92
   ·rw [Yb h3] at h;by_cases h4 : i + 1 < text.size
    ·rw [Yb h4] at h;cases he : Z71 (Z9 text (i + 1)) with
     | none=>rw [he] at h; simp at h
     | some e =>
       rw [he] at h;simp only at h;obtain ⟨g1,g2,g3,g4⟩:=ih (i + 2) _ bs k (by omega) h;refine ⟨by omega,g2,g3,fun f' hf=>?_⟩;obtain ⟨g,rfl⟩:∃ g,f'=g + 1:=⟨f' - 1,by omega⟩
       have hb:Z9 (text.extract j k) (i - j)=Z9 text i:=by
        rw [Zu text (by omega) (by omega),show j + (i - j)=i by omega]
       have hb1:Z9 (text.extract j k) (i - j + 1)=Z9 text (i + 1):=by
        rw [Zu text (by omega) (by omega),show j + (i - j + 1)=i + 1 by omega]
       have hs:=Z48 text (j:=j) (k:=k) g2;simp only [Z0q,hb,hs,hb1];rw [Y9 (by omega),Y9 h2,Yb h3,Yb (by omega),he];simp only;rw [show i - j + 2=i + 2 - j by omega];exact g4 g (by omega)
    ·rw [Y9 h4] at h; simp at h
   ·rw [Y9 h3] at h;obtain ⟨g1, g2, g3, g4⟩ := ih (i + 1) _ bs k (by omega) h;refine ⟨by omega, g2, g3, fun f' hf => ?_⟩;obtain ⟨g, rfl⟩ : ∃ g, f' = g + 1 := ⟨f' - 1, by omega⟩
    have hb:Z9 (text.extract j k) (i - j)=Z9 text i:=by
     rw [Zu text (by omega) (by omega),show j + (i - j)=i by omega]
    have hd:(text.extract j k).data.getD (i - j) 0=text.data.getD i 0:=by
     rw [getD_extract text (by omega) (by omega),show j + (i - j)=i by omega]
    have hs:=Z48 text (j:=j) (k:=k) g2;simp only [Z0q,hb,hs,hd];rw [Y9 (by omega),Y9 h2,Y9 h3,show i - j + 1=i + 1 - j by omega];exact g4 g (by omega)
theorem Z3d {c:Int} (h:Z55 c=true):Z1t c=false:=by
 unfold Z55 Z0s Z0r at h;unfold Z1t;simp only [Bool.or_eq_true,Bool.and_eq_true,decide_eq_true_eq] at h;simp only [Bool.or_eq_false_iff,decide_eq_false_iff_not];omega
theorem Z3i {c:Int} (h:Z0s c=true):Z55 c=true:=by simp [Z55,h]
theorem Zae {c:Int} (h:Z0r c=true):Z55 c=true:=by simp [Z55,h]
theorem Zjm {c:Int} (h:Z66 c=true):c≠0∧Z1t c=false:=by
 simp only [Z66,Bool.or_eq_true,beq_iff_eq] at h;simp only [Z1t,Bool.or_eq_false_iff,decide_eq_false_iff_not];omega
theorem extract_all (b:ByteArray) (n:Nat) (h:n=b.size):b.extract 0 n=b:=by subst h; simp
theorem Zdx (text:ByteArray) (j:Nat) (h:Zw text j=1→Z66 (Z9 text j)=true) :
 1 ≤ Zw text j ∧ j + Zw text j ≤ text.size ∧ (∀ m, j ≤ m → m < j + Zw text j → Z1t (Z9 text m) = false) ∧ Zw (text.extract j (j + Zw text j)) 0 = Zw text j ∧
   (Zw text j=1→Z9 (text.extract j (j + Zw text j)) 0=Z9 text j)∧Z9 (text.extract j (j + Zw text j)) 0=Z9 text j:=by
 by_cases h3:Z9 text j=61∧Z9 text (j + 1)=61∧Z9 text (j + 2)=61
 ·have e : Zw text j = 3 := by simp [Zw, h3]
  rw [e];have hl:=Z4x (text:=text) (i:=j + 2) (by omega);have b0:=Zu text (j:=j) (k:=j + 3) (i:=0) (by omega) (by omega);have b1:=Zu text (j:=j) (k:=j + 3) (i:=1) (by omega) (by omega);have b2:=Zu text (j:=j) (k:=j + 3) (i:=2) (by omega) (by omega);refine ⟨by omega,by omega,fun m h1 h2=>?_,?_,fun _=>by rw [b0,Nat.add_zero],by rw [b0,Nat.add_zero]⟩
  ·have : m = j ∨ m = j + 1 ∨ m = j + 2 := by omega
   rcases this with rfl | rfl | rfl <;> simp [Z1t,h3]
  ·unfold Zw; rw [show 0 + 1=1 by rfl,show 0 + 2=2 by rfl,b0,b1,b2,Nat.add_zero,Yb h3]
 ·by_cases h2 : Z9 text j = 38 ∧ Z9 text (j + 1) = 38
  ·have e : Zw text j = 2 := by simp [Zw, h2]
   rw [e];have hl:=Z4x (text:=text) (i:=j + 1) (by omega);have b0:=Zu text (j:=j) (k:=j + 2) (i:=0) (by omega) (by omega);have b1:=Zu text (j:=j) (k:=j + 2) (i:=1) (by omega) (by omega);refine ⟨by omega,by omega,fun m h1 h2'=>?_,?_,fun _=>by rw [b0,Nat.add_zero],by rw [b0,Nat.add_zero]⟩
   ·have : m = j ∨ m = j + 1 := by omega
    rcases this with rfl | rfl <;> simp [Z1t,h2]
   ·unfold Zw; rw [show 0 + 1=1 by rfl,show 0 + 2=2 by rfl,b0,b1,Nat.add_zero,Y9 (by omega),Yb h2]
  ·by_cases h1 : Z9 text j = 124 ∧ Z9 text (j + 1) = 124
   ·have e : Zw text j = 2 := by simp [Zw, h1]
    rw [e];have hl:=Z4x (text:=text) (i:=j + 1) (by omega);have b0:=Zu text (j:=j) (k:=j + 2) (i:=0) (by omega) (by omega);have b1:=Zu text (j:=j) (k:=j + 2) (i:=1) (by omega) (by omega);refine ⟨by omega,by omega,fun m h1' h2'=>?_,?_,fun _=>by rw [b0,Nat.add_zero],by rw [b0,Nat.add_zero]⟩
    ·have : m = j ∨ m = j + 1 := by omega
     rcases this with rfl | rfl <;> simp [Z1t,h1]
    ·unfold Zw; rw [show 0 + 1=1 by rfl,show 0 + 2=2 by rfl,b0,b1,Nat.add_zero,Y9 (by omega),Y9 (by omega),Yb h1]
   ·have e : Zw text j = 1 := by simp [Zw, h3, h2, h1]
    have hs:=h e;rw [e];have hp:=Zjm hs;have hl:=Z4x hp.1;have b0:=Zu text (j:=j) (k:=j + 1) (i:=0) (by omega) (by omega);have b1:=Z8d (text:=text.extract j (j + 1)) (i:=1) (by rw [Z48 text (by omega)]; omega);refine ⟨by omega,by omega,fun m h1' h2'=>?_,?_,fun _=>by rw [b0,Nat.add_zero],by rw [b0,Nat.add_zero]⟩
    ·obtain rfl : m = j := by omega
     exact hp.2
    ·unfold Zw; rw [show 0 + 1=1 by rfl,show 0 + 2=2 by rfl,b1,Y9 (by omega),Y9 (by omega),Y9 (by omega)]
theorem Z3q (text:ByteArray) {j k:Nat} {t:Tok} (hj:j < text.size) (h:Z1h text j=.ok (t,k)) :
 j < k ∧ k ≤ text.size ∧ t.at' = j ∧ t.kind ≠ 6 ∧ Z1t (Z9 text j) = false ∧ Z1t (Z9 text (k - 1)) = false ∧
   Z1h (text.extract j k) 0=.ok ({ t with at':=0 },k - j):=by
 unfold Z1h at h;by_cases hl:Z0s (Z9 text j)=true
 ·rw [Yb hl] at h;simp only at h;obtain ⟨K, hK⟩ : ∃ K, Z02 Z55 text (text.size - j) j = K := ⟨_, rfl⟩
  rw [hK] at h;obtain ⟨s1,s2,s3,s4⟩:=Z2m Z55 text (text.size - j) j (Y5 _) (by omega);have hcut:=Z93 Z55 text hj hK;rw [hK] at s1 s2 s3 s4;have hjK:j < K:=by
   rcases Nat.lt_or_ge j K with h' | h';·exact h'
   ·have:=s4 (by omega);rw [show K=j by omega,Z3i hl] at this;cases this
  have hb0:Z9 (text.extract j K) 0=Z9 text j:=by rw [Zu text (by omega) s2,Nat.add_zero]
  have hbl:=Z3d (s3 (K - 1) (by omega) (by omega));have hall:(text.extract j K).extract 0 (K - j)=text.extract j K:=extract_all _ _ (Z48 text s2).symm;by_cases hw:Z3l (text.extract j K)=true
  ·rw [Yb hw] at h;simp only [Except.ok.injEq,Prod.mk.injEq] at h;obtain ⟨rfl,rfl⟩:=h;refine ⟨hjK,s2,rfl,by simp,Z3d (Z3i hl),hbl,?_⟩;unfold Z1h;rw [hb0,Yb hl];simp only [hcut,hall];rw [Yb hw]
  ·rw [Y9 hw] at h;by_cases h20 : 20 < K - j;·rw [Yb h20] at h; cases h
   ·rw [Y9 h20] at h;simp only [Except.ok.injEq,Prod.mk.injEq] at h;obtain ⟨rfl,rfl⟩:=h;refine ⟨hjK,s2,rfl,by simp,Z3d (Z3i hl),hbl,?_⟩;unfold Z1h;rw [hb0,Yb hl];simp only [hcut,hall];rw [Y9 hw,Y9 (by omega)]
 rw [Y9 hl] at h;by_cases hd:Z0r (Z9 text j)=true
 ·rw [Yb hd] at h;simp only at h;obtain ⟨K, hK⟩ : ∃ K, Z02 Z0r text (text.size - j) j = K := ⟨_, rfl⟩
  rw [hK] at h;obtain ⟨s1,s2,s3,s4⟩:=Z2m Z0r text (text.size - j) j (Y5 _) (by omega);have hcut:=Z93 Z0r text hj hK;rw [hK] at s1 s2 s3 s4;have hjK:j < K:=by
   rcases Nat.lt_or_ge j K with h' | h';·exact h'
   ·have:=s4 (by omega);rw [show K=j by omega,hd] at this;cases this
  have hb0:Z9 (text.extract j K) 0=Z9 text j:=by rw [Zu text (by omega) s2,Nat.add_zero]
  have hbl:=Z3d (Zae (s3 (K - 1) (by omega) (by omega)));have hnum:=Zj1 text (j:=j) s2 (K - j) j 0 (Y5 _);rw [Nat.sub_self] at hnum;by_cases h1:10 < K - j∨(1 < K - j∧Z9 text j=48);·rw [Yb h1] at h; cases h
  rw [Y9 h1] at h;by_cases h2:1000000000 < numF text K (K - j) j 0;·rw [Yb h2] at h; cases h
  rw [Y9 h2] at h;simp only [Except.ok.injEq,Prod.mk.injEq] at h;obtain ⟨rfl,rfl⟩:=h;refine ⟨hjK,s2,rfl,by simp,Z3d (Zae hd),hbl,?_⟩;unfold Z1h;rw [hb0,Y9 hl,Yb hd];simp only [hcut];simp only [Nat.sub_zero,hnum];rw [Y9 h1,Y9 h2]
 rw [Y9 hd] at h;by_cases hq:Z9 text j=39
 ·rw [Yb hq] at h;obtain ⟨⟨bs, e, K⟩, hR⟩ : ∃ R, R = Z0n text (j + 1) := ⟨_, rfl⟩
  rw [← hR] at h;simp only at h;by_cases h4:e=4;·rw [Yb h4] at h; cases h
  rw [Y9 h4] at h;by_cases h0:e≠0;·rw [Yb h0] at h; cases h
  rw [Y9 h0] at h;simp only [ne_eq,Decidable.not_not] at h0;subst h0;simp only [Except.ok.injEq,Prod.mk.injEq] at h;obtain ⟨rfl,rfl⟩:=h;obtain ⟨g1,g2,g3,g4⟩:=Ze7 text (j:=j) _ _ _ _ _ (by omega) hR.symm;refine ⟨by omega,g2,rfl,by simp,by rw [hq]; rfl,by rw [g3]; rfl,?_⟩;have hb0:Z9 (text.extract j K) 0=Z9 text j:=by rw [Zu text (by omega) g2,Nat.add_zero]
  have hqa:Z0n (text.extract j K) (0 + 1)=(bs,0,K - j):=by
   have:=g4 ((text.extract j K).size + 1 - (0 + 1)) (by rw [Z48 text g2]; omega);rw [show j + 1 - j=0 + 1 by omega] at this;exact this
  unfold Z1h;rw [hb0,Y9 hl,Y9 hd,Yb hq,hqa];simp
 rw [Y9 hq] at h;by_cases hs:Zw text j=1∧Z66 (Z9 text j)=false;·rw [Yb hs] at h; cases h
 rw [Y9 hs] at h;simp only [Except.ok.injEq,Prod.mk.injEq] at h;obtain ⟨rfl,rfl⟩:=h;obtain ⟨g1,g2,g3,g4,g5,g6⟩:=Zdx text j (fun e=>by
  cases hb:Z66 (Z9 text j) with
  | true=>rfl
  | false=>exact absurd ⟨e,hb⟩ hs)
 refine ⟨by omega,g2,rfl,by simp,g3 j (Y5 _) (by omega),g3 _ (by omega) (by omega),?_⟩;have hall:(text.extract j (j + Zw text j)).extract 0 (0 + Zw text j)=text.extract j (j + Zw text j):=extract_all _ _ (by rw [Z48 text g2]; omega);unfold Z1h;rw [g6,Y9 hl,Y9 hd,Y9 hq,g4,Y9 hs,hall];simp
def Zi6 (text:ByteArray):Nat→List Tok→Prop
 | _,[]=>False
 | i,[t]=>text.size≤Z02 Z1t text (text.size - i) i∧t=⟨6,ByteArray.empty,0,Z02 Z1t text (text.size - i) i⟩
 | i,t :: u :: l=>∃ k,Z02 Z1t text (text.size - i) i < text.size∧Z1h text (Z02 Z1t text (text.size - i) i)=.ok (t,k)∧Zi6 text k (u :: l)
theorem Zfm (text:ByteArray):∀ (f i:Nat) (acc l:List Tok),i≤text.size→text.size - i < f→lexF text f i acc=.ok l→∃ r,l=acc ++ r∧Zi6 text i r:=by
 intro f;induction f with
 | zero=>intro i acc l _ h2; omega
 | succ f ih =>
   intro i acc l hi hf h;simp only [lexF] at h;obtain ⟨s1,s2,_,_⟩:=Z2m Z1t text (text.size - i) i (Y5 _) hi;by_cases hj:text.size≤Z02 Z1t text (text.size - i) i
   ·rw [Yb hj] at h;simp only [Except.ok.injEq] at h;exact ⟨_,h.symm,hj,rfl⟩
   ·rw [Y9 hj] at h;cases ht : Z1h text (Z02 Z1t text (text.size - i) i) with
    | error e=>rw [ht] at h; cases h
    | ok x =>
      obtain ⟨t,k⟩:=x;rw [ht] at h;simp only at h;obtain ⟨c1,c2,_,_,_,_,_⟩:=Z3q text (by omega) ht;obtain ⟨r,hr,hS⟩:=ih k _ l c2 (by omega) h;refine ⟨t :: r,by simp [hr],?_⟩;cases r with
      | nil=>exact hS.elim
      | cons u r=>exact ⟨k,by omega,ht,hS⟩
theorem Z7q {text:ByteArray} {l:List Tok} (h:Z6a text=.ok l):Zi6 text 0 l:=by
 obtain ⟨r,hr,hS⟩:=Zfm text _ 0 [] l (Yp _) (by omega) h;rw [hr]; exact hS
end Go.Proofs.YtfilfhpfndaniaaGreatDoor
namespace Go.Proofs.YtfilfhpfndaniaaGreatDoor
open Go Go.RowKit
set_option maxRecDepth 100000
inductive Tree
 | mk (kind:Int) (text:ByteArray) (n:Int) (kids:List Tree)
def Tree.kind:Tree→Int | .mk k _ _ _=>k
def Tree.text:Tree→ByteArray | .mk _ t _ _=>t
def Tree.n:Tree→Int | .mk _ _ n _=>n
def Tree.kids:Tree→List Tree | .mk _ _ _ l=>l
abbrev PR:=Option (Except (Int×Nat) (Tree×List Tok))
def hdT (ts:List Tok):Tok:=ts.headD ⟨6,ByteArray.empty,0,0⟩
def isT (s:ByteArray) (ts:List Tok):Bool:=(decide ((hdT ts).kind=5) || decide ((hdT ts).kind=2)) && Zt (hdT ts).text s
def Z2v (e:Int) (ts:List Tok):PR:=some (.error (e,(hdT ts).at'))
def okT (t:Tree) (ts:List Tok):PR:=some (.ok (t,ts))
def Z10 (s:ByteArray) (ts:List Tok) (k:List Tok→PR):PR:=if isT s ts then k ts.tail else Z2v 3 ts
def Z3n (ts:List Tok) (k:ByteArray→List Tok→PR):PR:=if (hdT ts).kind=1 then k (hdT ts).text ts.tail else Z2v 3 ts
def Z01 (p:PR) (k:Tree→List Tok→PR):PR:=match p with | none=>none | some (.error e)=>some (.error e) | some (.ok (t,ts))=>k t ts
def Zc:ByteArray:=⟨#[123]⟩
def Zp:ByteArray:=⟨#[125]⟩
def Z0f:ByteArray:=⟨#[40]⟩
def Z0e:ByteArray:=⟨#[41]⟩
def Zj:ByteArray:=⟨#[59]⟩
def Z0z:ByteArray:=⟨#[44]⟩
def Z32:ByteArray:=⟨#[58]⟩
def Z9q:ByteArray:=⟨#[46]⟩
def s_eq:ByteArray:=⟨#[61]⟩
def Z1l:ByteArray:=⟨#[118,97,114]⟩
def Z1q:ByteArray:=⟨#[108,101,116]⟩
def Z09:ByteArray:=⟨#[99,111,110,115,116]⟩
def Za:ByteArray:=⟨#[102,117,110,99,116,105,111,110]⟩
def s_if:ByteArray:=⟨#[105,102]⟩
def Z5u:ByteArray:=⟨#[101,108,115,101]⟩
def Zz:ByteArray:=⟨#[119,104,105,108,101]⟩
def Z0c:ByteArray:=⟨#[119,105,116,104]⟩
def Z0k:ByteArray:=⟨#[114,101,116,117,114,110]⟩
def Z1u:ByteArray:=⟨#[116,104,114,111,119]⟩
def Z2k:ByteArray:=⟨#[116,114,121]⟩
def Z2q:ByteArray:=⟨#[99,97,116,99,104]⟩
def Z03:ByteArray:=⟨#[102,105,110,97,108,108,121]⟩
def Z5j:ByteArray:=⟨#[33]⟩
def Z1x:ByteArray:=⟨#[116,121,112,101,111,102]⟩
def Z2c:ByteArray:=⟨#[100,101,108,101,116,101]⟩
def Z4z:ByteArray:=⟨#[116,114,117,101]⟩
def Z3z:ByteArray:=⟨#[102,97,108,115,101]⟩
def Z5r:ByteArray:=⟨#[110,117,108,108]⟩
def Z1o:ByteArray:=⟨#[117,110,100,101,102,105,110,101,100]⟩
def s_or:ByteArray:=⟨#[124,124]⟩
def Z6r:ByteArray:=⟨#[38,38]⟩
def Z4o:ByteArray:=⟨#[61,61,61]⟩
def Z4n:ByteArray:=⟨#[60]⟩
def Z56:ByteArray:=⟨#[43]⟩
def Z5y:ByteArray:=⟨#[45]⟩
def Z6q:ByteArray:=⟨#[42]⟩
def Z0j:ByteArray:=⟨#[117,115,101,32,115,116,114,105,99,116]⟩
def Zn:ByteArray:=⟨#[115,116,114,105,99,116]⟩
def Z23 (l:List Tree):Bool:=
 match l with
 | .mk k _ _ (x :: _) :: _=>decide (k=15) && decide (x.kind=18) && Zt x.text Z0j
 | _=>false
def Z1r (level:Nat) (ts:List Tok):Int:=
 match level with
 | 0=>if isT s_or ts then 25 else 0
 | 1=>if isT Z6r ts then 26 else 0
 | 2=>if isT Z4o ts then 27 else 0
 | 3=>if isT Z4n ts then 28 else 0
 | 4=>if isT Z56 ts then 29 else if isT Z5y ts then 30 else 0
 | 5=>if isT Z6q ts then 31 else 0
 | _=>0
def Z2w (ts:List Tok):Int:=if isT Z5j ts then 32 else if isT Z1x ts then 33 else if isT Z2c ts then 34 else 0
def Z38 (ts:List Tok):Int:=if isT Z4z ts then 19 else if isT Z3z ts then 20 else if isT Z5r ts then 21 else if isT Z1o ts then 22 else 0
inductive Job
 | stmts (kind:Int) (acc:List Tree)
 | block (body:Bool)
 | func (kind:Int) (text:ByteArray)
 | params (acc:List Tree)
 | around
 | stmt
 | decl (kind:Int) (must:Bool)
 | try_
 | value
 | assign
 | bin (level:Nat)
 | binLoop (level:Nat) (x:Tree)
 | unary
 | postfix_
 | postLoop (x:Tree)
 | args (acc:List Tree)
 | primary
 | object (acc:List Tree)
def endT (n:Tree) (ts:List Tok):PR:=Z10 Zj ts fun ts=>okT n ts
def Z0v (d:Nat) (ts:List Tok) (p:PR):PR:=if 30 < d + 1 then Z2v 4 ts else p
def Z0:Nat→Job→Nat→List Tok→PR
 | 0,_,_,_=>none
 | f + 1, .stmts kind acc, d, ts =>
   if (if kind=1 then decide ((hdT ts).kind=6) else isT Zp ts) then okT (.mk kind (if Z23 acc then Zn else ByteArray.empty) 0 acc) ts
   else Z01 (Z0v d ts (Z0 f .stmt (d + 1) ts)) fun x ts=>Z0 f (.stmts kind (acc ++ [x])) d ts
 | f + 1, .block body, d, ts =>
   Z10 Zc ts fun ts=>Z01 (Z0 f (.stmts 6 []) d ts) fun x ts=>Z10 Zp ts fun ts=>okT (if body then x else .mk 6 ByteArray.empty 0 x.kids) ts
 | f + 1, .func kind text, d, ts =>
   Z10 Z0f ts fun ts=>Z01 (Z0 f (.params []) d ts) fun p ts=>Z10 Z0e ts fun ts=>Z01 (Z0 f (.block true) d ts) fun b ts=>okT (.mk kind text 0 [p,b]) ts
 | f + 1, .params acc, d, ts =>
   if isT Z0e ts then okT (.mk 40 ByteArray.empty 0 acc) ts
   else (if 0 < acc.length then Z10 Z0z ts else fun k=>k ts) fun ts=>
    if acc.length=8 then Z2v 4 ts else Z3n ts fun s ts=>Z0 f (.params (acc ++ [.mk 23 s 0 []])) d ts
 | f + 1, .around, d, ts =>
   Z10 Z0f ts fun ts=>Z01 (Z0 f .value d ts) fun x ts=>Z10 Z0e ts fun ts=>okT x ts
 | f + 1, .stmt, d, ts =>
   if isT Zc ts then Z0 f (.block false) d ts
   else if isT Zj ts then okT (.mk 16 ByteArray.empty 0 []) ts.tail
   else if isT Z1l ts then Z01 (Z0 f (.decl 2 false) d ts.tail) endT
   else if isT Z1q ts then Z01 (Z0 f (.decl 3 false) d ts.tail) endT
   else if isT Z09 ts then Z01 (Z0 f (.decl 4 true) d ts.tail) endT
   else if isT Za ts then Z3n ts.tail fun s ts=>Z0 f (.func 5 s) d ts
   else if isT s_if ts then
    Z01 (Z0 f .around d ts.tail) fun x ts=>Z01 (Z0v d ts (Z0 f .stmt (d + 1) ts)) fun y ts=>
     if isT Z5u ts then Z01 (Z0v d ts.tail (Z0 f .stmt (d + 1) ts.tail)) fun z ts=>okT (.mk 7 ByteArray.empty 0 [x,y,z]) ts
     else okT (.mk 7 ByteArray.empty 0 [x,y]) ts
   else if isT Zz ts then
    Z01 (Z0 f .around d ts.tail) fun x ts=>Z01 (Z0v d ts (Z0 f .stmt (d + 1) ts)) fun y ts=>okT (.mk 8 ByteArray.empty 0 [x,y]) ts
   else if isT Z0c ts then
    Z01 (Z0 f .around d ts.tail) fun x ts=>Z01 (Z0v d ts (Z0 f .stmt (d + 1) ts)) fun y ts=>okT (.mk 9 ByteArray.empty 0 [x,y]) ts
   else if isT Z0k ts then
    if isT Zj ts.tail then endT (.mk 10 ByteArray.empty 0 []) ts.tail
    else Z01 (Z0 f .value d ts.tail) fun x ts=>endT (.mk 10 ByteArray.empty 0 [x]) ts
   else if isT Z1u ts then Z01 (Z0 f .value d ts.tail) fun x ts=>endT (.mk 11 ByteArray.empty 0 [x]) ts
   else if isT Z2k ts then Z0 f .try_ d ts.tail
   else Z01 (Z0 f .value d ts) fun x ts=>endT (.mk 15 ByteArray.empty 0 [x]) ts
 | f + 1, .decl kind must, d, ts =>
   Z3n ts fun s ts=>
    if must && !isT s_eq ts then Z2v 3 ts
    else if isT s_eq ts then Z01 (Z0 f .value d ts.tail) fun x ts=>okT (.mk kind s 0 [x]) ts
    else okT (.mk kind s 0 []) ts
 | f + 1, .try_, d, ts =>
   Z01 (Z0 f (.block false) d ts) fun b ts=>
    (fun (k : List Tree → List Tok → PR) =>
     if isT Z2q ts then Z10 Z0f ts.tail fun ts=>Z3n ts fun s ts=>Z10 Z0e ts fun ts=>Z01 (Z0 f (.block false) d ts) fun c ts=>k [b,.mk 13 s 0 [c]] ts
     else k [b] ts) fun l ts=>
    if isT Z03 ts then Z01 (Z0 f (.block false) d ts.tail) fun c ts=>okT (.mk 12 ByteArray.empty 0 (l ++ [.mk 14 ByteArray.empty 0 [c]])) ts
    else if l.length=1 then Z2v 3 ts else okT (.mk 12 ByteArray.empty 0 l) ts
 | f + 1,.value,d,ts=>Z0v d ts (Z0 f .assign (d + 1) ts)
 | f + 1, .assign, d, ts =>
   Z01 (Z0 f (.bin 0) d ts) fun x ts'=>
    if isT s_eq ts' then
     if x.kind=23∨x.kind=36 then Z01 (Z0 f .value d ts'.tail) fun y ts=>okT (.mk 24 ByteArray.empty 0 [x,y]) ts
     else some (.error (1,(hdT ts).at'))
    else okT x ts'
 | f + 1, .bin level, d, ts =>
   if 6≤level then Z0 f .unary d ts
   else Z01 (Z0 f (.bin (level + 1)) d ts) fun x ts=>Z0 f (.binLoop level x) d ts
 | f + 1, .binLoop level x, d, ts =>
   if Z1r level ts=0 then okT x ts
   else Z01 (Z0 f (.bin (level + 1)) d ts.tail) fun y ts'=>Z0 f (.binLoop level (.mk (Z1r level ts) ByteArray.empty 0 [x,y])) d ts'
 | f + 1, .unary, d, ts =>
   if Z2w ts=0 then Z0 f .postfix_ d ts
   else Z01 (Z0v d ts.tail (Z0 f .unary (d + 1) ts.tail)) fun x ts'=>okT (.mk (Z2w ts) ByteArray.empty 0 [x]) ts'
 | f + 1,.postfix_,d,ts=>Z01 (Z0 f .primary d ts) fun x ts=>Z0 f (.postLoop x) d ts
 | f + 1, .postLoop x, d, ts =>
   if isT Z9q ts then Z3n ts.tail fun s ts=>Z0 f (.postLoop (.mk 36 s 0 [x])) d ts
   else if isT Z0f ts then Z01 (Z0 f (.args [x]) d ts.tail) fun n ts=>Z0 f (.postLoop n) d ts
   else okT x ts
 | f + 1, .args acc, d, ts =>
   if isT Z0e ts then okT (.mk 35 ByteArray.empty 0 acc) ts.tail
   else (if 1 < acc.length then Z10 Z0z ts else fun k=>k ts) fun ts=>
    if 8 < acc.length then Z2v 4 ts else Z01 (Z0 f .value d ts) fun v ts=>Z0 f (.args (acc ++ [v])) d ts
 | f + 1, .primary, d, ts =>
   if (hdT ts).kind=1 then okT (.mk 23 (hdT ts).text 0 []) ts.tail
   else if (hdT ts).kind=3 then okT (.mk 17 ByteArray.empty (hdT ts).n []) ts.tail
   else if (hdT ts).kind=4 then okT (.mk 18 (hdT ts).text 0 []) ts.tail
   else if Z38 ts≠0 then okT (.mk (Z38 ts) ByteArray.empty 0 []) ts.tail
   else if isT Z0f ts then Z0 f .around d ts
   else if isT Za ts then
    if (hdT ts.tail).kind=1 then Z0 f (.func 37 (hdT ts.tail).text) d ts.tail.tail
    else Z0 f (.func 37 ByteArray.empty) d ts.tail
   else if isT Zc ts then Z0 f (.object []) d ts.tail
   else Z2v 3 ts
 | f + 1, .object acc, d, ts =>
   if isT Zp ts then okT (.mk 38 ByteArray.empty 0 acc) ts.tail
   else (if 0 < acc.length then Z10 Z0z ts else fun k=>k ts) fun ts=>
    if acc.length=8 then Z2v 4 ts
    else Z3n ts fun s ts=>Z10 Z32 ts fun ts=>Z01 (Z0 f .value d ts) fun v ts=>Z0 f (.object (acc ++ [.mk 39 s 0 [v]])) d ts
mutual
def Tree.many:Tree→Nat
 | .mk _ _ _ l=>Z4d l + 1
def Z4d:List Tree→Nat
 | []=>0
 | t :: l=>t.many + Z4d l
end
theorem Z06 {s:ByteArray} {ts:List Tok} (h:isT s ts=true):ts.tail.length < ts.length:=by
 cases ts with
 | nil=>simp [isT,hdT] at h
 | cons t l=>simp
theorem Z0u (ts:List Tok):ts.tail.length≤ts.length:=by cases ts <;> simp
theorem Z3w {ts:List Tok} (h:(hdT ts).kind≠6):ts.tail.length < ts.length:=by
 cases ts with
 | nil=>simp [hdT] at h
 | cons t l=>simp
def Leaves (n:Nat) (p:PR):Prop:=∀ t ts,p=some (.ok (t,ts))→ts.length < n
theorem Leaves.fail {n:Nat} {e:Int} {ts:List Tok}:Leaves n (Z2v e ts):=by intro t ts' h; cases h
theorem Leaves.none {n:Nat}:Leaves n none:=by intro t ts' h; cases h
theorem Leaves.err {n:Nat} {e:Int×Nat}:Leaves n (some (.error e)):=by intro t ts' h; cases h
theorem Leaves.ok {n:Nat} {t:Tree} {ts:List Tok} (h:ts.length < n):Leaves n (okT t ts):=by
 intro t' ts' h';simp only [okT,Option.some.injEq,Except.ok.injEq,Prod.mk.injEq] at h';rw [← h'.2]; exact h
theorem Leaves.bind {n m:Nat} {p:PR} {k:Tree→List Tok→PR} (hp:Leaves m p) (hk:∀ t ts,ts.length < m→Leaves n (k t ts)):Leaves n (Z01 p k):=by
 cases p with
 | none=>exact Leaves.none
 | some r =>
   cases r with
   | error e=>exact Leaves.err
   | ok x=>obtain ⟨t,ts⟩:=x; exact hk t ts (hp t ts rfl)
theorem Leaves.want {n:Nat} {s:ByteArray} {ts:List Tok} {k:List Tok→PR} (hk:ts.tail.length < ts.length→Leaves n (k ts.tail)):Leaves n (Z10 s ts k):=by
 unfold Z10;by_cases h:isT s ts=true;·rw [Yb h]; exact hk (Z06 h)
 ·rw [Y9 h]; exact Leaves.fail
theorem Leaves.name {n:Nat} {ts:List Tok} {k:ByteArray→List Tok→PR} (hk:∀ s,ts.tail.length < ts.length→Leaves n (k s ts.tail)):Leaves n (Z3n ts k):=by
 unfold Z3n;by_cases h:(hdT ts).kind=1;·rw [Yb h]; exact hk _ (Z3w (by omega))
 ·rw [Y9 h]; exact Leaves.fail
theorem Leaves.within {n d:Nat} {ts:List Tok} {p:PR} (h:Leaves n p):Leaves n (Z0v d ts p):=by
 unfold Z0v;by_cases h':30 < d + 1;·rw [Yb h']; exact Leaves.fail
 ·rw [Y9 h']; exact h
theorem Leaves.ite {n:Nat} {c:Prop} [Decidable c] {p q:PR} (hp:c→Leaves n p) (hq:¬ c→Leaves n q):Leaves n (if c then p else q):=by
 by_cases h:c;·rw [Yb h]; exact hp h
 ·rw [Y9 h]; exact hq h
theorem Leaves.comma {n:Nat} {c:Prop} [Decidable c] {ts:List Tok} {k:List Tok→PR} (hk:∀ ts',ts'.length≤ts.length→Leaves n (k ts')):Leaves n ((if c then Z10 Z0z ts else fun k=>k ts) k):=by
 by_cases h:c;·rw [Yb h]; exact Leaves.want fun h'=>hk _ (by omega)
 ·rw [Y9 h]; exact hk _ (Y5 _)
def Job.least:Job→Nat
 | .stmts ..=>1
 | .params ..=>1
 | .binLoop ..=>1
 | .postLoop ..=>1
 | _=>0
theorem Z1y:∀ (f:Nat) (job:Job) (d:Nat) (ts:List Tok),Leaves (ts.length + job.least) (Z0 f job d ts):=by
 intro f;induction f with
 | zero=>intro job d ts; unfold Z0; exact Leaves.none
 | succ f ih =>
   intro job d ts;have ih0:∀ {n:Nat} {job:Job} (d:Nat) (ts:List Tok),ts.length + job.least≤n→Leaves n (Z0 f job d ts):=fun d ts h t ts' e=>Ye (ih _ d ts t ts' e) h;cases job with
   | stmts kind acc =>
     unfold Z0;refine Leaves.ite (fun _=>Leaves.ok (by simp [Job.least])) fun _=>?_;exact Leaves.bind (Leaves.within (ih .stmt _ _)) fun t ts' h=>ih0 _ _ (by simp only [Job.least] at *; omega)
   | block body =>
     unfold Z0;refine Leaves.want fun h=>?_;refine Leaves.bind (ih (.stmts 6 []) _ _) fun t ts' h'=>?_;refine Leaves.want fun h''=>Leaves.ok ?_;simp only [Job.least] at *; omega
   | func kind text =>
     unfold Z0;refine Leaves.want fun h=>Leaves.bind (ih (.params []) _ _) fun t ts' h'=>Leaves.want fun h2=>Leaves.bind (ih (.block true) _ _) fun t ts' h3=>Leaves.ok ?_;simp only [Job.least] at *; omega
   | params acc =>
     unfold Z0;refine Leaves.ite (fun _=>Leaves.ok (by simp [Job.least])) fun _=>?_;refine Leaves.comma fun ts' h=>Leaves.ite (fun _=>Leaves.fail) fun _=>Leaves.name fun s h2=>ih0 _ _ ?_;simp only [Job.least] at *; omega
   | around =>
     unfold Z0;refine Leaves.want fun h=>Leaves.bind (ih .value _ _) fun t ts' h'=>Leaves.want fun h2=>Leaves.ok ?_;simp only [Job.least] at *; omega
   | stmt =>
     unfold Z0;have hend:∀ (n:Tree) (us:List Tok),us.length≤ts.length→Leaves (ts.length + Job.stmt.least) (endT n us):=fun n us h=>Leaves.want fun h2=>Leaves.ok (by simp only [Job.least] at *; omega);have htl:=Z0u ts;refine Leaves.ite (fun h=>ih0 _ _ (by simp [Job.least])) fun _=>?_;refine Leaves.ite (fun h=>Leaves.ok (by have:=Z06 h; simp only [Job.least] at *; omega)) fun _=>?_;refine Leaves.ite (fun h=>Leaves.bind (ih (.decl 2 false) _ _) fun t us h2=>hend _ _ (by simp only [Job.least] at *; omega)) fun _=>?_
     refine Leaves.ite (fun h=>Leaves.bind (ih (.decl 3 false) _ _) fun t us h2=>hend _ _ (by simp only [Job.least] at *; omega)) fun _=>?_;refine Leaves.ite (fun h=>Leaves.bind (ih (.decl 4 true) _ _) fun t us h2=>hend _ _ (by simp only [Job.least] at *; omega)) fun _=>?_;refine Leaves.ite (fun h=>Leaves.name fun s h2=>ih0 _ _ (by simp only [Job.least] at *; omega)) fun _=>?_
     refine Leaves.ite (fun h=>Leaves.bind (ih .around _ _) fun t us h2=>Leaves.bind (Leaves.within (ih .stmt _ _)) fun t vs h3=>Leaves.ite (fun h4=>Leaves.bind (Leaves.within (ih .stmt _ _)) fun t xs h5=>Leaves.ok (by have:=Z0u vs; simp only [Job.least] at *; omega)) (fun _=>Leaves.ok (by simp only [Job.least] at *; omega))) fun _=>?_;refine Leaves.ite (fun h=>Leaves.bind (ih .around _ _) fun t us h2=>Leaves.bind (Leaves.within (ih .stmt _ _)) fun t vs h3=>Leaves.ok (by simp only [Job.least] at *; omega)) fun _=>?_
     refine Leaves.ite (fun h=>Leaves.bind (ih .around _ _) fun t us h2=>Leaves.bind (Leaves.within (ih .stmt _ _)) fun t vs h3=>Leaves.ok (by simp only [Job.least] at *; omega)) fun _=>?_;refine Leaves.ite (fun h=>Leaves.ite (fun h1=>hend _ _ htl) (fun _=>Leaves.bind (ih .value _ _) fun t us h2=>hend _ _ (by simp only [Job.least] at *; omega))) fun _=>?_;refine Leaves.ite (fun h=>Leaves.bind (ih .value _ _) fun t us h2=>hend _ _ (by simp only [Job.least] at *; omega)) fun _=>?_;refine Leaves.ite (fun h=>ih0 _ _ (by simp only [Job.least] at *; omega)) fun _=>?_
     exact Leaves.bind (ih .value _ _) fun t us h2=>hend _ _ (by simp only [Job.least] at *; omega)
   | decl kind must =>
     unfold Z0;refine Leaves.name fun s h=>Leaves.ite (fun _=>Leaves.fail) fun _=>Leaves.ite (fun h2=>Leaves.bind (ih .value _ _) fun t us h3=>Leaves.ok ?_) fun _=>Leaves.ok ?_;·have:=Z0u ts.tail; simp only [Job.least] at *; omega
     ·simp only [Job.least] at *; omega
   | try_ =>
     unfold Z0;refine Leaves.bind (ih (.block false) _ _) fun b us h=>?_;have hk:∀ (l:List Tree) (vs:List Tok),vs.length≤us.length→Leaves (ts.length + Job.try_.least) (if isT Z03 vs then Z01 (Z0 f (.block false) d vs.tail) fun c ts=>okT (.mk 12 ByteArray.empty 0 (l ++ [.mk 14 ByteArray.empty 0 [c]])) ts else if l.length=1 then Z2v 3 vs else okT (.mk 12 ByteArray.empty 0 l) vs):=by
      intro l vs h2;have:=Z0u vs;refine Leaves.ite (fun _=>Leaves.bind (ih (.block false) _ _) fun t xs h3=>Leaves.ok ?_) fun _=>Leaves.ite (fun _=>Leaves.fail) fun _=>Leaves.ok ?_;·simp only [Job.least] at *; omega
      ·simp only [Job.least] at *; omega
     refine Leaves.ite (fun h1=>?_) fun _=>hk _ _ (Y5 _);refine Leaves.want fun h2=>Leaves.name fun s h3=>Leaves.want fun h4=>Leaves.bind (ih (.block false) _ _) fun c vs h5=>hk _ _ ?_;have:=Z0u us; simp only [Job.least] at *; omega
   | value=>unfold Z0; exact Leaves.within (ih0 _ _ (by simp [Job.least]))
   | assign =>
     unfold Z0;refine Leaves.bind (ih (.bin 0) _ _) fun x us h=>Leaves.ite (fun h1=>Leaves.ite (fun _=>Leaves.bind (ih .value _ _) fun y vs h2=>Leaves.ok ?_) fun _=>Leaves.err) fun _=>Leaves.ok ?_;·have:=Z0u us; simp only [Job.least] at *; omega
     ·simp only [Job.least] at *; omega
   | bin level =>
     unfold Z0;refine Leaves.ite (fun _=>ih0 _ _ (by simp [Job.least])) fun _=>Leaves.bind (ih (.bin (level + 1)) _ _) fun x us h=>ih0 _ _ ?_;simp only [Job.least] at *; omega
   | binLoop level x =>
     unfold Z0;refine Leaves.ite (fun _=>Leaves.ok (by simp [Job.least])) fun _=>Leaves.bind (ih (.bin (level + 1)) _ _) fun y us h=>ih0 _ _ ?_;have:=Z0u ts; simp only [Job.least] at *; omega
   | unary =>
     unfold Z0;refine Leaves.ite (fun _=>ih0 _ _ (by simp [Job.least])) fun _=>Leaves.bind (Leaves.within (ih .unary _ _)) fun y us h=>Leaves.ok ?_;have:=Z0u ts; simp only [Job.least] at *; omega
   | postfix_ =>
     unfold Z0;refine Leaves.bind (ih .primary _ _) fun y us h=>ih0 _ _ ?_;simp only [Job.least] at *; omega
   | postLoop x =>
     unfold Z0;have:=Z0u ts;refine Leaves.ite (fun _=>Leaves.name fun s h=>ih0 _ _ (by simp only [Job.least] at *; omega)) fun _=>Leaves.ite (fun _=>Leaves.bind (ih (.args [x]) _ _) fun y us h=>ih0 _ _ (by simp only [Job.least] at *; omega)) fun _=>Leaves.ok (by simp [Job.least])
   | args acc =>
     unfold Z0;refine Leaves.ite (fun h=>Leaves.ok (by have:=Z06 h; simp only [Job.least] at *; omega)) fun _=>Leaves.comma fun us h=>Leaves.ite (fun _=>Leaves.fail) fun _=>Leaves.bind (ih .value _ _) fun y vs h2=>ih0 _ _ (by simp only [Job.least] at *; omega)
   | primary =>
     unfold Z0;have:=Z0u ts;have:=Z0u ts.tail;refine Leaves.ite (fun h=>Leaves.ok (by have:=Z3w (ts:=ts) (by omega); simp only [Job.least] at *; omega)) fun _=>?_;refine Leaves.ite (fun h=>Leaves.ok (by have:=Z3w (ts:=ts) (by omega); simp only [Job.least] at *; omega)) fun _=>?_;refine Leaves.ite (fun h=>Leaves.ok (by have:=Z3w (ts:=ts) (by omega); simp only [Job.least] at *; omega)) fun _=>?_;refine Leaves.ite (fun h=>Leaves.ok ?_) fun _=>?_
     ·have:ts.tail.length < ts.length:=by
       unfold Z38 at h;by_cases h1:isT Z4z ts=true;·exact Z06 h1
       ·by_cases h2 : isT Z3z ts = true;·exact Z06 h2
        ·by_cases h3 : isT Z5r ts = true;·exact Z06 h3
         ·by_cases h4 : isT Z1o ts = true;·exact Z06 h4
          ·simp [h1,h2,h3,h4] at h
      simp only [Job.least] at *; omega
     refine Leaves.ite (fun _=>ih0 _ _ (by simp [Job.least])) fun _=>?_;refine Leaves.ite (fun _=>Leaves.ite (fun _=>ih0 _ _ (by simp only [Job.least] at *; omega)) fun _=>ih0 _ _ (by simp only [Job.least] at *; omega)) fun _=>?_;exact Leaves.ite (fun _=>ih0 _ _ (by simp only [Job.least] at *; omega)) fun _=>Leaves.fail
   | object acc =>
     unfold Z0;refine Leaves.ite (fun h=>Leaves.ok (by have:=Z06 h; simp only [Job.least] at *; omega)) fun _=>Leaves.comma fun us h=>Leaves.ite (fun _=>Leaves.fail) fun _=>Leaves.name fun s h1=>Leaves.want fun h2=>Leaves.bind (ih .value _ _) fun y vs h2=>ih0 _ _ (by simp only [Job.least] at *; omega)
def Job.rank:Job→Nat
 | .stmts ..=>30
 | .block _=>5
 | .func ..=>1
 | .params _=>1
 | .around=>1
 | .stmt=>20
 | .decl ..=>1
 | .try_=>6
 | .value=>19
 | .assign=>18
 | .bin level=>10 + (6 - level)
 | .binLoop ..=>31
 | .unary=>9
 | .postfix_=>8
 | .postLoop _=>31
 | .args _=>31
 | .primary=>7
 | .object _=>31
def Zl (p:PR):Prop:=p≠none
theorem Zl.fail {e:Int} {ts:List Tok}:Zl (Z2v e ts):=by simp [Zl,Z2v]
theorem Zl.ok {t:Tree} {ts:List Tok}:Zl (okT t ts):=by simp [Zl,okT]
theorem Zl.bind {p:PR} {k:Tree→List Tok→PR} {n:Nat} (hp:Zl p) (hl:Leaves n p) (hk:∀ t ts,ts.length < n→Zl (k t ts)):Zl (Z01 p k):=by
 cases p with
 | none=>exact absurd rfl hp
 | some r =>
   cases r with
   | error e=>simp [Zl,Z01]
   | ok x=>obtain ⟨t,ts⟩:=x; exact hk t ts (hl t ts rfl)
theorem Zl.want {s:ByteArray} {ts:List Tok} {k:List Tok→PR} (hk:ts.tail.length < ts.length→Zl (k ts.tail)):Zl (Z10 s ts k):=by
 unfold Z10;by_cases h:isT s ts=true;·rw [Yb h]; exact hk (Z06 h)
 ·rw [Y9 h]; exact Zl.fail
theorem Zl.name {ts:List Tok} {k:ByteArray→List Tok→PR} (hk:∀ s,ts.tail.length < ts.length→Zl (k s ts.tail)):Zl (Z3n ts k):=by
 unfold Z3n;by_cases h:(hdT ts).kind=1;·rw [Yb h]; exact hk _ (Z3w (by omega))
 ·rw [Y9 h]; exact Zl.fail
theorem Zl.within {d:Nat} {ts:List Tok} {p:PR} (h:Zl p):Zl (Z0v d ts p):=by
 unfold Z0v;by_cases h':30 < d + 1;·rw [Yb h']; exact Zl.fail
 ·rw [Y9 h']; exact h
theorem Zl.ite {c:Prop} [Decidable c] {p q:PR} (hp:c→Zl p) (hq:¬ c→Zl q):Zl (if c then p else q):=by
 by_cases h:c;·rw [Yb h]; exact hp h
 ·rw [Y9 h]; exact hq h
theorem Zl.comma {c:Prop} [Decidable c] {ts:List Tok} {k:List Tok→PR} (hk:∀ ts',ts'.length≤ts.length→Zl (k ts')):Zl ((if c then Z10 Z0z ts else fun k=>k ts) k):=by
 by_cases h:c;·rw [Yb h]; exact Zl.want fun h'=>hk _ (by omega)
 ·rw [Y9 h]; exact hk _ (Y5 _)
theorem Z92 {ts:List Tok} (h:¬ Z2w ts=0):ts.tail.length < ts.length:=by
 unfold Z2w at h;by_cases h1:isT Z5j ts=true;·exact Z06 h1
 ·by_cases h2 : isT Z1x ts = true;·exact Z06 h2
  ·by_cases h3 : isT Z2c ts = true;·exact Z06 h3
   ·simp [h1,h2,h3] at h
theorem Z70 {level:Nat} {ts:List Tok} (h:¬ Z1r level ts=0):ts.tail.length < ts.length:=by
 have key:∀ {s:ByteArray} {x y:Int},¬ (if isT s ts then x else y)=0→¬ y=0∨ts.tail.length < ts.length:=by
  intro s x y h;by_cases h1:isT s ts=true;·exact .inr (Z06 h1)
  ·rw [Y9 h1] at h; exact .inl h
 unfold Z1r at h;split at h
 all_goals first
  | exact absurd rfl h
  | (rcases key h with h | h; (exact absurd rfl h); exact h)
  | (rcases key h with h | h; (rcases key h with h | h; (exact absurd rfl h); exact h); exact h)
theorem Zaf:∀ (f:Nat) (job:Job) (d:Nat) (ts:List Tok),40 * ts.length + job.rank < f→Zl (Z0 f job d ts):=by
 intro f;induction f with
 | zero=>intro job d ts h; omega
 | succ f ih =>
   intro job d ts hf;have L:=Z1y f;have htl:=Z0u ts;cases job with
   | stmts kind acc =>
     unfold Z0;refine Zl.ite (fun _=>Zl.ok) fun _=>Zl.bind (n:=ts.length) (Zl.within (ih _ _ _ (by simp only [Job.rank] at *; omega))) (Leaves.within (L .stmt _ _)) fun t us h=>ih _ _ _ (by simp only [Job.rank] at *; omega)
   | block body =>
     unfold Z0;refine Zl.want fun h=>Zl.bind (ih _ _ _ (by simp only [Job.rank] at *; omega)) (L _ _ _) fun t us h=>Zl.want fun h2=>Zl.ok
   | func kind text =>
     unfold Z0;refine Zl.want fun h=>Zl.bind (ih _ _ _ (by simp only [Job.rank] at *; omega)) (L (.params []) _ _) fun t us h=>Zl.want fun h2=>Zl.bind (ih _ _ _ (by simp only [Job.rank,Job.least] at *; omega)) (L _ _ _) fun t us h=>Zl.ok
   | params acc =>
     unfold Z0;refine Zl.ite (fun _=>Zl.ok) fun _=>Zl.comma fun us h=>Zl.ite (fun _=>Zl.fail) fun _=>Zl.name fun s h2=>ih _ _ _ (by simp only [Job.rank] at *; omega)
   | around =>
     unfold Z0;refine Zl.want fun h=>Zl.bind (ih _ _ _ (by simp only [Job.rank] at *; omega)) (L _ _ _) fun t us h=>Zl.want fun h2=>Zl.ok
   | stmt =>
     unfold Z0;have hend:∀ (n:Tree) (us:List Tok),Zl (endT n us):=fun n us=>Zl.want fun h2=>Zl.ok;refine Zl.ite (fun h=>ih _ _ _ (by simp only [Job.rank] at *; omega)) fun _=>?_;refine Zl.ite (fun h=>Zl.ok) fun _=>?_;refine Zl.ite (fun h=>Zl.bind (ih _ _ _ (by simp only [Job.rank] at *; omega)) (L _ _ _) fun t us h2=>hend _ _) fun _=>?_;refine Zl.ite (fun h=>Zl.bind (ih _ _ _ (by simp only [Job.rank] at *; omega)) (L _ _ _) fun t us h2=>hend _ _) fun _=>?_
     refine Zl.ite (fun h=>Zl.bind (ih _ _ _ (by simp only [Job.rank] at *; omega)) (L _ _ _) fun t us h2=>hend _ _) fun _=>?_;refine Zl.ite (fun h=>Zl.name fun s h2=>ih _ _ _ (by simp only [Job.rank] at *; omega)) fun _=>?_;refine Zl.ite (fun h=>?_) fun _=>?_
     ·have:=Z06 h;refine Zl.bind (ih _ _ _ (by simp only [Job.rank] at *; omega)) (L .around _ _) fun t us h2=>?_;refine Zl.bind (Zl.within (ih _ _ _ (by simp only [Job.rank,Job.least] at *; omega))) (Leaves.within (L .stmt _ _)) fun t vs h3=>?_;have:=Z0u vs;exact Zl.ite (fun h4=>Zl.bind (Zl.within (ih _ _ _ (by simp only [Job.rank,Job.least] at *; omega))) (Leaves.within (L .stmt _ _)) fun t xs h5=>Zl.ok) fun _=>Zl.ok
     refine Zl.ite (fun h=>?_) fun _=>?_
     ·have:=Z06 h;refine Zl.bind (ih _ _ _ (by simp only [Job.rank] at *; omega)) (L .around _ _) fun t us h2=>?_;exact Zl.bind (Zl.within (ih _ _ _ (by simp only [Job.rank,Job.least] at *; omega))) (Leaves.within (L .stmt _ _)) fun t vs h3=>Zl.ok
     refine Zl.ite (fun h=>?_) fun _=>?_
     ·have:=Z06 h;refine Zl.bind (ih _ _ _ (by simp only [Job.rank] at *; omega)) (L .around _ _) fun t us h2=>?_;exact Zl.bind (Zl.within (ih _ _ _ (by simp only [Job.rank,Job.least] at *; omega))) (Leaves.within (L .stmt _ _)) fun t vs h3=>Zl.ok
     refine Zl.ite (fun h=>Zl.ite (fun h1=>hend _ _) fun _=>Zl.bind (ih _ _ _ (by simp only [Job.rank] at *; omega)) (L _ _ _) fun t us h2=>hend _ _) fun _=>?_;refine Zl.ite (fun h=>Zl.bind (ih _ _ _ (by simp only [Job.rank] at *; omega)) (L _ _ _) fun t us h2=>hend _ _) fun _=>?_;refine Zl.ite (fun h=>ih _ _ _ (by simp only [Job.rank] at *; omega)) fun _=>?_;exact Zl.bind (ih _ _ _ (by simp only [Job.rank] at *; omega)) (L _ _ _) fun t us h2=>hend _ _
   | decl kind must =>
     unfold Z0;refine Zl.name fun s h=>Zl.ite (fun _=>Zl.fail) fun _=>Zl.ite (fun h2=>Zl.bind (ih _ _ _ ?_) (L _ _ _) fun t us h3=>Zl.ok) fun _=>Zl.ok;have:=Z0u ts.tail; simp only [Job.rank] at *; omega
   | try_ =>
     unfold Z0;refine Zl.bind (ih _ _ _ (by simp only [Job.rank] at *; omega)) (L (.block false) _ _) fun b us h=>?_;have hk:∀ (l:List Tree) (vs:List Tok),vs.length≤us.length→Zl (if isT Z03 vs then Z01 (Z0 f (.block false) d vs.tail) fun c ts=>okT (.mk 12 ByteArray.empty 0 (l ++ [.mk 14 ByteArray.empty 0 [c]])) ts else if l.length=1 then Z2v 3 vs else okT (.mk 12 ByteArray.empty 0 l) vs):=by
      intro l vs h2;have:=Z0u vs;exact Zl.ite (fun _=>Zl.bind (ih _ _ _ (by simp only [Job.rank,Job.least] at *; omega)) (L _ _ _) fun t xs h3=>Zl.ok) fun _=>Zl.ite (fun _=>Zl.fail) fun _=>Zl.ok
     refine Zl.ite (fun h1=>?_) fun _=>hk _ _ (Y5 _);have:=Z0u us;refine Zl.want fun h2=>Zl.name fun s h3=>Zl.want fun h4=>Zl.bind (ih _ _ _ (by simp only [Job.rank,Job.least] at *; omega)) (L (.block false) _ _) fun c vs h5=>hk _ _ ?_;simp only [Job.least] at *; omega
   | value=>unfold Z0; exact Zl.within (ih _ _ _ (by simp only [Job.rank] at *; omega))
   | assign =>
     unfold Z0;refine Zl.bind (ih _ _ _ (by simp only [Job.rank] at *; omega)) (L (.bin 0) _ _) fun x us h=>Zl.ite (fun h1=>Zl.ite (fun _=>Zl.bind (ih _ _ _ ?_) (L _ _ _) fun y vs h2=>Zl.ok) fun _=>by simp [Zl]) fun _=>Zl.ok;have:=Z0u us; simp only [Job.rank,Job.least] at *; omega
   | bin level =>
     unfold Z0;refine Zl.ite (fun h=>ih _ _ _ (by simp only [Job.rank] at *; omega)) fun h=>Zl.bind (ih _ _ _ (by simp only [Job.rank] at *; omega)) (L (.bin (level + 1)) _ _) fun x us h=>ih _ _ _ (by simp only [Job.rank,Job.least] at *; omega)
   | binLoop level x =>
     unfold Z0;refine Zl.ite (fun _=>Zl.ok) fun h0=>Zl.bind (ih _ _ _ ?_) (L (.bin (level + 1)) _ _) fun y us h=>ih _ _ _ ?_;·have:=Z70 h0; simp only [Job.rank] at *; omega
     ·have:=Z70 h0; simp only [Job.rank,Job.least] at *; omega
   | unary =>
     unfold Z0;refine Zl.ite (fun _=>ih _ _ _ (by simp only [Job.rank] at *; omega)) fun h0=>Zl.bind (Zl.within (ih _ _ _ ?_)) (Leaves.within (L _ _ _)) fun y us h=>Zl.ok;have:=Z92 h0; simp only [Job.rank] at *; omega
   | postfix_ =>
     unfold Z0;exact Zl.bind (ih _ _ _ (by simp only [Job.rank] at *; omega)) (L .primary _ _) fun y us h=>ih _ _ _ (by simp only [Job.rank,Job.least] at *; omega)
   | postLoop x =>
     unfold Z0;refine Zl.ite (fun h=>Zl.name fun s h2=>ih _ _ _ (by simp only [Job.rank] at *; omega)) fun _=>Zl.ite (fun h=>?_) fun _=>Zl.ok;have:=Z06 h;exact Zl.bind (ih _ _ _ (by simp only [Job.rank] at *; omega)) (L (.args [x]) _ _) fun y us h=>ih _ _ _ (by simp only [Job.rank,Job.least] at *; omega)
   | args acc =>
     unfold Z0;exact Zl.ite (fun h=>Zl.ok) fun _=>Zl.comma fun us h=>Zl.ite (fun _=>Zl.fail) fun _=>Zl.bind (ih _ _ _ (by simp only [Job.rank] at *; omega)) (L .value _ _) fun y vs h2=>ih _ _ _ (by simp only [Job.rank,Job.least] at *; omega)
   | primary =>
     unfold Z0;have:=Z0u ts.tail;refine Zl.ite (fun _=>Zl.ok) fun _=>Zl.ite (fun _=>Zl.ok) fun _=>Zl.ite (fun _=>Zl.ok) fun _=>Zl.ite (fun _=>Zl.ok) fun _=>?_;refine Zl.ite (fun _=>ih _ _ _ (by simp only [Job.rank] at *; omega)) fun _=>?_;refine Zl.ite (fun _=>Zl.ite (fun _=>ih _ _ _ (by simp only [Job.rank] at *; omega)) fun _=>ih _ _ _ (by simp only [Job.rank] at *; omega)) fun _=>?_;exact Zl.ite (fun h=>ih _ _ _ (by have:=Z06 h; simp only [Job.rank] at *; omega)) fun _=>Zl.fail
   | object acc =>
     unfold Z0;exact Zl.ite (fun h=>Zl.ok) fun _=>Zl.comma fun us h=>Zl.ite (fun _=>Zl.fail) fun _=>Zl.name fun s h1=>Zl.want fun h2=>Zl.bind (ih _ _ _ (by simp only [Job.rank] at *; omega)) (L .value _ _) fun y vs h2=>ih _ _ _ (by simp only [Job.rank,Job.least] at *; omega)
def Z0o (text:ByteArray):Except (Int×Int) Tree:=
 if 3000 < text.size then .error (4,-1)
 else match Z6a text with
  | .error (e,p)=>.error (e,p)
  | .ok ts => match Z0 (40 * ts.length + 31) (.stmts 1 []) 0 ts with
    | none=>.error (0,-2)
    | some (.error (e,p))=>.error (e,p)
    | some (.ok (t,_))=>if 1500 < t.many then .error (4,-1) else .ok t
end Go.Proofs.YtfilfhpfndaniaaGreatDoor
namespace Go.Proofs
def Tryz.lays137_ren:Go.Shelf.Ren:=⟨fun | 137=>66 | 217=>83 | 266=>105 | n=>n,fun | 9=>9 | 5=>5 | 3=>3 | n=>n,fun | n=>n⟩
theorem Tryz.lays137:Go.Proofs.Lays.n137 Tryz.prog Tryz.lays137_ren:={
 mixed:=by kernel_rfl
 f137:=Tryz.func66.trans (congrArg some (by kernel_rfl))
 f217:=Tryz.func83.trans (congrArg some (by kernel_rfl))
 f266:=Tryz.func105.trans (congrArg some (by kernel_rfl))
 t3:=Tryz.underlying3
 a3:=Tryz.isAgg3
 z3:=Tryz.sizeOf3
 v3:=Tryz.zeroValue3
 t5:=Tryz.underlying5
 a5:=Tryz.isAgg5
 z5:=Tryz.sizeOf5
 v5:=Tryz.zeroValue5
 t9:=Tryz.underlying9
 a9:=Tryz.isAgg9
 z9:=Tryz.sizeOf9
 v9:=Tryz.zeroValue9 }
open Go.RowKit in
theorem Tryz.strings_IndexByte (s:ByteArray) (c:Int) (w:World) :
 Calls Tryz.prog 66 #[.string s,.int .u8 c] w fun e w'=>e=.returned (.int .i64 (Lib.indexByte s.data.toList c.toNat.toUInt8))∧w'=w:=Any.strings_IndexByte Tryz.lays137 s c w
end Go.Proofs
