/- Package lex: words of the language. -/
import Derived.Test.YtedopiahfejdfaaGreatDoorJ01
import Derived.Test.YtedopiahfejdfaaGreatDoorRows
namespace Go.Proofs.YtedopiahfejdfaaGreatDoor
open Go Go.RowKit
set_option maxRecDepth 100000
def Z4m:List ByteArray:=match (Rows.laid_sloppyscope_lex_wordList:DataW Unit) with
 | .agg l => l.map fun
   | .lit (.string bs)=>⟨bs.toArray⟩
   | _=>⟨#[]⟩
 | _=>[]
theorem Z5i:Z4m.length=19:=by kernel_rfl
def Z1q (s:ByteArray):Bool:=Lib.containsS Z4m s
def Words (w:World):Prop:=∀ j,j < 19→w.cell? ⟨0,j,none⟩=some (.string (Z4m.getD j ByteArray.empty))
theorem Z83 (w:World) (s:ByteArray) (hW:Words w) :
 Calls Tryz.prog 16 #[.string s] w fun e w'=>e=.returned (.bool (Z1q s))∧w'=w:=by
 have HC:=Tryz.slices_Contains_string 0 0 19 19 Z4m s w (by rw [Z5i]; omega) (by omega) (fun j hj=>by rw [Nat.zero_add]; exact hW j (by rw [Z5i] at hj; exact hj));rw [show Z4m.take 19=Z4m by rw [← Z5i]; exact List.take_length] at HC;have HC:=lh HC;clear hW;unfold Z1q;generalize Lib.containsS Z4m s=B at HC ⊢;go_enter Tryz.func16,Tryz.ntmps16
 go_wp2_with fail
 refine HC.out.mono ?_;rintro e w1 ⟨rfl,rfl⟩;go_wp2;go_ret;exact ⟨rfl,rfl⟩
structure Tok where
 kind:Int
 text:ByteArray
 n:Int
 at':Nat
def numF (text:ByteArray) (k:Nat):Nat→Nat→Int→Int
 | 0,_,n=>n
 | f + 1,i,n=>if i < k then numF text k f (i + 1) (10 * n + (Z2 text i - 48)) else n
def Zl (text:ByteArray) (j:Nat):Nat:=
 if Z2 text j=61∧Z2 text (j + 1)=61∧Z2 text (j + 2)=61 then 3
 else if Z2 text j=38∧Z2 text (j + 1)=38 then 2
 else if Z2 text j=124∧Z2 text (j + 1)=124 then 2
 else 1
def Z5u (c:Int):Bool:=c == 40 || c == 41 || c == 123 || c == 125 || c == 91 || c == 93 || c == 59 || c == 58 || c == 44 || c == 46 || c == 61 || c == 43 || c == 45 || c == 42 || c == 60 || c == 33
def Z0g (text:ByteArray) (j:Nat):Except (Int×Nat) (Tok×Nat):=
 if Z01 (Z2 text j) then
  let k:=Z9 Z1g text (text.size - j) j
  if Z1q (text.extract j k) then .ok (⟨2,text.extract j k,0,j⟩,k)
  else if 20 < k - j then .error (4,j)
  else .ok (⟨1,text.extract j k,0,j⟩,k)
 else if Z09 (Z2 text j) then
  let k:=Z9 Z09 text (text.size - j) j
  if 10 < k - j∨(1 < k - j∧Z2 text j=48) then .error (3,j)
  else if 1000000000 < numF text k (k - j) j 0 then .error (2,j)
  else .ok (⟨3,ByteArray.empty,numF text k (k - j) j 0,j⟩,k)
 else if Z2 text j=39 then
  if (Z0l text (j + 1)).2.1=4 then .error (4,j)
  else if (Z0l text (j + 1)).2.1≠0 then .error (3,(Z0l text (j + 1)).2.2)
  else .ok (⟨4,⟨(Z0l text (j + 1)).1.toArray⟩,0,j⟩,(Z0l text (j + 1)).2.2)
 else if Zl text j=1∧Z5u (Z2 text j)=false then .error (3,j)
 else .ok (⟨5,text.extract j (j + Zl text j),0,j⟩,j + Zl text j)
def lexF (text:ByteArray):Nat→Nat→List Tok→Except (Int×Nat) (List Tok)
 | 0,_,acc=>.ok acc
 | f + 1, i, acc =>
   let j:=Z9 Zn text (text.size - i) i
   if text.size≤j then .ok (acc ++ [⟨6,ByteArray.empty,0,j⟩])
   else match Z0g text j with
    | .error e=>.error e
    | .ok (t,k)=>lexF text f k (acc ++ [t])
def Z2j (text:ByteArray):Except (Int×Nat) (List Tok):=lexF text (text.size + 1) 0 []
theorem Z2e {text:ByteArray} {i:Nat} (h:text.size≤i):Z2 text i=0:=by
 have h':¬ i < text.data.size:=by change ¬ i < text.size; omega
 unfold Z2 Array.getD;rw [dif_neg h'];rfl
theorem Z2f {text:ByteArray} {i:Nat} (h:Z2 text i≠0):i < text.size:=by
 rcases Nat.lt_or_ge i text.size with h' | h';·exact h'
 ·exact absurd (Z2e h') h
theorem getD_extract (text:ByteArray) {j k i:Nat} (h:i < k - j) (hk:k≤text.size):(text.extract j k).data.getD i 0=text.data.getD (j + i) 0:=by
 have h2:j + i < text.data.size:=by change _ < text.size; omega
 have h1:i < (text.extract j k).data.size:=by
  change i < (text.extract j k).size;rw [ByteArray.size_extract]; omega
 simp only [Array.getD,dif_pos h1,dif_pos h2];simp [ByteArray.data_extract]
theorem Za (text:ByteArray) {j k i:Nat} (h:i < k - j) (hk:k≤text.size):Z2 (text.extract j k) i=Z2 text (j + i):=by
 unfold Z2; rw [getD_extract text h hk]
theorem Z1s (text:ByteArray) {j k:Nat} (hk:k≤text.size):(text.extract j k).size=k - j:=by
 rw [ByteArray.size_extract]; omega
theorem Z02 (p:Int→Bool) (text:ByteArray):∀ (f i:Nat),text.size - i≤f→i≤text.size →
 i≤Z9 p text f i∧Z9 p text f i≤text.size∧(∀ m,i≤m→m < Z9 p text f i→p (Z2 text m)=true)∧(Z9 p text f i < text.size→p (Z2 text (Z9 p text f i))=false):=by
 intro f;induction f with
 | zero=>intro i h hi; simp only [Z9]; exact ⟨Y0 _,hi,fun m h1 h2=>by omega,fun h'=>by omega⟩
 | succ f ih =>
   intro i h hi;simp only [Z9];by_cases hc:i < text.size∧p (Z2 text i)=true
   ·rw [Y5 (by simp [hc.1, hc.2])];obtain ⟨h1, h2, h3, h4⟩ := ih (i + 1) (by omega) (by omega);refine ⟨by omega, h2, fun m hm hm2 => ?_, h4⟩;by_cases e : m = i;·rw [e]; exact hc.2
    ·exact h3 m (by omega) hm2
   ·rw [Y3 (by simpa using hc)];refine ⟨Y0 _,hi,fun m h1 h2=>by omega,fun h'=>?_⟩;simpa [h'] using hc
theorem Z0t (p:Int→Bool) (text:ByteArray):∀ (f i k:Nat),text.size - i≤f→i≤k→k≤text.size→(∀ m,i≤m→m < k→p (Z2 text m)=true)→(k < text.size→p (Z2 text k)=false)→Z9 p text f i=k:=by
 intro f;induction f with
 | zero=>intro i k h h1 h2 _ _; simp only [Z9]; omega
 | succ f ih =>
   intro i k h h1 h2 h3 h4;simp only [Z9];by_cases e:i=k
   ·subst e;rw [Y3];simp only [Bool.and_eq_true,decide_eq_true_eq,not_and,Bool.not_eq_true];exact h4
   ·rw [Y5 (by simp [h3 i (Nat.le_refl _) (by omega)]; omega)];exact ih (i + 1) k (by omega) (by omega) h2 (fun m a b=>h3 m (by omega) b) h4
theorem Z6y (p:Int→Bool) (text:ByteArray) {j k:Nat} (hj:j < text.size) (hk:Z9 p text (text.size - j) j=k) :
 Z9 p (text.extract j k) ((text.extract j k).size - 0) 0=k - j:=by
 obtain ⟨h1,h2,h3,h4⟩:=Z02 p text (text.size - j) j (Y0 _) (by omega);rw [hk] at h1 h2 h3 h4;have hs:=Z1s text (j:=j) h2;refine Z0t p _ _ _ _ (by omega) (by omega) (by omega) (fun m _ hm=>?_) (fun h=>by omega);rw [Za text hm h2];exact h3 _ (by omega) (by omega)
theorem Zet (text:ByteArray) {j k:Nat} (hk:k≤text.size):∀ (f i:Nat) (n:Int),j≤i→numF (text.extract j k) (k - j) f (i - j) n=numF text k f i n:=by
 intro f;induction f with
 | zero=>intro i n _; rfl
 | succ f ih =>
   intro i n hi;simp only [numF];by_cases h:i < k
   ·rw [Y5 (by omega),Y5 h,Za text (by omega) hk,show j + (i - j)=i by omega,show i - j + 1=i + 1 - j by omega];exact ih (i + 1) _ (by omega)
   ·rw [Y3 (by omega),Y3 h]
theorem Za8 (text:ByteArray) {j:Nat}:∀ (f i:Nat) (acc bs:List UInt8) (k:Nat),j≤i→Z04 text f i acc=(bs,0,k) →
 i < k∧k≤text.size∧Z2 text (k - 1)=39∧∀ f',k - i≤f'→Z04 (text.extract j k) f' (i - j) acc=(bs,0,k - j):=by
 intro f;induction f with
 | zero=>intro i acc bs k _ h; simp [Z04] at h
 | succ f ih =>
   intro i acc bs k hj h;simp only [Z04] at h;by_cases h1:text.size≤i∨Z2 text i=10;·rw [Y5 h1] at h; simp at h
   rw [Y3 h1] at h;simp only [not_or,Nat.not_le] at h1;by_cases h2:Z2 text i=39
   ·rw [Y5 h2] at h;by_cases h3 : 500 < acc.length;·rw [Y5 h3] at h; simp at h
    rw [Y3 h3] at h;simp only [Prod.mk.injEq,true_and] at h;obtain ⟨rfl,rfl⟩:=h;refine ⟨by omega,by omega,by simpa using h2,fun f' hf=>?_⟩;obtain ⟨g,rfl⟩:∃ g,f'=g + 1:=⟨f' - 1,by omega⟩
    have hb:Z2 (text.extract j (i + 1)) (i - j)=Z2 text i:=by
     rw [Za text (by omega) (by omega),show j + (i - j)=i by omega]
    have hs:=Z1s text (j:=j) (k:=i + 1) (by omega);simp only [Z04,hb,hs];rw [Y3 (by omega),Y5 h2,Y3 h3,show i - j + 1=i + 1 - j by omega]
   rw [Y3 h2] at h;by_cases h3:Z2 text i=92
   ·rw [Y5 h3] at h;by_cases h4 : i + 1 < text.size
    ·rw [Y5 h4] at h;cases he : Z7h (Z2 text (i + 1)) with
     | none=>rw [he] at h; simp at h
     | some e =>
       rw [he] at h;simp only at h;obtain ⟨g1,g2,g3,g4⟩:=ih (i + 2) _ bs k (by omega) h;refine ⟨by omega,g2,g3,fun f' hf=>?_⟩;obtain ⟨g,rfl⟩:∃ g,f'=g + 1:=⟨f' - 1,by omega⟩
       have hb:Z2 (text.extract j k) (i - j)=Z2 text i:=by
        rw [Za text (by omega) (by omega),show j + (i - j)=i by omega]
       have hb1:Z2 (text.extract j k) (i - j + 1)=Z2 text (i + 1):=by
        rw [Za text (by omega) (by omega),show j + (i - j + 1)=i + 1 by omega]
       have hs:=Z1s text (j:=j) (k:=k) g2;simp only [Z04,hb,hs,hb1];rw [Y3 (by omega),Y3 h2,Y5 h3,Y5 (by omega),he];simp only;rw [show i - j + 2=i + 2 - j by omega];exact g4 g (by omega)
    ·rw [Y3 h4] at h; simp at h
   ·rw [Y3 h3] at h;obtain ⟨g1, g2, g3, g4⟩ := ih (i + 1) _ bs k (by omega) h;refine ⟨by omega, g2, g3, fun f' hf => ?_⟩;obtain ⟨g, rfl⟩ : ∃ g, f' = g + 1 := ⟨f' - 1, by omega⟩
    have hb:Z2 (text.extract j k) (i - j)=Z2 text i:=by
     rw [Za text (by omega) (by omega),show j + (i - j)=i by omega]
    have hd:(text.extract j k).data.getD (i - j) 0=text.data.getD i 0:=by
     rw [getD_extract text (by omega) (by omega),show j + (i - j)=i by omega]
    have hs:=Z1s text (j:=j) (k:=k) g2;simp only [Z04,hb,hs,hd];rw [Y3 (by omega),Y3 h2,Y3 h3,show i - j + 1=i + 1 - j by omega];exact g4 g (by omega)
theorem Z0n {c:Int} (h:Z1g c=true):Zn c=false:=by
 unfold Z1g Z01 Z09 at h;unfold Zn;simp only [Bool.or_eq_true,Bool.and_eq_true,decide_eq_true_eq] at h;simp only [Bool.or_eq_false_iff,decide_eq_false_iff_not];omega
theorem Z2m {c:Int} (h:Z01 c=true):Z1g c=true:=by simp [Z1g,h]
theorem Z5a {c:Int} (h:Z09 c=true):Z1g c=true:=by simp [Z1g,h]
theorem Zec {c:Int} (h:Z5u c=true):c≠0∧Zn c=false:=by
 simp only [Z5u,Bool.or_eq_true,beq_iff_eq] at h;simp only [Zn,Bool.or_eq_false_iff,decide_eq_false_iff_not];omega
theorem extract_all (b:ByteArray) (n:Nat) (h:n=b.size):b.extract 0 n=b:=by subst h; simp
theorem Z9o (text:ByteArray) (j:Nat) (h:Zl text j=1→Z5u (Z2 text j)=true) :
 1 ≤ Zl text j ∧ j + Zl text j ≤ text.size ∧ (∀ m, j ≤ m → m < j + Zl text j → Zn (Z2 text m) = false) ∧ Zl (text.extract j (j + Zl text j)) 0 = Zl text j ∧
   (Zl text j=1→Z2 (text.extract j (j + Zl text j)) 0=Z2 text j)∧Z2 (text.extract j (j + Zl text j)) 0=Z2 text j:=by
 by_cases h3:Z2 text j=61∧Z2 text (j + 1)=61∧Z2 text (j + 2)=61
 ·have e : Zl text j = 3 := by simp [Zl, h3]
  rw [e];have hl:=Z2f (text:=text) (i:=j + 2) (by omega);have b0:=Za text (j:=j) (k:=j + 3) (i:=0) (by omega) (by omega);have b1:=Za text (j:=j) (k:=j + 3) (i:=1) (by omega) (by omega);have b2:=Za text (j:=j) (k:=j + 3) (i:=2) (by omega) (by omega);refine ⟨by omega,by omega,fun m h1 h2=>?_,?_,fun _=>by rw [b0,Nat.add_zero],by rw [b0,Nat.add_zero]⟩
  ·have : m = j ∨ m = j + 1 ∨ m = j + 2 := by omega
   rcases this with rfl | rfl | rfl <;> simp [Zn,h3]
  ·unfold Zl; rw [show 0 + 1=1 by rfl,show 0 + 2=2 by rfl,b0,b1,b2,Nat.add_zero,Y5 h3]
 ·by_cases h2 : Z2 text j = 38 ∧ Z2 text (j + 1) = 38
  ·have e : Zl text j = 2 := by simp [Zl, h2]
   rw [e];have hl:=Z2f (text:=text) (i:=j + 1) (by omega);have b0:=Za text (j:=j) (k:=j + 2) (i:=0) (by omega) (by omega);have b1:=Za text (j:=j) (k:=j + 2) (i:=1) (by omega) (by omega);refine ⟨by omega,by omega,fun m h1 h2'=>?_,?_,fun _=>by rw [b0,Nat.add_zero],by rw [b0,Nat.add_zero]⟩
   ·have : m = j ∨ m = j + 1 := by omega
    rcases this with rfl | rfl <;> simp [Zn,h2]
   ·unfold Zl; rw [show 0 + 1=1 by rfl,show 0 + 2=2 by rfl,b0,b1,Nat.add_zero,Y3 (by omega),Y5 h2]
  ·by_cases h1 : Z2 text j = 124 ∧ Z2 text (j + 1) = 124
   ·have e : Zl text j = 2 := by simp [Zl, h1]
    rw [e];have hl:=Z2f (text:=text) (i:=j + 1) (by omega);have b0:=Za text (j:=j) (k:=j + 2) (i:=0) (by omega) (by omega);have b1:=Za text (j:=j) (k:=j + 2) (i:=1) (by omega) (by omega);refine ⟨by omega,by omega,fun m h1' h2'=>?_,?_,fun _=>by rw [b0,Nat.add_zero],by rw [b0,Nat.add_zero]⟩
    ·have : m = j ∨ m = j + 1 := by omega
     rcases this with rfl | rfl <;> simp [Zn,h1]
    ·unfold Zl; rw [show 0 + 1=1 by rfl,show 0 + 2=2 by rfl,b0,b1,Nat.add_zero,Y3 (by omega),Y3 (by omega),Y5 h1]
   ·have e : Zl text j = 1 := by simp [Zl, h3, h2, h1]
    have hs:=h e;rw [e];have hp:=Zec hs;have hl:=Z2f hp.1;have b0:=Za text (j:=j) (k:=j + 1) (i:=0) (by omega) (by omega);have b1:=Z2e (text:=text.extract j (j + 1)) (i:=1) (by rw [Z1s text (by omega)]; omega);refine ⟨by omega,by omega,fun m h1' h2'=>?_,?_,fun _=>by rw [b0,Nat.add_zero],by rw [b0,Nat.add_zero]⟩
    ·obtain rfl : m = j := by omega
     exact hp.2
    ·unfold Zl; rw [show 0 + 1=1 by rfl,show 0 + 2=2 by rfl,b1,Y3 (by omega),Y3 (by omega),Y3 (by omega)]
theorem Z0o (text:ByteArray) {j k:Nat} {t:Tok} (hj:j < text.size) (h:Z0g text j=.ok (t,k)) :
 j < k ∧ k ≤ text.size ∧ t.at' = j ∧ t.kind ≠ 6 ∧ Zn (Z2 text j) = false ∧ Zn (Z2 text (k - 1)) = false ∧
   Z0g (text.extract j k) 0=.ok ({ t with at':=0 },k - j):=by
 unfold Z0g at h;by_cases hl:Z01 (Z2 text j)=true
 ·rw [Y5 hl] at h;simp only at h;obtain ⟨K, hK⟩ : ∃ K, Z9 Z1g text (text.size - j) j = K := ⟨_, rfl⟩
  rw [hK] at h;obtain ⟨s1,s2,s3,s4⟩:=Z02 Z1g text (text.size - j) j (Y0 _) (by omega);have hcut:=Z6y Z1g text hj hK;rw [hK] at s1 s2 s3 s4;have hjK:j < K:=by
   rcases Nat.lt_or_ge j K with h' | h';·exact h'
   ·have:=s4 (by omega);rw [show K=j by omega,Z2m hl] at this;cases this
  have hb0:Z2 (text.extract j K) 0=Z2 text j:=by rw [Za text (by omega) s2,Nat.add_zero]
  have hbl:=Z0n (s3 (K - 1) (by omega) (by omega));have hall:(text.extract j K).extract 0 (K - j)=text.extract j K:=extract_all _ _ (Z1s text s2).symm;by_cases hw:Z1q (text.extract j K)=true
  ·rw [Y5 hw] at h;simp only [Except.ok.injEq,Prod.mk.injEq] at h;obtain ⟨rfl,rfl⟩:=h;refine ⟨hjK,s2,rfl,by simp,Z0n (Z2m hl),hbl,?_⟩;unfold Z0g;rw [hb0,Y5 hl];simp only [hcut,hall];rw [Y5 hw]
  ·rw [Y3 hw] at h;by_cases h20 : 20 < K - j;·rw [Y5 h20] at h; cases h
   ·rw [Y3 h20] at h;simp only [Except.ok.injEq,Prod.mk.injEq] at h;obtain ⟨rfl,rfl⟩:=h;refine ⟨hjK,s2,rfl,by simp,Z0n (Z2m hl),hbl,?_⟩;unfold Z0g;rw [hb0,Y5 hl];simp only [hcut,hall];rw [Y3 hw,Y3 (by omega)]
 rw [Y3 hl] at h;by_cases hd:Z09 (Z2 text j)=true
 ·rw [Y5 hd] at h;simp only at h;obtain ⟨K, hK⟩ : ∃ K, Z9 Z09 text (text.size - j) j = K := ⟨_, rfl⟩
  rw [hK] at h;obtain ⟨s1,s2,s3,s4⟩:=Z02 Z09 text (text.size - j) j (Y0 _) (by omega);have hcut:=Z6y Z09 text hj hK;rw [hK] at s1 s2 s3 s4;have hjK:j < K:=by
   rcases Nat.lt_or_ge j K with h' | h';·exact h'
   ·have:=s4 (by omega);rw [show K=j by omega,hd] at this;cases this
  have hb0:Z2 (text.extract j K) 0=Z2 text j:=by rw [Za text (by omega) s2,Nat.add_zero]
  have hbl:=Z0n (Z5a (s3 (K - 1) (by omega) (by omega)));have hnum:=Zet text (j:=j) s2 (K - j) j 0 (Y0 _);rw [Nat.sub_self] at hnum;by_cases h1:10 < K - j∨(1 < K - j∧Z2 text j=48);·rw [Y5 h1] at h; cases h
  rw [Y3 h1] at h;by_cases h2:1000000000 < numF text K (K - j) j 0;·rw [Y5 h2] at h; cases h
  rw [Y3 h2] at h;simp only [Except.ok.injEq,Prod.mk.injEq] at h;obtain ⟨rfl,rfl⟩:=h;refine ⟨hjK,s2,rfl,by simp,Z0n (Z5a hd),hbl,?_⟩;unfold Z0g;rw [hb0,Y3 hl,Y5 hd];simp only [hcut];simp only [Nat.sub_zero,hnum];rw [Y3 h1,Y3 h2]
 rw [Y3 hd] at h;by_cases hq:Z2 text j=39
 ·rw [Y5 hq] at h;obtain ⟨⟨bs, e, K⟩, hR⟩ : ∃ R, R = Z0l text (j + 1) := ⟨_, rfl⟩
  rw [← hR] at h;simp only at h;by_cases h4:e=4;·rw [Y5 h4] at h; cases h
  rw [Y3 h4] at h;by_cases h0:e≠0;·rw [Y5 h0] at h; cases h
  rw [Y3 h0] at h;simp only [ne_eq,Decidable.not_not] at h0;subst h0;simp only [Except.ok.injEq,Prod.mk.injEq] at h;obtain ⟨rfl,rfl⟩:=h;obtain ⟨g1,g2,g3,g4⟩:=Za8 text (j:=j) _ _ _ _ _ (by omega) hR.symm;refine ⟨by omega,g2,rfl,by simp,by rw [hq]; rfl,by rw [g3]; rfl,?_⟩;have hb0:Z2 (text.extract j K) 0=Z2 text j:=by rw [Za text (by omega) g2,Nat.add_zero]
  have hqa:Z0l (text.extract j K) (0 + 1)=(bs,0,K - j):=by
   have:=g4 ((text.extract j K).size + 1 - (0 + 1)) (by rw [Z1s text g2]; omega);rw [show j + 1 - j=0 + 1 by omega] at this;exact this
  unfold Z0g;rw [hb0,Y3 hl,Y3 hd,Y5 hq,hqa];simp
 rw [Y3 hq] at h;by_cases hs:Zl text j=1∧Z5u (Z2 text j)=false;·rw [Y5 hs] at h; cases h
 rw [Y3 hs] at h;simp only [Except.ok.injEq,Prod.mk.injEq] at h;obtain ⟨rfl,rfl⟩:=h;obtain ⟨g1,g2,g3,g4,g5,g6⟩:=Z9o text j (fun e=>by
  cases hb:Z5u (Z2 text j) with
  | true=>rfl
  | false=>exact absurd ⟨e,hb⟩ hs)
 refine ⟨by omega,g2,rfl,by simp,g3 j (Y0 _) (by omega),g3 _ (by omega) (by omega),?_⟩;have hall:(text.extract j (j + Zl text j)).extract 0 (0 + Zl text j)=text.extract j (j + Zl text j):=extract_all _ _ (by rw [Z1s text g2]; omega);unfold Z0g;rw [g6,Y3 hl,Y3 hd,Y3 hq,g4,Y3 hs,hall];simp
def Z3y (text:ByteArray):Nat→List Tok→Prop
 | _,[]=>False
 | i,[t]=>text.size≤Z9 Zn text (text.size - i) i∧t=⟨6,ByteArray.empty,0,Z9 Zn text (text.size - i) i⟩
 | i,t :: u :: l=>∃ k,Z9 Zn text (text.size - i) i < text.size∧Z0g text (Z9 Zn text (text.size - i) i)=.ok (t,k)∧Z3y text k (u :: l)
theorem Zbm (text:ByteArray):∀ (f i:Nat) (acc l:List Tok),i≤text.size→text.size - i < f→lexF text f i acc=.ok l→∃ r,l=acc ++ r∧Z3y text i r:=by
 intro f;induction f with
 | zero=>intro i acc l _ h2; omega
 | succ f ih =>
   intro i acc l hi hf h;simp only [lexF] at h;obtain ⟨s1,s2,_,_⟩:=Z02 Zn text (text.size - i) i (Y0 _) hi;by_cases hj:text.size≤Z9 Zn text (text.size - i) i
   ·rw [Y5 hj] at h;simp only [Except.ok.injEq] at h;exact ⟨_,h.symm,hj,rfl⟩
   ·rw [Y3 hj] at h;cases ht : Z0g text (Z9 Zn text (text.size - i) i) with
    | error e=>rw [ht] at h; cases h
    | ok x =>
      obtain ⟨t,k⟩:=x;rw [ht] at h;simp only at h;obtain ⟨c1,c2,_,_,_,_,_⟩:=Z0o text (by omega) ht;obtain ⟨r,hr,hS⟩:=ih k _ l c2 (by omega) h;refine ⟨t :: r,by simp [hr],?_⟩;cases r with
      | nil=>exact hS.elim
      | cons u r=>exact ⟨k,by omega,ht,hS⟩
theorem Z8k (text:ByteArray):∀ (r:List Tok) (f i:Nat) (acc:List Tok),i≤text.size→text.size - i < f→Z3y text i r→lexF text f i acc=.ok (acc ++ r):=by
 intro r;induction r with
 | nil=>intro f i acc _ _ h; exact h.elim
 | cons t r ih =>
   intro f i acc hi hf h;obtain ⟨g,rfl⟩:∃ g,f=g + 1:=⟨f - 1,by omega⟩
   obtain ⟨s1,s2,_,_⟩:=Z02 Zn text (text.size - i) i (Y0 _) hi;simp only [lexF];cases r with
   | nil=>obtain ⟨h1,h2⟩:=h; rw [Y5 h1,h2]
   | cons u r =>
     obtain ⟨k,h1,h2,h3⟩:=h;rw [Y3 (by omega),h2];simp only;obtain ⟨c1,c2,_,_,_,_,_⟩:=Z0o text h1 h2;rw [ih g k _ c2 (by omega) h3];simp
theorem Z33 {text:ByteArray} {l:List Tok} (h:Z2j text=.ok l):Z3y text 0 l:=by
 obtain ⟨r,hr,hS⟩:=Zbm text _ 0 [] l (Yh _) (by omega) h;rw [hr]; exact hS
inductive Tree
 | mk (kind:Int) (text:ByteArray) (n:Int) (kids:List Tree)
def Tree.kind:Tree→Int | .mk k _ _ _=>k
def Tree.text:Tree→ByteArray | .mk _ t _ _=>t
def Tree.n:Tree→Int | .mk _ _ n _=>n
def Tree.kids:Tree→List Tree | .mk _ _ _ l=>l
abbrev PR:=Option (Except (Int×Nat) (Tree×List Tok))
def hdT (ts:List Tok):Tok:=ts.headD ⟨6,ByteArray.empty,0,0⟩
def isT (s:ByteArray) (ts:List Tok):Bool:=(decide ((hdT ts).kind=5) || decide ((hdT ts).kind=2)) && Z0r (hdT ts).text s
def Z11 (e:Int) (ts:List Tok):PR:=some (.error (e,(hdT ts).at'))
def okT (t:Tree) (ts:List Tok):PR:=some (.ok (t,ts))
def Z00 (s:ByteArray) (ts:List Tok) (k:List Tok→PR):PR:=if isT s ts then k ts.tail else Z11 3 ts
def Z13 (ts:List Tok) (k:ByteArray→List Tok→PR):PR:=if (hdT ts).kind=1 then k (hdT ts).text ts.tail else Z11 3 ts
def Zh (p:PR) (k:Tree→List Tok→PR):PR:=match p with | none=>none | some (.error e)=>some (.error e) | some (.ok (t,ts))=>k t ts
def Z0d:ByteArray:=⟨#[123]⟩
def Zq:ByteArray:=⟨#[125]⟩
def Z0q:ByteArray:=⟨#[40]⟩
def Z0p:ByteArray:=⟨#[41]⟩
def Zk:ByteArray:=⟨#[59]⟩
def Z07:ByteArray:=⟨#[44]⟩
def Z2u:ByteArray:=⟨#[58]⟩
def Z9j:ByteArray:=⟨#[46]⟩
def s_eq:ByteArray:=⟨#[61]⟩
def Z24:ByteArray:=⟨#[118,97,114]⟩
def Z7b:ByteArray:=⟨#[108,101,116]⟩
def Z2y:ByteArray:=⟨#[99,111,110,115,116]⟩
def Z06:ByteArray:=⟨#[102,117,110,99,116,105,111,110]⟩
def s_if:ByteArray:=⟨#[105,102]⟩
def Z3m:ByteArray:=⟨#[101,108,115,101]⟩
def Z2v:ByteArray:=⟨#[119,104,105,108,101]⟩
def Z49:ByteArray:=⟨#[119,105,116,104]⟩
def Z1y:ByteArray:=⟨#[114,101,116,117,114,110]⟩
def Z2t:ByteArray:=⟨#[116,104,114,111,119]⟩
def Z7e:ByteArray:=⟨#[116,114,121]⟩
def Z16:ByteArray:=⟨#[99,97,116,99,104]⟩
def Zf:ByteArray:=⟨#[102,105,110,97,108,108,121]⟩
def Z46:ByteArray:=⟨#[33]⟩
def Z12:ByteArray:=⟨#[116,121,112,101,111,102]⟩
def Z1a:ByteArray:=⟨#[100,101,108,101,116,101]⟩
def Z2i:ByteArray:=⟨#[116,114,117,101]⟩
def Z1o:ByteArray:=⟨#[102,97,108,115,101]⟩
def Z37:ByteArray:=⟨#[110,117,108,108]⟩
def Z0k:ByteArray:=⟨#[117,110,100,101,102,105,110,101,100]⟩
def s_or:ByteArray:=⟨#[124,124]⟩
def Z77:ByteArray:=⟨#[38,38]⟩
def Z4c:ByteArray:=⟨#[61,61,61]⟩
def Z4d:ByteArray:=⟨#[60]⟩
def Z6e:ByteArray:=⟨#[43]⟩
def Z7c:ByteArray:=⟨#[45]⟩
def Z7i:ByteArray:=⟨#[42]⟩
def Z0a:ByteArray:=⟨#[117,115,101,32,115,116,114,105,99,116]⟩
def Z3i:ByteArray:=⟨#[115,116,114,105,99,116]⟩
def Z1i (l:List Tree):Bool:=
 match l with
 | .mk k _ _ (x :: _) :: _=>decide (k=15) && decide (x.kind=18) && Z0r x.text Z0a
 | _=>false
def Z03 (level:Nat) (ts:List Tok):Int:=
 match level with
 | 0=>if isT s_or ts then 25 else 0
 | 1=>if isT Z77 ts then 26 else 0
 | 2=>if isT Z4c ts then 27 else 0
 | 3=>if isT Z4d ts then 28 else 0
 | 4=>if isT Z6e ts then 29 else if isT Z7c ts then 30 else 0
 | 5=>if isT Z7i ts then 31 else 0
 | _=>0
def Z0i (ts:List Tok):Int:=if isT Z46 ts then 32 else if isT Z12 ts then 33 else if isT Z1a ts then 34 else 0
def Z0j (ts:List Tok):Int:=if isT Z2i ts then 19 else if isT Z1o ts then 20 else if isT Z37 ts then 21 else if isT Z0k ts then 22 else 0
inductive Job
 | stmts (kind:Int) (acc:List Tree)
 | block (body:Bool)
 | func (kind:Int) (text:ByteArray)
 | params (acc:List Tree)
 | around
 | stmt
 | decl (kind:Int) (must:Bool)
 | try_
 | value
 | assign
 | bin (level:Nat)
 | binLoop (level:Nat) (x:Tree)
 | unary
 | postfix_
 | postLoop (x:Tree)
 | args (acc:List Tree)
 | primary
 | object (acc:List Tree)
def endT (n:Tree) (ts:List Tok):PR:=Z00 Zk ts fun ts=>okT n ts
def Zj (d:Nat) (ts:List Tok) (p:PR):PR:=if 30 < d + 1 then Z11 4 ts else p
def Z0:Nat→Job→Nat→List Tok→PR
 | 0,_,_,_=>none
 | f + 1, .stmts kind acc, d, ts =>
   if (if kind=1 then decide ((hdT ts).kind=6) else isT Zq ts) then okT (.mk kind (if Z1i acc then Z3i else ByteArray.empty) 0 acc) ts
   else Zh (Zj d ts (Z0 f .stmt (d + 1) ts)) fun x ts=>Z0 f (.stmts kind (acc ++ [x])) d ts
 | f + 1, .block body, d, ts =>
   Z00 Z0d ts fun ts=>Zh (Z0 f (.stmts 6 []) d ts) fun x ts=>Z00 Zq ts fun ts=>okT (if body then x else .mk 6 ByteArray.empty 0 x.kids) ts
 | f + 1, .func kind text, d, ts =>
   Z00 Z0q ts fun ts=>Zh (Z0 f (.params []) d ts) fun p ts=>Z00 Z0p ts fun ts=>Zh (Z0 f (.block true) d ts) fun b ts=>okT (.mk kind text 0 [p,b]) ts
 | f + 1, .params acc, d, ts =>
   if isT Z0p ts then okT (.mk 40 ByteArray.empty 0 acc) ts
   else (if 0 < acc.length then Z00 Z07 ts else fun k=>k ts) fun ts=>
    if acc.length=8 then Z11 4 ts else Z13 ts fun s ts=>Z0 f (.params (acc ++ [.mk 23 s 0 []])) d ts
 | f + 1, .around, d, ts =>
   Z00 Z0q ts fun ts=>Zh (Z0 f .value d ts) fun x ts=>Z00 Z0p ts fun ts=>okT x ts
 | f + 1, .stmt, d, ts =>
   if isT Z0d ts then Z0 f (.block false) d ts
   else if isT Zk ts then okT (.mk 16 ByteArray.empty 0 []) ts.tail
   else if isT Z24 ts then Zh (Z0 f (.decl 2 false) d ts.tail) endT
   else if isT Z7b ts then Zh (Z0 f (.decl 3 false) d ts.tail) endT
   else if isT Z2y ts then Zh (Z0 f (.decl 4 true) d ts.tail) endT
   else if isT Z06 ts then Z13 ts.tail fun s ts=>Z0 f (.func 5 s) d ts
   else if isT s_if ts then
    Zh (Z0 f .around d ts.tail) fun x ts=>Zh (Zj d ts (Z0 f .stmt (d + 1) ts)) fun y ts=>
     if isT Z3m ts then Zh (Zj d ts.tail (Z0 f .stmt (d + 1) ts.tail)) fun z ts=>okT (.mk 7 ByteArray.empty 0 [x,y,z]) ts
     else okT (.mk 7 ByteArray.empty 0 [x,y]) ts
   else if isT Z2v ts then
    Zh (Z0 f .around d ts.tail) fun x ts=>Zh (Zj d ts (Z0 f .stmt (d + 1) ts)) fun y ts=>okT (.mk 8 ByteArray.empty 0 [x,y]) ts
   else if isT Z49 ts then
    Zh (Z0 f .around d ts.tail) fun x ts=>Zh (Zj d ts (Z0 f .stmt (d + 1) ts)) fun y ts=>okT (.mk 9 ByteArray.empty 0 [x,y]) ts
   else if isT Z1y ts then
    if isT Zk ts.tail then endT (.mk 10 ByteArray.empty 0 []) ts.tail
    else Zh (Z0 f .value d ts.tail) fun x ts=>endT (.mk 10 ByteArray.empty 0 [x]) ts
   else if isT Z2t ts then Zh (Z0 f .value d ts.tail) fun x ts=>endT (.mk 11 ByteArray.empty 0 [x]) ts
   else if isT Z7e ts then Z0 f .try_ d ts.tail
   else Zh (Z0 f .value d ts) fun x ts=>endT (.mk 15 ByteArray.empty 0 [x]) ts
 | f + 1, .decl kind must, d, ts =>
   Z13 ts fun s ts=>
    if must && !isT s_eq ts then Z11 3 ts
    else if isT s_eq ts then Zh (Z0 f .value d ts.tail) fun x ts=>okT (.mk kind s 0 [x]) ts
    else okT (.mk kind s 0 []) ts
 | f + 1, .try_, d, ts =>
   Zh (Z0 f (.block false) d ts) fun b ts=>
    (fun (k : List Tree → List Tok → PR) =>
     if isT Z16 ts then Z00 Z0q ts.tail fun ts=>Z13 ts fun s ts=>Z00 Z0p ts fun ts=>Zh (Z0 f (.block false) d ts) fun c ts=>k [b,.mk 13 s 0 [c]] ts
     else k [b] ts) fun l ts=>
    if isT Zf ts then Zh (Z0 f (.block false) d ts.tail) fun c ts=>okT (.mk 12 ByteArray.empty 0 (l ++ [.mk 14 ByteArray.empty 0 [c]])) ts
    else if l.length=1 then Z11 3 ts else okT (.mk 12 ByteArray.empty 0 l) ts
 | f + 1,.value,d,ts=>Zj d ts (Z0 f .assign (d + 1) ts)
 | f + 1, .assign, d, ts =>
   Zh (Z0 f (.bin 0) d ts) fun x ts'=>
    if isT s_eq ts' then
     if x.kind=23∨x.kind=36 then Zh (Z0 f .value d ts'.tail) fun y ts=>okT (.mk 24 ByteArray.empty 0 [x,y]) ts
     else some (.error (1,(hdT ts).at'))
    else okT x ts'
 | f + 1, .bin level, d, ts =>
   if 6≤level then Z0 f .unary d ts
   else Zh (Z0 f (.bin (level + 1)) d ts) fun x ts=>Z0 f (.binLoop level x) d ts
 | f + 1, .binLoop level x, d, ts =>
   if Z03 level ts=0 then okT x ts
   else Zh (Z0 f (.bin (level + 1)) d ts.tail) fun y ts'=>Z0 f (.binLoop level (.mk (Z03 level ts) ByteArray.empty 0 [x,y])) d ts'
 | f + 1, .unary, d, ts =>
   if Z0i ts=0 then Z0 f .postfix_ d ts
   else Zh (Zj d ts.tail (Z0 f .unary (d + 1) ts.tail)) fun x ts'=>okT (.mk (Z0i ts) ByteArray.empty 0 [x]) ts'
 | f + 1,.postfix_,d,ts=>Zh (Z0 f .primary d ts) fun x ts=>Z0 f (.postLoop x) d ts
 | f + 1, .postLoop x, d, ts =>
   if isT Z9j ts then Z13 ts.tail fun s ts=>Z0 f (.postLoop (.mk 36 s 0 [x])) d ts
   else if isT Z0q ts then Zh (Z0 f (.args [x]) d ts.tail) fun n ts=>Z0 f (.postLoop n) d ts
   else okT x ts
 | f + 1, .args acc, d, ts =>
   if isT Z0p ts then okT (.mk 35 ByteArray.empty 0 acc) ts.tail
   else (if 1 < acc.length then Z00 Z07 ts else fun k=>k ts) fun ts=>
    if 8 < acc.length then Z11 4 ts else Zh (Z0 f .value d ts) fun v ts=>Z0 f (.args (acc ++ [v])) d ts
 | f + 1, .primary, d, ts =>
   if (hdT ts).kind=1 then okT (.mk 23 (hdT ts).text 0 []) ts.tail
   else if (hdT ts).kind=3 then okT (.mk 17 ByteArray.empty (hdT ts).n []) ts.tail
   else if (hdT ts).kind=4 then okT (.mk 18 (hdT ts).text 0 []) ts.tail
   else if Z0j ts≠0 then okT (.mk (Z0j ts) ByteArray.empty 0 []) ts.tail
   else if isT Z0q ts then Z0 f .around d ts
   else if isT Z06 ts then
    if (hdT ts.tail).kind=1 then Z0 f (.func 37 (hdT ts.tail).text) d ts.tail.tail
    else Z0 f (.func 37 ByteArray.empty) d ts.tail
   else if isT Z0d ts then Z0 f (.object []) d ts.tail
   else Z11 3 ts
 | f + 1, .object acc, d, ts =>
   if isT Zq ts then okT (.mk 38 ByteArray.empty 0 acc) ts.tail
   else (if 0 < acc.length then Z00 Z07 ts else fun k=>k ts) fun ts=>
    if acc.length=8 then Z11 4 ts
    else Z13 ts fun s ts=>Z00 Z2u ts fun ts=>Zh (Z0 f .value d ts) fun v ts=>Z0 f (.object (acc ++ [.mk 39 s 0 [v]])) d ts
mutual
def Tree.many:Tree→Nat
 | .mk _ _ _ l=>Z1t l + 1
def Z1t:List Tree→Nat
 | []=>0
 | t :: l=>t.many + Z1t l
end
theorem Zg {s:ByteArray} {ts:List Tok} (h:isT s ts=true):ts.tail.length < ts.length:=by
 cases ts with
 | nil=>simp [isT,hdT] at h
 | cons t l=>simp
theorem Zz (ts:List Tok):ts.tail.length≤ts.length:=by cases ts <;> simp
theorem Z1l {ts:List Tok} (h:(hdT ts).kind≠6):ts.tail.length < ts.length:=by
 cases ts with
 | nil=>simp [hdT] at h
 | cons t l=>simp
def Leaves (n:Nat) (p:PR):Prop:=∀ t ts,p=some (.ok (t,ts))→ts.length < n
theorem Leaves.fail {n:Nat} {e:Int} {ts:List Tok}:Leaves n (Z11 e ts):=by intro t ts' h; cases h
theorem Leaves.none {n:Nat}:Leaves n none:=by intro t ts' h; cases h
theorem Leaves.err {n:Nat} {e:Int×Nat}:Leaves n (some (.error e)):=by intro t ts' h; cases h
theorem Leaves.ok {n:Nat} {t:Tree} {ts:List Tok} (h:ts.length < n):Leaves n (okT t ts):=by
 intro t' ts' h';simp only [okT,Option.some.injEq,Except.ok.injEq,Prod.mk.injEq] at h';rw [← h'.2]; exact h
theorem Leaves.bind {n m:Nat} {p:PR} {k:Tree→List Tok→PR} (hp:Leaves m p) (hk:∀ t ts,ts.length < m→Leaves n (k t ts)):Leaves n (Zh p k):=by
 cases p with
 | none=>exact Leaves.none
 | some r =>
   cases r with
   | error e=>exact Leaves.err
   | ok x=>obtain ⟨t,ts⟩:=x; exact hk t ts (hp t ts rfl)
theorem Leaves.want {n:Nat} {s:ByteArray} {ts:List Tok} {k:List Tok→PR} (hk:ts.tail.length < ts.length→Leaves n (k ts.tail)):Leaves n (Z00 s ts k):=by
 unfold Z00;by_cases h:isT s ts=true;·rw [Y5 h]; exact hk (Zg h)
 ·rw [Y3 h]; exact Leaves.fail
theorem Leaves.name {n:Nat} {ts:List Tok} {k:ByteArray→List Tok→PR} (hk:∀ s,ts.tail.length < ts.length→Leaves n (k s ts.tail)):Leaves n (Z13 ts k):=by
 unfold Z13;by_cases h:(hdT ts).kind=1;·rw [Y5 h]; exact hk _ (Z1l (by omega))
 ·rw [Y3 h]; exact Leaves.fail
theorem Leaves.within {n d:Nat} {ts:List Tok} {p:PR} (h:Leaves n p):Leaves n (Zj d ts p):=by
 unfold Zj;by_cases h':30 < d + 1;·rw [Y5 h']; exact Leaves.fail
 ·rw [Y3 h']; exact h
theorem Leaves.ite {n:Nat} {c:Prop} [Decidable c] {p q:PR} (hp:c→Leaves n p) (hq:¬ c→Leaves n q):Leaves n (if c then p else q):=by
 by_cases h:c;·rw [Y5 h]; exact hp h
 ·rw [Y3 h]; exact hq h
theorem Leaves.comma {n:Nat} {c:Prop} [Decidable c] {ts:List Tok} {k:List Tok→PR} (hk:∀ ts',ts'.length≤ts.length→Leaves n (k ts')):Leaves n ((if c then Z00 Z07 ts else fun k=>k ts) k):=by
 by_cases h:c;·rw [Y5 h]; exact Leaves.want fun h'=>hk _ (by omega)
 ·rw [Y3 h]; exact hk _ (Y0 _)
def Job.least:Job→Nat
 | .stmts ..=>1
 | .params ..=>1
 | .binLoop ..=>1
 | .postLoop ..=>1
 | _=>0
theorem Zx:∀ (f:Nat) (job:Job) (d:Nat) (ts:List Tok),Leaves (ts.length + job.least) (Z0 f job d ts):=by
 intro f;induction f with
 | zero=>intro job d ts; unfold Z0; exact Leaves.none
 | succ f ih =>
   intro job d ts;have ih0:∀ {n:Nat} {job:Job} (d:Nat) (ts:List Tok),ts.length + job.least≤n→Leaves n (Z0 f job d ts):=fun d ts h t ts' e=>Y7 (ih _ d ts t ts' e) h;cases job with
   | stmts kind acc =>
     unfold Z0;refine Leaves.ite (fun _=>Leaves.ok (by simp [Job.least])) fun _=>?_;exact Leaves.bind (Leaves.within (ih .stmt _ _)) fun t ts' h=>ih0 _ _ (by simp only [Job.least] at *; omega)
   | block body =>
     unfold Z0;refine Leaves.want fun h=>?_;refine Leaves.bind (ih (.stmts 6 []) _ _) fun t ts' h'=>?_;refine Leaves.want fun h''=>Leaves.ok ?_;simp only [Job.least] at *; omega
   | func kind text =>
     unfold Z0;refine Leaves.want fun h=>Leaves.bind (ih (.params []) _ _) fun t ts' h'=>Leaves.want fun h2=>Leaves.bind (ih (.block true) _ _) fun t ts' h3=>Leaves.ok ?_;simp only [Job.least] at *; omega
   | params acc =>
     unfold Z0;refine Leaves.ite (fun _=>Leaves.ok (by simp [Job.least])) fun _=>?_;refine Leaves.comma fun ts' h=>Leaves.ite (fun _=>Leaves.fail) fun _=>Leaves.name fun s h2=>ih0 _ _ ?_;simp only [Job.least] at *; omega
   | around =>
     unfold Z0;refine Leaves.want fun h=>Leaves.bind (ih .value _ _) fun t ts' h'=>Leaves.want fun h2=>Leaves.ok ?_;simp only [Job.least] at *; omega
   | stmt =>
     unfold Z0;have hend:∀ (n:Tree) (us:List Tok),us.length≤ts.length→Leaves (ts.length + Job.stmt.least) (endT n us):=fun n us h=>Leaves.want fun h2=>Leaves.ok (by simp only [Job.least] at *; omega);have htl:=Zz ts;refine Leaves.ite (fun h=>ih0 _ _ (by simp [Job.least])) fun _=>?_;refine Leaves.ite (fun h=>Leaves.ok (by have:=Zg h; simp only [Job.least] at *; omega)) fun _=>?_;refine Leaves.ite (fun h=>Leaves.bind (ih (.decl 2 false) _ _) fun t us h2=>hend _ _ (by simp only [Job.least] at *; omega)) fun _=>?_
     refine Leaves.ite (fun h=>Leaves.bind (ih (.decl 3 false) _ _) fun t us h2=>hend _ _ (by simp only [Job.least] at *; omega)) fun _=>?_;refine Leaves.ite (fun h=>Leaves.bind (ih (.decl 4 true) _ _) fun t us h2=>hend _ _ (by simp only [Job.least] at *; omega)) fun _=>?_;refine Leaves.ite (fun h=>Leaves.name fun s h2=>ih0 _ _ (by simp only [Job.least] at *; omega)) fun _=>?_
     refine Leaves.ite (fun h=>Leaves.bind (ih .around _ _) fun t us h2=>Leaves.bind (Leaves.within (ih .stmt _ _)) fun t vs h3=>Leaves.ite (fun h4=>Leaves.bind (Leaves.within (ih .stmt _ _)) fun t xs h5=>Leaves.ok (by have:=Zz vs; simp only [Job.least] at *; omega)) (fun _=>Leaves.ok (by simp only [Job.least] at *; omega))) fun _=>?_;refine Leaves.ite (fun h=>Leaves.bind (ih .around _ _) fun t us h2=>Leaves.bind (Leaves.within (ih .stmt _ _)) fun t vs h3=>Leaves.ok (by simp only [Job.least] at *; omega)) fun _=>?_
     refine Leaves.ite (fun h=>Leaves.bind (ih .around _ _) fun t us h2=>Leaves.bind (Leaves.within (ih .stmt _ _)) fun t vs h3=>Leaves.ok (by simp only [Job.least] at *; omega)) fun _=>?_;refine Leaves.ite (fun h=>Leaves.ite (fun h1=>hend _ _ htl) (fun _=>Leaves.bind (ih .value _ _) fun t us h2=>hend _ _ (by simp only [Job.least] at *; omega))) fun _=>?_;refine Leaves.ite (fun h=>Leaves.bind (ih .value _ _) fun t us h2=>hend _ _ (by simp only [Job.least] at *; omega)) fun _=>?_;refine Leaves.ite (fun h=>ih0 _ _ (by simp only [Job.least] at *; omega)) fun _=>?_
     exact Leaves.bind (ih .value _ _) fun t us h2=>hend _ _ (by simp only [Job.least] at *; omega)
   | decl kind must =>
     unfold Z0;refine Leaves.name fun s h=>Leaves.ite (fun _=>Leaves.fail) fun _=>Leaves.ite (fun h2=>Leaves.bind (ih .value _ _) fun t us h3=>Leaves.ok ?_) fun _=>Leaves.ok ?_;·have:=Zz ts.tail; simp only [Job.least] at *; omega
     ·simp only [Job.least] at *; omega
   | try_ =>
     unfold Z0;refine Leaves.bind (ih (.block false) _ _) fun b us h=>?_;have hk:∀ (l:List Tree) (vs:List Tok),vs.length≤us.length→Leaves (ts.length + Job.try_.least) (if isT Zf vs then Zh (Z0 f (.block false) d vs.tail) fun c ts=>okT (.mk 12 ByteArray.empty 0 (l ++ [.mk 14 ByteArray.empty 0 [c]])) ts else if l.length=1 then Z11 3 vs else okT (.mk 12 ByteArray.empty 0 l) vs):=by
      intro l vs h2;have:=Zz vs;refine Leaves.ite (fun _=>Leaves.bind (ih (.block false) _ _) fun t xs h3=>Leaves.ok ?_) fun _=>Leaves.ite (fun _=>Leaves.fail) fun _=>Leaves.ok ?_;·simp only [Job.least] at *; omega
      ·simp only [Job.least] at *; omega
     refine Leaves.ite (fun h1=>?_) fun _=>hk _ _ (Y0 _);refine Leaves.want fun h2=>Leaves.name fun s h3=>Leaves.want fun h4=>Leaves.bind (ih (.block false) _ _) fun c vs h5=>hk _ _ ?_;have:=Zz us; simp only [Job.least] at *; omega
   | value=>unfold Z0; exact Leaves.within (ih0 _ _ (by simp [Job.least]))
   | assign =>
     unfold Z0;refine Leaves.bind (ih (.bin 0) _ _) fun x us h=>Leaves.ite (fun h1=>Leaves.ite (fun _=>Leaves.bind (ih .value _ _) fun y vs h2=>Leaves.ok ?_) fun _=>Leaves.err) fun _=>Leaves.ok ?_;·have:=Zz us; simp only [Job.least] at *; omega
     ·simp only [Job.least] at *; omega
   | bin level =>
     unfold Z0;refine Leaves.ite (fun _=>ih0 _ _ (by simp [Job.least])) fun _=>Leaves.bind (ih (.bin (level + 1)) _ _) fun x us h=>ih0 _ _ ?_;simp only [Job.least] at *; omega
   | binLoop level x =>
     unfold Z0;refine Leaves.ite (fun _=>Leaves.ok (by simp [Job.least])) fun _=>Leaves.bind (ih (.bin (level + 1)) _ _) fun y us h=>ih0 _ _ ?_;have:=Zz ts; simp only [Job.least] at *; omega
   | unary =>
     unfold Z0;refine Leaves.ite (fun _=>ih0 _ _ (by simp [Job.least])) fun _=>Leaves.bind (Leaves.within (ih .unary _ _)) fun y us h=>Leaves.ok ?_;have:=Zz ts; simp only [Job.least] at *; omega
   | postfix_ =>
     unfold Z0;refine Leaves.bind (ih .primary _ _) fun y us h=>ih0 _ _ ?_;simp only [Job.least] at *; omega
   | postLoop x =>
     unfold Z0;have:=Zz ts;refine Leaves.ite (fun _=>Leaves.name fun s h=>ih0 _ _ (by simp only [Job.least] at *; omega)) fun _=>Leaves.ite (fun _=>Leaves.bind (ih (.args [x]) _ _) fun y us h=>ih0 _ _ (by simp only [Job.least] at *; omega)) fun _=>Leaves.ok (by simp [Job.least])
   | args acc =>
     unfold Z0;refine Leaves.ite (fun h=>Leaves.ok (by have:=Zg h; simp only [Job.least] at *; omega)) fun _=>Leaves.comma fun us h=>Leaves.ite (fun _=>Leaves.fail) fun _=>Leaves.bind (ih .value _ _) fun y vs h2=>ih0 _ _ (by simp only [Job.least] at *; omega)
   | primary =>
     unfold Z0;have:=Zz ts;have:=Zz ts.tail;refine Leaves.ite (fun h=>Leaves.ok (by have:=Z1l (ts:=ts) (by omega); simp only [Job.least] at *; omega)) fun _=>?_;refine Leaves.ite (fun h=>Leaves.ok (by have:=Z1l (ts:=ts) (by omega); simp only [Job.least] at *; omega)) fun _=>?_;refine Leaves.ite (fun h=>Leaves.ok (by have:=Z1l (ts:=ts) (by omega); simp only [Job.least] at *; omega)) fun _=>?_;refine Leaves.ite (fun h=>Leaves.ok ?_) fun _=>?_
     ·have:ts.tail.length < ts.length:=by
       unfold Z0j at h;by_cases h1:isT Z2i ts=true;·exact Zg h1
       ·by_cases h2 : isT Z1o ts = true;·exact Zg h2
        ·by_cases h3 : isT Z37 ts = true;·exact Zg h3
         ·by_cases h4 : isT Z0k ts = true;·exact Zg h4
          ·simp [h1,h2,h3,h4] at h
      simp only [Job.least] at *; omega
     refine Leaves.ite (fun _=>ih0 _ _ (by simp [Job.least])) fun _=>?_;refine Leaves.ite (fun _=>Leaves.ite (fun _=>ih0 _ _ (by simp only [Job.least] at *; omega)) fun _=>ih0 _ _ (by simp only [Job.least] at *; omega)) fun _=>?_;exact Leaves.ite (fun _=>ih0 _ _ (by simp only [Job.least] at *; omega)) fun _=>Leaves.fail
   | object acc =>
     unfold Z0;refine Leaves.ite (fun h=>Leaves.ok (by have:=Zg h; simp only [Job.least] at *; omega)) fun _=>Leaves.comma fun us h=>Leaves.ite (fun _=>Leaves.fail) fun _=>Leaves.name fun s h1=>Leaves.want fun h2=>Leaves.bind (ih .value _ _) fun y vs h2=>ih0 _ _ (by simp only [Job.least] at *; omega)
def Job.rank:Job→Nat
 | .stmts ..=>30
 | .block _=>5
 | .func ..=>1
 | .params _=>1
 | .around=>1
 | .stmt=>20
 | .decl ..=>1
 | .try_=>6
 | .value=>19
 | .assign=>18
 | .bin level=>10 + (6 - level)
 | .binLoop ..=>31
 | .unary=>9
 | .postfix_=>8
 | .postLoop _=>31
 | .args _=>31
 | .primary=>7
 | .object _=>31
def Z7 (p:PR):Prop:=p≠none
theorem Z7.fail {e:Int} {ts:List Tok}:Z7 (Z11 e ts):=by simp [Z7,Z11]
theorem Z7.ok {t:Tree} {ts:List Tok}:Z7 (okT t ts):=by simp [Z7,okT]
theorem Z7.bind {p:PR} {k:Tree→List Tok→PR} {n:Nat} (hp:Z7 p) (hl:Leaves n p) (hk:∀ t ts,ts.length < n→Z7 (k t ts)):Z7 (Zh p k):=by
 cases p with
 | none=>exact absurd rfl hp
 | some r =>
   cases r with
   | error e=>simp [Z7,Zh]
   | ok x=>obtain ⟨t,ts⟩:=x; exact hk t ts (hl t ts rfl)
theorem Z7.want {s:ByteArray} {ts:List Tok} {k:List Tok→PR} (hk:ts.tail.length < ts.length→Z7 (k ts.tail)):Z7 (Z00 s ts k):=by
 unfold Z00;by_cases h:isT s ts=true;·rw [Y5 h]; exact hk (Zg h)
 ·rw [Y3 h]; exact Z7.fail
theorem Z7.name {ts:List Tok} {k:ByteArray→List Tok→PR} (hk:∀ s,ts.tail.length < ts.length→Z7 (k s ts.tail)):Z7 (Z13 ts k):=by
 unfold Z13;by_cases h:(hdT ts).kind=1;·rw [Y5 h]; exact hk _ (Z1l (by omega))
 ·rw [Y3 h]; exact Z7.fail
theorem Z7.within {d:Nat} {ts:List Tok} {p:PR} (h:Z7 p):Z7 (Zj d ts p):=by
 unfold Zj;by_cases h':30 < d + 1;·rw [Y5 h']; exact Z7.fail
 ·rw [Y3 h']; exact h
theorem Z7.ite {c:Prop} [Decidable c] {p q:PR} (hp:c→Z7 p) (hq:¬ c→Z7 q):Z7 (if c then p else q):=by
 by_cases h:c;·rw [Y5 h]; exact hp h
 ·rw [Y3 h]; exact hq h
theorem Z7.comma {c:Prop} [Decidable c] {ts:List Tok} {k:List Tok→PR} (hk:∀ ts',ts'.length≤ts.length→Z7 (k ts')):Z7 ((if c then Z00 Z07 ts else fun k=>k ts) k):=by
 by_cases h:c;·rw [Y5 h]; exact Z7.want fun h'=>hk _ (by omega)
 ·rw [Y3 h]; exact hk _ (Y0 _)
theorem Z6x {ts:List Tok} (h:¬ Z0i ts=0):ts.tail.length < ts.length:=by
 unfold Z0i at h;by_cases h1:isT Z46 ts=true;·exact Zg h1
 ·by_cases h2 : isT Z12 ts = true;·exact Zg h2
  ·by_cases h3 : isT Z1a ts = true;·exact Zg h3
   ·simp [h1,h2,h3] at h
theorem Z4j {level:Nat} {ts:List Tok} (h:¬ Z03 level ts=0):ts.tail.length < ts.length:=by
 have key:∀ {s:ByteArray} {x y:Int},¬ (if isT s ts then x else y)=0→¬ y=0∨ts.tail.length < ts.length:=by
  intro s x y h;by_cases h1:isT s ts=true;·exact .inr (Zg h1)
  ·rw [Y3 h1] at h; exact .inl h
 unfold Z03 at h;split at h
 all_goals first
  | exact absurd rfl h
  | (rcases key h with h | h; (exact absurd rfl h); exact h)
  | (rcases key h with h | h; (rcases key h with h | h; (exact absurd rfl h); exact h); exact h)
theorem Zb5:∀ (f:Nat) (job:Job) (d:Nat) (ts:List Tok),40 * ts.length + job.rank < f→Z7 (Z0 f job d ts):=by
 intro f;induction f with
 | zero=>intro job d ts h; omega
 | succ f ih =>
   intro job d ts hf;have L:=Zx f;have htl:=Zz ts;cases job with
   | stmts kind acc =>
     unfold Z0;refine Z7.ite (fun _=>Z7.ok) fun _=>Z7.bind (n:=ts.length) (Z7.within (ih _ _ _ (by simp only [Job.rank] at *; omega))) (Leaves.within (L .stmt _ _)) fun t us h=>ih _ _ _ (by simp only [Job.rank] at *; omega)
   | block body =>
     unfold Z0;refine Z7.want fun h=>Z7.bind (ih _ _ _ (by simp only [Job.rank] at *; omega)) (L _ _ _) fun t us h=>Z7.want fun h2=>Z7.ok
   | func kind text =>
     unfold Z0;refine Z7.want fun h=>Z7.bind (ih _ _ _ (by simp only [Job.rank] at *; omega)) (L (.params []) _ _) fun t us h=>Z7.want fun h2=>Z7.bind (ih _ _ _ (by simp only [Job.rank,Job.least] at *; omega)) (L _ _ _) fun t us h=>Z7.ok
   | params acc =>
     unfold Z0;refine Z7.ite (fun _=>Z7.ok) fun _=>Z7.comma fun us h=>Z7.ite (fun _=>Z7.fail) fun _=>Z7.name fun s h2=>ih _ _ _ (by simp only [Job.rank] at *; omega)
   | around =>
     unfold Z0;refine Z7.want fun h=>Z7.bind (ih _ _ _ (by simp only [Job.rank] at *; omega)) (L _ _ _) fun t us h=>Z7.want fun h2=>Z7.ok
   | stmt =>
     unfold Z0;have hend:∀ (n:Tree) (us:List Tok),Z7 (endT n us):=fun n us=>Z7.want fun h2=>Z7.ok;refine Z7.ite (fun h=>ih _ _ _ (by simp only [Job.rank] at *; omega)) fun _=>?_;refine Z7.ite (fun h=>Z7.ok) fun _=>?_;refine Z7.ite (fun h=>Z7.bind (ih _ _ _ (by simp only [Job.rank] at *; omega)) (L _ _ _) fun t us h2=>hend _ _) fun _=>?_;refine Z7.ite (fun h=>Z7.bind (ih _ _ _ (by simp only [Job.rank] at *; omega)) (L _ _ _) fun t us h2=>hend _ _) fun _=>?_
     refine Z7.ite (fun h=>Z7.bind (ih _ _ _ (by simp only [Job.rank] at *; omega)) (L _ _ _) fun t us h2=>hend _ _) fun _=>?_;refine Z7.ite (fun h=>Z7.name fun s h2=>ih _ _ _ (by simp only [Job.rank] at *; omega)) fun _=>?_;refine Z7.ite (fun h=>?_) fun _=>?_
     ·have:=Zg h;refine Z7.bind (ih _ _ _ (by simp only [Job.rank] at *; omega)) (L .around _ _) fun t us h2=>?_;refine Z7.bind (Z7.within (ih _ _ _ (by simp only [Job.rank,Job.least] at *; omega))) (Leaves.within (L .stmt _ _)) fun t vs h3=>?_;have:=Zz vs;exact Z7.ite (fun h4=>Z7.bind (Z7.within (ih _ _ _ (by simp only [Job.rank,Job.least] at *; omega))) (Leaves.within (L .stmt _ _)) fun t xs h5=>Z7.ok) fun _=>Z7.ok
     refine Z7.ite (fun h=>?_) fun _=>?_
     ·have:=Zg h;refine Z7.bind (ih _ _ _ (by simp only [Job.rank] at *; omega)) (L .around _ _) fun t us h2=>?_;exact Z7.bind (Z7.within (ih _ _ _ (by simp only [Job.rank,Job.least] at *; omega))) (Leaves.within (L .stmt _ _)) fun t vs h3=>Z7.ok
     refine Z7.ite (fun h=>?_) fun _=>?_
     ·have:=Zg h;refine Z7.bind (ih _ _ _ (by simp only [Job.rank] at *; omega)) (L .around _ _) fun t us h2=>?_;exact Z7.bind (Z7.within (ih _ _ _ (by simp only [Job.rank,Job.least] at *; omega))) (Leaves.within (L .stmt _ _)) fun t vs h3=>Z7.ok
     refine Z7.ite (fun h=>Z7.ite (fun h1=>hend _ _) fun _=>Z7.bind (ih _ _ _ (by simp only [Job.rank] at *; omega)) (L _ _ _) fun t us h2=>hend _ _) fun _=>?_;refine Z7.ite (fun h=>Z7.bind (ih _ _ _ (by simp only [Job.rank] at *; omega)) (L _ _ _) fun t us h2=>hend _ _) fun _=>?_;refine Z7.ite (fun h=>ih _ _ _ (by simp only [Job.rank] at *; omega)) fun _=>?_;exact Z7.bind (ih _ _ _ (by simp only [Job.rank] at *; omega)) (L _ _ _) fun t us h2=>hend _ _
   | decl kind must =>
     unfold Z0;refine Z7.name fun s h=>Z7.ite (fun _=>Z7.fail) fun _=>Z7.ite (fun h2=>Z7.bind (ih _ _ _ ?_) (L _ _ _) fun t us h3=>Z7.ok) fun _=>Z7.ok;have:=Zz ts.tail; simp only [Job.rank] at *; omega
   | try_ =>
     unfold Z0;refine Z7.bind (ih _ _ _ (by simp only [Job.rank] at *; omega)) (L (.block false) _ _) fun b us h=>?_;have hk:∀ (l:List Tree) (vs:List Tok),vs.length≤us.length→Z7 (if isT Zf vs then Zh (Z0 f (.block false) d vs.tail) fun c ts=>okT (.mk 12 ByteArray.empty 0 (l ++ [.mk 14 ByteArray.empty 0 [c]])) ts else if l.length=1 then Z11 3 vs else okT (.mk 12 ByteArray.empty 0 l) vs):=by
      intro l vs h2;have:=Zz vs;exact Z7.ite (fun _=>Z7.bind (ih _ _ _ (by simp only [Job.rank,Job.least] at *; omega)) (L _ _ _) fun t xs h3=>Z7.ok) fun _=>Z7.ite (fun _=>Z7.fail) fun _=>Z7.ok
     refine Z7.ite (fun h1=>?_) fun _=>hk _ _ (Y0 _);have:=Zz us;refine Z7.want fun h2=>Z7.name fun s h3=>Z7.want fun h4=>Z7.bind (ih _ _ _ (by simp only [Job.rank,Job.least] at *; omega)) (L (.block false) _ _) fun c vs h5=>hk _ _ ?_;simp only [Job.least] at *; omega
   | value=>unfold Z0; exact Z7.within (ih _ _ _ (by simp only [Job.rank] at *; omega))
   | assign =>
     unfold Z0;refine Z7.bind (ih _ _ _ (by simp only [Job.rank] at *; omega)) (L (.bin 0) _ _) fun x us h=>Z7.ite (fun h1=>Z7.ite (fun _=>Z7.bind (ih _ _ _ ?_) (L _ _ _) fun y vs h2=>Z7.ok) fun _=>by simp [Z7]) fun _=>Z7.ok;have:=Zz us; simp only [Job.rank,Job.least] at *; omega
   | bin level =>
     unfold Z0;refine Z7.ite (fun h=>ih _ _ _ (by simp only [Job.rank] at *; omega)) fun h=>Z7.bind (ih _ _ _ (by simp only [Job.rank] at *; omega)) (L (.bin (level + 1)) _ _) fun x us h=>ih _ _ _ (by simp only [Job.rank,Job.least] at *; omega)
   | binLoop level x =>
     unfold Z0;refine Z7.ite (fun _=>Z7.ok) fun h0=>Z7.bind (ih _ _ _ ?_) (L (.bin (level + 1)) _ _) fun y us h=>ih _ _ _ ?_;·have:=Z4j h0; simp only [Job.rank] at *; omega
     ·have:=Z4j h0; simp only [Job.rank,Job.least] at *; omega
   | unary =>
     unfold Z0;refine Z7.ite (fun _=>ih _ _ _ (by simp only [Job.rank] at *; omega)) fun h0=>Z7.bind (Z7.within (ih _ _ _ ?_)) (Leaves.within (L _ _ _)) fun y us h=>Z7.ok;have:=Z6x h0; simp only [Job.rank] at *; omega
   | postfix_ =>
     unfold Z0;exact Z7.bind (ih _ _ _ (by simp only [Job.rank] at *; omega)) (L .primary _ _) fun y us h=>ih _ _ _ (by simp only [Job.rank,Job.least] at *; omega)
   | postLoop x =>
     unfold Z0;refine Z7.ite (fun h=>Z7.name fun s h2=>ih _ _ _ (by simp only [Job.rank] at *; omega)) fun _=>Z7.ite (fun h=>?_) fun _=>Z7.ok;have:=Zg h;exact Z7.bind (ih _ _ _ (by simp only [Job.rank] at *; omega)) (L (.args [x]) _ _) fun y us h=>ih _ _ _ (by simp only [Job.rank,Job.least] at *; omega)
   | args acc =>
     unfold Z0;exact Z7.ite (fun h=>Z7.ok) fun _=>Z7.comma fun us h=>Z7.ite (fun _=>Z7.fail) fun _=>Z7.bind (ih _ _ _ (by simp only [Job.rank] at *; omega)) (L .value _ _) fun y vs h2=>ih _ _ _ (by simp only [Job.rank,Job.least] at *; omega)
   | primary =>
     unfold Z0;have:=Zz ts.tail;refine Z7.ite (fun _=>Z7.ok) fun _=>Z7.ite (fun _=>Z7.ok) fun _=>Z7.ite (fun _=>Z7.ok) fun _=>Z7.ite (fun _=>Z7.ok) fun _=>?_;refine Z7.ite (fun _=>ih _ _ _ (by simp only [Job.rank] at *; omega)) fun _=>?_;refine Z7.ite (fun _=>Z7.ite (fun _=>ih _ _ _ (by simp only [Job.rank] at *; omega)) fun _=>ih _ _ _ (by simp only [Job.rank] at *; omega)) fun _=>?_;exact Z7.ite (fun h=>ih _ _ _ (by have:=Zg h; simp only [Job.rank] at *; omega)) fun _=>Z7.fail
   | object acc =>
     unfold Z0;exact Z7.ite (fun h=>Z7.ok) fun _=>Z7.comma fun us h=>Z7.ite (fun _=>Z7.fail) fun _=>Z7.name fun s h1=>Z7.want fun h2=>Z7.bind (ih _ _ _ (by simp only [Job.rank] at *; omega)) (L .value _ _) fun y vs h2=>ih _ _ _ (by simp only [Job.rank,Job.least] at *; omega)
def Zi (text:ByteArray):Except (Int×Int) Tree:=
 if 3000 < text.size then .error (4,-1)
 else match Z2j text with
  | .error (e,p)=>.error (e,p)
  | .ok ts => match Z0 (40 * ts.length + 31) (.stmts 1 []) 0 ts with
    | none=>.error (0,-2)
    | some (.error (e,p))=>.error (e,p)
    | some (.ok (t,_))=>if 1500 < t.many then .error (4,-1) else .ok t
end Go.Proofs.YtedopiahfejdfaaGreatDoor
