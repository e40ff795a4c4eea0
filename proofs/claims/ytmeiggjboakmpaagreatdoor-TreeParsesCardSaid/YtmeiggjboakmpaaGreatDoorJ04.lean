/- Package lex: steps of what Tokens computes. -/
import Derived.Test.YtmeiggjboakmpaaGreatDoorJ01
import Derived.Lib.Bytealg
import Derived.Shelf.Strings.Prefix
namespace Go.Proofs.YtmeiggjboakmpaaGreatDoor
open Go Go.RowKit
set_option maxRecDepth 100000
theorem Z21 {text:ByteArray} {f i j k:Nat} {l:List Tok} {t:Tok} {R:Except (Int×Nat) (List Tok)} (h:lexF text (f + 1) i l=R) (hj:j=Z03 Z0x text (text.size - i) i) (hlt:j < text.size)
 (ht:Z1f text j=.ok (t,k)):lexF text f k (l ++ [t])=R:=by
 rw [← h];simp only [lexF];rw [← hj,Y9 (by omega),ht]
theorem Z1r {text:ByteArray} {f i j:Nat} {l:List Tok} {e:Int×Nat} {R:Except (Int×Nat) (List Tok)} (h:lexF text (f + 1) i l=R) (hj:j=Z03 Z0x text (text.size - i) i) (hlt:j < text.size)
 (ht:Z1f text j=.error e):R=.error e:=by
 rw [← h];simp only [lexF];rw [← hj,Y9 (by omega),ht]
theorem Zdm {text:ByteArray} {f i j:Nat} {l:List Tok} {R:Except (Int×Nat) (List Tok)} (h:lexF text (f + 1) i l=R) (hj:j=Z03 Z0x text (text.size - i) i) (hlt:text.size≤j):R=.ok (l ++ [⟨6,ByteArray.empty,0,j⟩]):=by
 rw [← h];simp only [lexF];rw [← hj,Yb hlt]
theorem Zbu (text:ByteArray):∀ (f i:Nat) (acc:List UInt8),(Z0o text f i acc).2.1=0∨(Z0o text f i acc).2.1=3∨(Z0o text f i acc).2.1=4:=by
 intro f;induction f with
 | zero=>intro i acc; simp [Z0o]
 | succ f ih =>
   intro i acc;simp only [Z0o];by_cases h1:text.size≤i∨Zc text i=10;·rw [Yb h1]; simp
   rw [Y9 h1];by_cases h2:Zc text i=39
   ·rw [Yb h2];by_cases h3 : 500 < acc.length;·rw [Yb h3]; simp
    ·rw [Y9 h3]; simp
   rw [Y9 h2];by_cases h3:Zc text i=92
   ·rw [Yb h3];by_cases h4 : i + 1 < text.size
    ·rw [Yb h4];cases Z64 (Zc text (i + 1)) with
     | none=>simp
     | some e=>exact ih _ _
    ·rw [Y9 h4]; simp
   ·rw [Y9 h3]; exact ih _ _
section
variable {text:ByteArray} {j k:Nat}
theorem Z84 (hl:Z13 (Zc text j)=true) (hk:k=Z03 Z2r text (text.size - j) j) (hw:Z2z (text.extract j k)=true):Z1f text j=.ok (⟨2,text.extract j k,0,j⟩,k):=by
 subst hk; unfold Z1f; rw [Yb hl]; simp only; rw [Yb hw]
theorem Z7x (hl:Z13 (Zc text j)=true) (hk:k=Z03 Z2r text (text.size - j) j) (hw:Z2z (text.extract j k)=false) (h:¬ 20 < k - j):Z1f text j=.ok (⟨1,text.extract j k,0,j⟩,k):=by
 subst hk; unfold Z1f; rw [Yb hl]; simp only; rw [Y9 (by simp [hw]),Y9 h]
theorem Z87 (hl:Z13 (Zc text j)=true) (hk:k=Z03 Z2r text (text.size - j) j) (hw:Z2z (text.extract j k)=false) (h:20 < k - j):Z1f text j=.error (4,j):=by
 subst hk; unfold Z1f; rw [Yb hl]; simp only; rw [Y9 (by simp [hw]),Yb h]
theorem Z6e (hl:Z13 (Zc text j)=false) (hd:Z0q (Zc text j)=true) (hk:k=Z03 Z0q text (text.size - j) j) (h1:¬ (10 < k - j∨(1 < k - j∧Zc text j=48))) (h2:¬ 1000000000 < numF text k (k - j) j 0) :
 Z1f text j=.ok (⟨3,ByteArray.empty,numF text k (k - j) j 0,j⟩,k):=by
 subst hk; unfold Z1f; rw [Y9 (by simp [hl]),Yb hd]; simp only; rw [Y9 h1,Y9 h2]
theorem Z4m (hl:Z13 (Zc text j)=false) (hd:Z0q (Zc text j)=true) (hk:k=Z03 Z0q text (text.size - j) j) (h1:10 < k - j∨(1 < k - j∧Zc text j=48)):Z1f text j=.error (3,j):=by
 subst hk; unfold Z1f; rw [Y9 (by simp [hl]),Yb hd]; simp only; rw [Yb h1]
theorem Z4r (hl:Z13 (Zc text j)=false) (hd:Z0q (Zc text j)=true) (hk:k=Z03 Z0q text (text.size - j) j) (h1:¬ (10 < k - j∨(1 < k - j∧Zc text j=48))) (h2:1000000000 < numF text k (k - j) j 0):Z1f text j=.error (2,j):=by
 subst hk; unfold Z1f; rw [Y9 (by simp [hl]),Yb hd]; simp only; rw [Y9 h1,Yb h2]
theorem Zb1 {bs:List UInt8} (hq:Zc text j=39) (hr:Z0z text (j + 1)=(bs,0,k)):Z1f text j=.ok (⟨4,⟨bs.toArray⟩,0,j⟩,k):=by
 unfold Z1f; rw [Y9 (by rw [hq]; decide),Y9 (by rw [hq]; decide),Yb hq,hr]; simp
theorem Z9w {bs:List UInt8} (hq:Zc text j=39) (hr:Z0z text (j + 1)=(bs,4,k)):Z1f text j=.error (4,j):=by
 unfold Z1f; rw [Y9 (by rw [hq]; decide),Y9 (by rw [hq]; decide),Yb hq,hr]; simp
theorem Z5k {bs:List UInt8} (hq:Zc text j=39) (hr:Z0z text (j + 1)=(bs,3,k)):Z1f text j=.error (3,k):=by
 unfold Z1f; rw [Y9 (by rw [hq]; decide),Y9 (by rw [hq]; decide),Yb hq,hr]; simp
theorem Z7p (hl:Z13 (Zc text j)=false) (hd:Z0q (Zc text j)=false) (hq:Zc text j≠39) (hs:¬ (Z0a text j=1∧Z5f (Zc text j)=false)):Z1f text j=.ok (⟨5,text.extract j (j + Z0a text j),0,j⟩,j + Z0a text j):=by
 unfold Z1f; rw [Y9 (by simp [hl]),Y9 (by simp [hd]),Y9 hq,Y9 hs]
theorem Z89 (hl:Z13 (Zc text j)=false) (hd:Z0q (Zc text j)=false) (hq:Zc text j≠39) (hs:Z0a text j=1∧Z5f (Zc text j)=false):Z1f text j=.error (3,j):=by
 unfold Z1f; rw [Y9 (by simp [hl]),Y9 (by simp [hd]),Y9 hq,Yb hs]
theorem Zh7 {n m:Nat} {N:Int} (h:m < n):numF text (j + n) (n - m) (j + m) N=numF text (j + n) (n - (m + 1)) (j + m + 1) (10 * N + (Zc text (j + m) - 48)):=by
 obtain ⟨g,hg⟩:∃ g,n - m=g + 1:=⟨n - m - 1,by omega⟩
 rw [hg,show n - (m + 1)=g by omega];simp only [numF];rw [Yb (by omega)]
theorem Zfg {n:Nat} {N:Int}:numF text (j + n) (n - n) (j + n) N=N:=by rw [Nat.sub_self]; rfl
end
theorem Z5s (text:ByteArray) (j:Nat) (u:UInt8) (p:List UInt8) (hu:u≠0):(u :: p).isPrefixOf (text.data.toList.drop j)=(decide (Zc text j=u.toNat) && p.isPrefixOf (text.data.toList.drop (j + 1))):=by
 by_cases h:j < text.size
 ·have h' : j < text.data.toList.length := by simpa using h
  rw [List.drop_eq_getElem_cons h',List.isPrefixOf_cons_cons];congr 1
  have hb:Zc text j=(text.data.toList[j].toNat:Int):=by
   have h2:j < text.data.size:=h;unfold Zc Array.getD;rw [dif_pos h2];rfl
  rw [hb,Bool.eq_iff_iff];simp only [beq_iff_eq,decide_eq_true_eq];constructor;·intro e; rw [e]
  ·intro e; exact (UInt8.toNat_inj.1 (by omega)).symm
 ·have h' : text.data.toList.length ≤ j := by simpa using h
  rw [List.drop_eq_nil_of_le h',Z4n (by omega)];have:u.toNat≠0:=fun e=>hu (UInt8.toNat_inj.1 (by simpa using e));have h3:¬ (0:Int)=u.toNat:=by omega
  simp [h3]
def lit3:Nat→ByteArray
 | 0=>⟨#[61,61,61]⟩
 | 1=>⟨#[38,38]⟩
 | _=>⟨#[124,124]⟩
def preB (text:ByteArray) (j m:Nat):Bool:=(lit3 m).data.toList.isPrefixOf (text.data.toList.drop j)
def Z4a (text:ByteArray) (j:Nat):Nat→ByteArray
 | 0=>text.extract j (j + 1)
 | m + 1=>if preB text j m then lit3 m else Z4a text j m
theorem pre0 (text:ByteArray) (j:Nat):preB text j 0=true↔Zc text j=61∧Zc text (j + 1)=61∧Zc text (j + 2)=61:=by
 unfold preB;rw [show (lit3 0).data.toList=[61,61,61] from rfl,Z5s _ _ _ _ (by decide),Z5s _ _ _ _ (by decide),Z5s _ _ _ _ (by decide)];simp
theorem pre1 (text:ByteArray) (j:Nat):preB text j 1=true↔Zc text j=38∧Zc text (j + 1)=38:=by
 unfold preB;rw [show (lit3 1).data.toList=[38,38] from rfl,Z5s _ _ _ _ (by decide),Z5s _ _ _ _ (by decide)];simp
theorem pre2 (text:ByteArray) (j:Nat):preB text j 2=true↔Zc text j=124∧Zc text (j + 1)=124:=by
 unfold preB;rw [show (lit3 2).data.toList=[124,124] from rfl,Z5s _ _ _ _ (by decide),Z5s _ _ _ _ (by decide)];simp
theorem Z3b {text:ByteArray} {i:Nat} {u:UInt8} (h:Zc text i=u.toNat):text.data.getD i 0=u:=UInt8.toNat_inj.1 (by unfold Zc at h; omega)
theorem Z56 (text:ByteArray) (j n:Nat) (h:j + n≤text.size):text.extract j (j + n)=⟨((List.range n).map fun i=>text.data.getD (j + i) 0).toArray⟩:=by
 apply ByteArray.ext;apply Array.ext
 ·have : (text.extract j (j + n)).data.size = n := by change (text.extract j (j + n)).size = n; rw [ByteArray.size_extract]; omega
  rw [this]; simp
 ·intro i h1 h2;have e : (text.extract j (j + n)).data.size = n := by change (text.extract j (j + n)).size = n; rw [ByteArray.size_extract]; omega
  have h3:=getD_extract text (j:=j) (k:=j + n) (i:=i) (by omega) h;have h5:(text.extract j (j + n)).data.getD i 0=(text.extract j (j + n)).data[i]:=by simp only [Array.getD,dif_pos h1]; rfl
  rw [← h5,h3];simp
theorem Zgd (text:ByteArray) (j:Nat) (h:j < text.size):Z4a text j 3=text.extract j (j + Z0a text j)∧(Z4a text j 3).size=Z0a text j∧j + Z0a text j≤text.size:=by
 have key:∀ n,j + n≤text.size→(text.extract j (j + n)).size=n:=fun n hn=>by rw [ByteArray.size_extract]; omega
 have e0:=pre0 text j;have e1:=pre1 text j;have e2:=pre2 text j;simp only [Z4a];by_cases h2:preB text j 2=true
 ·have hb := e2.1 h2;have hl := Z4q (text := text) (i := j + 1) (by omega);have es : Z0a text j = 2 := by simp [Z0a, hb]
  rw [Yb h2,es,Z56 text j 2 (by omega)];have b0:=Z3b (u:=124) hb.1;have b1:=Z3b (u:=124) hb.2;refine ⟨?_,rfl,by omega⟩;simp only [List.range_succ,List.range_zero,List.nil_append,List.map_append,List.map_cons,List.map_nil,Nat.add_zero,b0,b1];rfl
 ·rw [Y9 h2];by_cases h1 : preB text j 1 = true
  ·have hb := e1.1 h1;have hl := Z4q (text := text) (i := j + 1) (by omega);have es : Z0a text j = 2 := by simp [Z0a, hb]
   rw [Yb h1,es,Z56 text j 2 (by omega)];have b0:=Z3b (u:=38) hb.1;have b1:=Z3b (u:=38) hb.2;refine ⟨?_,rfl,by omega⟩;simp only [List.range_succ,List.range_zero,List.nil_append,List.map_append,List.map_cons,List.map_nil,Nat.add_zero,b0,b1];rfl
  ·rw [Y9 h1];by_cases h0 : preB text j 0 = true
   ·have hb := e0.1 h0;have hl := Z4q (text := text) (i := j + 2) (by omega);have es : Z0a text j = 3 := by simp [Z0a, hb]
    rw [Yb h0,es,Z56 text j 3 (by omega)];have b0:=Z3b (u:=61) hb.1;have b1:=Z3b (u:=61) hb.2.1;have b2:=Z3b (u:=61) hb.2.2;refine ⟨?_,rfl,by omega⟩;simp only [List.range_succ,List.range_zero,List.nil_append,List.map_append,List.map_cons,List.map_nil,Nat.add_zero,b0,b1,b2];rfl
   ·rw [Y9 h0];have es:Z0a text j=1:=by
     unfold Z0a;rw [Y9 (fun x=>h0 (e0.2 x)),Y9 (fun x=>h1 (e1.2 x)),Y9 (fun x=>h2 (e2.2 x))]
    rw [es];exact ⟨rfl,key 1 (by omega),by omega⟩
def Z9i:List UInt8:=[40,41,123,125,91,93,59,58,44,46,61,43,45,42,60,33]
theorem Zcs (u:UInt8):decide (Lib.indexByte Z9i u < 0)=!Z5f u.toNat:=by
 have key:∀ n:Fin 256,decide (Lib.indexByte Z9i (UInt8.ofNat n.val) < 0)=!Z5f ((UInt8.ofNat n.val).toNat:Int):=by decide +kernel
 have h:=key ⟨u.toNat,by have:=u.toNat_lt; omega⟩;simpa using h
end Go.Proofs.YtmeiggjboakmpaaGreatDoor
namespace Go.Proofs
set_option maxRecDepth 100000
def Tryz.lays99_ren:Go.Shelf.Ren:=⟨fun | 99=>31 | 206=>65 | n=>n,fun | 9=>9 | 4=>4 | 3=>3 | n=>n,fun | n=>n⟩
theorem Tryz.lays99:Go.Proofs.Lays.n99 Tryz.prog Tryz.lays99_ren:={
 mixed:=by kernel_rfl
 f99:=Tryz.func31.trans (congrArg some (by kernel_rfl))
 f206:=Tryz.func65.trans (congrArg some (by kernel_rfl))
 t3:=Tryz.underlying3
 a3:=Tryz.isAgg3
 z3:=Tryz.sizeOf3
 v3:=Tryz.zeroValue3
 t4:=Tryz.underlying4
 a4:=Tryz.isAgg4
 z4:=Tryz.sizeOf4
 v4:=Tryz.zeroValue4
 t9:=Tryz.underlying9
 a9:=Tryz.isAgg9
 z9:=Tryz.sizeOf9
 v9:=Tryz.zeroValue9 }
open Go.RowKit Go.Lib in
theorem Tryz.strings_HasPrefix (s p:ByteArray) (w:World) :
 Calls Tryz.prog 31 #[.string s,.string p] w fun e w'=>e=.returned (.bool (Lib.hasPrefix s.data.toList p.data.toList))∧w'=w:=Any.strings_HasPrefix Tryz.lays99 s p w
end Go.Proofs
