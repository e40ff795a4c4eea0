/- Package lex: the scanner's run. -/
import Derived.Test.YtjcgkdfeplbajaaGreatDoorJ01
import Derived.Shelf.Slices.Turned
import Derived.Test.YtjcgkdfeplbajaaGreatDoorRows
namespace Go.Proofs.YtjcgkdfeplbajaaGreatDoor
open Go Go.RowKit
set_option maxRecDepth 100000
set_option maxHeartbeats 20000000
structure ScanAt (w0 w:World) (sb:Nat) (text:ByteArray) (at':Nat):Prop where
 blk:w.heap[sb]?=some (.cells #[.string text,.int .i64 at'] 61 (0,0))
 os:w.os=w0.os
 tape:w.tape=w0.tape
 output:w.output=w0.output
 size:w0.heap.size≤w.heap.size
 block:∀ k,k < w0.heap.size→k≠sb→w.heap[k]?=w0.heap[k]?
variable {w0 w w':World} {sb:Nat} {text:ByteArray} {a b:Nat}
theorem ScanAt.refl (h:w.heap[sb]?=some (.cells #[.string text,.int .i64 a] 61 (0,0))):ScanAt w w sb text a:=⟨h,rfl,rfl,rfl,Y0 _,fun _ _ _=>rfl⟩
theorem ScanAt.trans (h:ScanAt w0 w sb text a) (g:ScanAt w w' sb text b):ScanAt w0 w' sb text b:=
 ⟨g.blk,g.os.trans h.os,g.tape.trans h.tape,g.output.trans h.output,Y4 h.size g.size,fun k hk hn=>(g.block k (Y7 hk h.size) hn).trans (h.block k hk hn)⟩
theorem ScanAt.drew (h:ScanAt w0 w sb text a):ScanAt w0 w.drew sb text a:=⟨h.blk,h.os,h.tape,h.output,h.size,h.block⟩
theorem ScanAt.lt (h:ScanAt w0 w sb text a):sb < w.heap.size:=(Y1.1 h.blk).1
theorem ScanAt.below (h:ScanAt w0 w sb text a) (hB:Below w.heap.size w w'):ScanAt w0 w' sb text a:=
 ⟨(hB.block sb h.lt).trans h.blk,hB.os.trans h.os,hB.tape.trans h.tape,hB.output.trans h.output,Y4 h.size hB.size,fun k hk hn=>(hB.block k (Y7 hk h.size)).trans (h.block k hk hn)⟩
theorem ScanAt.c0 (h:ScanAt w0 w sb text a):w.cell? ⟨sb,0,none⟩=some (.string text):=by simp [World.cell?,h.blk]
theorem ScanAt.c1 (h:ScanAt w0 w sb text a):w.cell? ⟨sb,1,none⟩=some (.int .i64 a):=by simp [World.cell?,h.blk]
theorem ScanAt.fz (h:ScanAt w0 w sb text a) (o:Nat):w.frozen? ⟨sb,o,none⟩=false:=by simp [World.frozen?,h.blk]
theorem ScanAt.set (h:ScanAt w0 w sb text a) (b:Nat):ScanAt w0 (w.setCell ⟨sb,1,none⟩ (.int .i64 b)) sb text b:=
 ⟨Z09 _ h.blk,h.os,h.tape,h.output,by simpa using h.size,fun k hk hn=>(Y8 _ _ _ _ hn).trans (h.block k hk hn)⟩
def Z9 (text:ByteArray) (i:Nat):Int:=((text.data.getD i 0).toNat:Int)
def Zq (p:Int→Bool) (text:ByteArray):Nat→Nat→Nat
 | 0,i=>i
 | f + 1,i=>if i < text.size && p (Z9 text i) then Zq p text f (i + 1) else i
theorem Z39 {i:Nat} (h:i < text.size):Z9 text i=((text[i]'h).toNat:Int):=by
 unfold Z9;have:i < text.data.size:=h;simp only [Array.getD,dif_pos this];rfl
theorem Z7a {p:Int→Bool} {j:Nat} (h:j < text.size) (hp:p (Z9 text j)=true):Zq p text (text.size - j) j=Zq p text (text.size - (j + 1)) (j + 1):=by
 obtain ⟨f,hf⟩:∃ f,text.size - j=f + 1:=⟨text.size - j - 1,by omega⟩
 rw [hf,show text.size - (j + 1)=f by omega];simp [Zq,h,hp]
theorem Z58 {p:Int→Bool} {j:Nat} (hp:¬ j < text.size∨p (Z9 text j)=false):Zq p text (text.size - j) j=j:=by
 cases hf:text.size - j with
 | zero=>rfl
 | succ f =>
   rcases hp with h | h;·omega
   ·simp [Zq,h]
theorem Z86 {fv:Value} {p:Int→Bool} (hfp:(fv=.func (.func 20) #[] #[]∧p=Z05)∨(fv=.func (.func 22) #[] #[]∧p=Z1u)∨(fv=.func (.func 23) #[] #[]∧p=Z0l)) (h:w.heap[sb]?=some (.cells #[.string text,.int .i64 a] 61 (0,0))) (ha:a≤text.size) (hm:text.size≤1000000) :
 Calls Tryz.prog 19 #[.pointer (some ⟨sb,0,none⟩),fv] w fun e w'=>∃ b,b=Zq p text (text.size - a) a∧a≤b∧b≤text.size∧e=.returned (.string (text.extract a b))∧ScanAt w w' sb text b:=by
 rcases hfp with ⟨rfl,rfl⟩ | ⟨rfl,rfl⟩ | ⟨rfl,rfl⟩;have HL:=lh (fun w c=>Zcd w c);obtain ⟨P,hP⟩:=zX Z05
 rw [← hP] at HL ⊢;clear hP;rotate_left
 have HL:=lh (fun w c=>Zcw w c);obtain ⟨P,hP⟩:=zX Z1u
 rw [← hP] at HL ⊢;clear hP;rotate_left
 have HL:=lh (fun w c=>Z5h w c);obtain ⟨P,hP⟩:=zX Z0l
 rw [← hP] at HL ⊢;clear hP;rotate_left
 all_goals
  have S0:=lh (ScanAt.refl h);have c0:=S0.out.c0;have c1:=S0.out.c1;clear h;go_enter Tryz.func19,Tryz.ntmps19
  go_wp2;go_loopw [] (fun wr=>∃ j:Nat,a≤j∧j≤text.size∧Zq P text (text.size - j) j=Zq P text (text.size - a) a∧ScanAt w wr sb text j) (fun wr=>text.size - (intOf ((wr.cell? ⟨sb,1,none⟩).getD .nilIface)).toNat)
  case atStart=>exact ⟨a,Y0 _,ha,rfl,S0.out⟩
  case round=>
   obtain ⟨j,hj1,hj2,hsp,hS⟩:=hrel;have q0:=hS.c0;have q1:=hS.c1;have SJ:=lh hS;have HSP:=lh hsp;clear hS hsp c0 c1;by_cases hlt:j < text.size
   ·obtain ⟨B, hB⟩ := zX (P (Z9 text j))
    have HB:=lh hB;have HC:=HL.out wr.drew (Z9 text j);rw [← hB,Z39 hlt] at HC;have HC:=lh HC;clear hB;cases B
    all_goals
     go_wp2_with fail
     refine Z4 [(true,0),(true,1),(true,2),(true,3),(true,4),(true,5),(true,6),(true,7),(true,8),(true,9),(true,10),(true,11),(true,12),(true,13),(true,14),(true,15),(true,16),(true,17),(true,18),(true,19),(true,20)] [21,22] (fun W=>W.cell? ⟨sb,0,none⟩=some (.string text)∧W.cell? ⟨sb,1,none⟩=some (.int .i64 j)) (by kernel_rfl) (by kernel_rfl) (fun _ _ d _ _ h=>by cases d <;> exact h) ⟨q0,q1⟩ (fun hS0=>?_)
     simp only [Zj,zD,zE,zF,zG,zH,zI]
     iterate 21
      first
       | (refine Z7 ?_ (by rfl) (fun w' hS'=>?_) ?_; rotate_left; (obtain ⟨s0,s1⟩:=hS'; go_simp; first | done | with_reducible rfl); simp only [Act.put,zA,zB,zC])
       | (refine Z6 (by rfl) ?_; simp only [Act.put,zA,zB,zC])
     refine Zb ?_;go_wp2_with fail
     refine HC.out.mono ?_;rintro e w1 ⟨rfl,rfl⟩
    ·go_wp2_with fail
     refine Z4 [(true,0),(true,1),(true,2),(true,3),(true,4),(true,5),(true,6),(true,7),(true,8)] [9,10] (fun W=>W.cell? ⟨sb,0,none⟩=some (.string text)∧W.cell? ⟨sb,1,none⟩=some (.int .i64 j)) (by kernel_rfl) (by kernel_rfl) (fun _ _ d _ _ h=>by cases d <;> exact h) ⟨q0,q1⟩ (fun hS0=>?_);simp only [Zj,zD,zE,zF,zG,zH,zI]
     iterate 9
      first
       | (refine Z7 ?_ (by rfl) (fun w' hS'=>?_) ?_; rotate_left; (obtain ⟨s0,s1⟩:=hS'; go_simp; first | done | with_reducible rfl); simp only [Act.put,zA,zB,zC])
       | (refine Z6 (by rfl) ?_; simp only [Act.put,zA,zB,zC])
     refine Zb ?_;go_wp2;go_ret;exact ⟨j,by rw [← HSP.out]; exact (Z58 (.inr HB.out.symm)).symm,hj1,hj2,rfl,SJ.out.drew.drew⟩
    ·have z1 := SJ.out.fz 1;go_wp2;go_roundw
     case rel=>exact ⟨j + 1,by omega,by omega,by rw [← Z7a hlt HB.out.symm]; exact HSP.out,SJ.out.drew.set (j + 1)⟩
     case measure=>
      have e1:(wr.setCell ⟨sb,1,none⟩ (.int .i64 ((j:Int) + 1))).cell? ⟨sb,1,none⟩=some (.int .i64 ((j:Int) + 1)):=(SJ.out.set (j + 1)).c1;have e2:=SJ.out.c1;rw [World.cell?_drew,e1,e2];simp [intOf];omega
   ·go_wp2_with fail
    refine Z4 [(true,0),(true,1),(true,2),(true,3),(true,4),(true,5),(true,6),(true,7),(true,8),(true,9),(true,10),(true,11),(true,12),(true,13),(true,14),(true,15),(true,16),(true,17),(true,18),(true,19),(true,20)] [21,22] (fun W=>W.cell? ⟨sb,0,none⟩=some (.string text)∧W.cell? ⟨sb,1,none⟩=some (.int .i64 j)) (by kernel_rfl) (by kernel_rfl) (fun _ _ d _ _ h=>by cases d <;> exact h) ⟨q0,q1⟩ (fun hS0=>?_)
    simp only [Zj,zD,zE,zF,zG,zH,zI]
    iterate 21
     first
      | (refine Z7 ?_ (by rfl) (fun w' hS'=>?_) ?_; rotate_left; (obtain ⟨s0,s1⟩:=hS'; go_simp; first | done | with_reducible rfl); simp only [Act.put,zA,zB,zC])
      | (refine Z6 (by rfl) ?_; simp only [Act.put,zA,zB,zC])
    refine Zb ?_;go_wp2_with fail
    refine Z4 [(true,0),(true,1),(true,2),(true,3),(true,4),(true,5),(true,6),(true,7),(true,8)] [9,10] (fun W=>W.cell? ⟨sb,0,none⟩=some (.string text)∧W.cell? ⟨sb,1,none⟩=some (.int .i64 j)) (by kernel_rfl) (by kernel_rfl) (fun _ _ d _ _ h=>by cases d <;> exact h) ⟨q0,q1⟩ (fun hS0=>?_);simp only [Zj,zD,zE,zF,zG,zH,zI]
    iterate 9
     first
      | (refine Z7 ?_ (by rfl) (fun w' hS'=>?_) ?_; rotate_left; (obtain ⟨s0,s1⟩:=hS'; go_simp; first | done | with_reducible rfl); simp only [Act.put,zA,zB,zC])
      | (refine Z6 (by rfl) ?_; simp only [Act.put,zA,zB,zC])
    refine Zb ?_;go_wp2;go_ret;exact ⟨j,by rw [← HSP.out]; exact (Z58 (.inl hlt)).symm,hj1,hj2,rfl,SJ.out.drew.drew⟩
theorem Zb9 (h:w.heap[sb]?=some (.cells #[.string text,.int .i64 a] 61 (0,0))) (ha:a≤text.size) (hm:text.size≤1000000) :
 Calls Tryz.prog 19 #[.pointer (some ⟨sb,0,none⟩),.func (.func 20) #[] #[]] w fun e w'=>∃ b,b=Zq Z05 text (text.size - a) a∧a≤b∧b≤text.size∧e=.returned (.string (text.extract a b))∧ScanAt w w' sb text b:=Z86 (.inl ⟨rfl,rfl⟩) h ha hm
theorem Ze1 (h:w.heap[sb]?=some (.cells #[.string text,.int .i64 a] 61 (0,0))) (ha:a≤text.size) (hm:text.size≤1000000) :
 Calls Tryz.prog 19 #[.pointer (some ⟨sb,0,none⟩),.func (.func 22) #[] #[]] w fun e w'=>∃ b,b=Zq Z1u text (text.size - a) a∧a≤b∧b≤text.size∧e=.returned (.string (text.extract a b))∧ScanAt w w' sb text b:=Z86 (.inr (.inl ⟨rfl,rfl⟩)) h ha hm
theorem Zaw (h:w.heap[sb]?=some (.cells #[.string text,.int .i64 a] 61 (0,0))) (ha:a≤text.size) (hm:text.size≤1000000) :
 Calls Tryz.prog 19 #[.pointer (some ⟨sb,0,none⟩),.func (.func 23) #[] #[]] w fun e w'=>∃ b,b=Zq Z0l text (text.size - a) a∧a≤b∧b≤text.size∧e=.returned (.string (text.extract a b))∧ScanAt w w' sb text b:=Z86 (.inr (.inr ⟨rfl,rfl⟩)) h ha hm
end Go.Proofs.YtjcgkdfeplbajaaGreatDoor
namespace Go.Proofs.YtjcgkdfeplbajaaGreatDoor
open Go Go.RowKit
set_option maxRecDepth 100000
set_option maxHeartbeats 20000000
def Z5v (c:Int):Option UInt8:=if c=110 then some 10 else if c=39 then some 39 else if c=92 then some 92 else none
def Z0f (text:ByteArray):Nat→Nat→List UInt8→List UInt8×Int×Nat
 | 0,i,_=>([],3,i)
 | f + 1, i, acc =>
   if text.size≤i∨Z9 text i=10 then ([],3,i)
   else if Z9 text i=39 then (if 500 < acc.length then ([],4,i + 1) else (acc,0,i + 1))
   else if Z9 text i=92 then
    (if i + 1 < text.size then
     match Z5v (Z9 text (i + 1)) with
     | some e=>Z0f text f (i + 2) (acc ++ [e])
     | none=>([],3,i + 1)
    else ([],3,i + 1))
   else Z0f text f (i + 1) (acc ++ [text.data.getD i 0])
def Z0x (text:ByteArray) (i:Nat):List UInt8×Int×Nat:=Z0f text (text.size + 1 - i) i []
end Go.Proofs.YtjcgkdfeplbajaaGreatDoor
namespace Go.Proofs
def Tryz.lays110_ren:Go.Shelf.Ren:=⟨fun | 110=>40 | 109=>62 | n=>n,fun | 31=>72 | 9=>9 | 4=>4 | 3=>3 | 0=>0 | n=>n,fun | n=>n⟩
theorem Tryz.lays110:Go.Proofs.Lays.n110 Tryz.prog Tryz.lays110_ren:={
 mixed:=by kernel_rfl
 f109:=Tryz.func62.trans (congrArg some (by kernel_rfl))
 f110:=Tryz.func40.trans (congrArg some (by kernel_rfl))
 t0:=Tryz.underlying0
 a0:=Tryz.isAgg0
 z0:=Tryz.sizeOf0
 v0:=Tryz.zeroValue0
 t3:=Tryz.underlying3
 a3:=Tryz.isAgg3
 z3:=Tryz.sizeOf3
 v3:=Tryz.zeroValue3
 t4:=Tryz.underlying4
 a4:=Tryz.isAgg4
 z4:=Tryz.sizeOf4
 v4:=Tryz.zeroValue4
 t9:=Tryz.underlying9
 a9:=Tryz.isAgg9
 z9:=Tryz.sizeOf9
 v9:=Tryz.zeroValue9
 t31:=Tryz.underlying72
 a31:=Tryz.isAgg72
 z31:=Tryz.sizeOf72
 v31:=Tryz.zeroValue72 }
open Go.Lib in
theorem Tryz.slices_Contains_string (b off n c:Nat) (zs:List ByteArray) (x:ByteArray) (w:World) (hz:n≤zs.length) (hbig:n≤9223372036854775807) (hc:∀ j,j < zs.length→w.cell? ⟨b,off + j,none⟩=some (.string (zs.getD j ByteArray.empty))) :
 Calls Tryz.prog 40 #[.slice (some ⟨b,off,none⟩) n c,.string x] w fun e w'=>e=.returned (.bool (Lib.containsS (zs.take n) x))∧w'=w:=Any.slices_Contains_string Tryz.lays110 b off n c zs x w hz hbig hc
end Go.Proofs
namespace Go.Proofs.YtjcgkdfeplbajaaGreatDoor
open Go Go.RowKit
set_option maxRecDepth 100000
set_option maxHeartbeats 20000000
def Z4t:List ByteArray:=match (Rows.laid_sloppyscope_lex_wordList:DataW Unit) with
 | .agg l => l.map fun
   | .lit (.string bs)=>⟨bs.toArray⟩
   | _=>⟨#[]⟩
 | _=>[]
theorem Z4w:Z4t.length=19:=by kernel_rfl
def Z29 (s:ByteArray):Bool:=Lib.containsS Z4t s
def Words (w:World):Prop:=∀ j,j < 19→w.cell? ⟨2,j,none⟩=some (.string (Z4t.getD j ByteArray.empty))
theorem Za9 (w:World) (s:ByteArray) (hW:Words w) :
 Calls Tryz.prog 24 #[.string s] w fun e w'=>e=.returned (.bool (Z29 s))∧w'=w:=by
 have HC:=Tryz.slices_Contains_string 2 0 19 19 Z4t s w (by rw [Z4w]; omega) (by omega) (fun j hj=>by rw [Nat.zero_add]; exact hW j (by rw [Z4w] at hj; exact hj));rw [show Z4t.take 19=Z4t by rw [← Z4w]; exact List.take_length] at HC;have HC:=lh HC;clear hW;unfold Z29;generalize Lib.containsS Z4t s=B at HC ⊢;go_enter Tryz.func24,Tryz.ntmps24
 go_wp2_with fail
 refine HC.out.mono ?_;rintro e w1 ⟨rfl,rfl⟩;go_wp2;go_ret;exact ⟨rfl,rfl⟩
end Go.Proofs.YtjcgkdfeplbajaaGreatDoor
namespace Go.Proofs.YtjcgkdfeplbajaaGreatDoor
open Go Go.RowKit
set_option maxRecDepth 100000
set_option maxHeartbeats 20000000
structure Tok where
 kind:Int
 text:ByteArray
 n:Int
 at':Nat
def numF (text:ByteArray) (k:Nat):Nat→Nat→Int→Int
 | 0,_,n=>n
 | f + 1,i,n=>if i < k then numF text k f (i + 1) (10 * n + (Z9 text i - 48)) else n
def Z02 (text:ByteArray) (j:Nat):Nat:=
 if Z9 text j=61∧Z9 text (j + 1)=61∧Z9 text (j + 2)=61 then 3
 else if Z9 text j=38∧Z9 text (j + 1)=38 then 2
 else if Z9 text j=124∧Z9 text (j + 1)=124 then 2
 else 1
def Z4r (c:Int):Bool:=c == 40 || c == 41 || c == 123 || c == 125 || c == 91 || c == 93 || c == 59 || c == 58 || c == 44 || c == 46 || c == 61 || c == 43 || c == 45 || c == 42 || c == 60 || c == 33
def Z0w (text:ByteArray) (j:Nat):Except (Int×Nat) (Tok×Nat):=
 if Z0p (Z9 text j) then
  let k:=Zq Z1u text (text.size - j) j
  if Z29 (text.extract j k) then .ok (⟨2,text.extract j k,0,j⟩,k)
  else if 20 < k - j then .error (4,j)
  else .ok (⟨1,text.extract j k,0,j⟩,k)
 else if Z0l (Z9 text j) then
  let k:=Zq Z0l text (text.size - j) j
  if 10 < k - j∨(1 < k - j∧Z9 text j=48) then .error (3,j)
  else if 1000000000 < numF text k (k - j) j 0 then .error (2,j)
  else .ok (⟨3,ByteArray.empty,numF text k (k - j) j 0,j⟩,k)
 else if Z9 text j=39 then
  if (Z0x text (j + 1)).2.1=4 then .error (4,j)
  else if (Z0x text (j + 1)).2.1≠0 then .error (3,(Z0x text (j + 1)).2.2)
  else .ok (⟨4,⟨(Z0x text (j + 1)).1.toArray⟩,0,j⟩,(Z0x text (j + 1)).2.2)
 else if Z02 text j=1∧Z4r (Z9 text j)=false then .error (3,j)
 else .ok (⟨5,text.extract j (j + Z02 text j),0,j⟩,j + Z02 text j)
def lexF (text:ByteArray):Nat→Nat→List Tok→Except (Int×Nat) (List Tok)
 | 0,_,acc=>.ok acc
 | f + 1, i, acc =>
   let j:=Zq Z05 text (text.size - i) i
   if text.size≤j then .ok (acc ++ [⟨6,ByteArray.empty,0,j⟩])
   else match Z0w text j with
    | .error e=>.error e
    | .ok (t,k)=>lexF text f k (acc ++ [t])
def Z3q (text:ByteArray):Except (Int×Nat) (List Tok):=lexF text (text.size + 1) 0 []
theorem Z2q {text:ByteArray} {i:Nat} (h:text.size≤i):Z9 text i=0:=by
 have h':¬ i < text.data.size:=by change ¬ i < text.size; omega
 unfold Z9 Array.getD;rw [dif_neg h'];rfl
theorem Z2w {text:ByteArray} {i:Nat} (h:Z9 text i≠0):i < text.size:=by
 rcases Nat.lt_or_ge i text.size with h' | h';·exact h'
 ·exact absurd (Z2q h') h
theorem getD_extract (text:ByteArray) {j k i:Nat} (h:i < k - j) (hk:k≤text.size):(text.extract j k).data.getD i 0=text.data.getD (j + i) 0:=by
 have h2:j + i < text.data.size:=by change _ < text.size; omega
 have h1:i < (text.extract j k).data.size:=by
  change i < (text.extract j k).size;rw [ByteArray.size_extract]; omega
 simp only [Array.getD,dif_pos h1,dif_pos h2];simp [ByteArray.data_extract]
theorem Zo (text:ByteArray) {j k i:Nat} (h:i < k - j) (hk:k≤text.size):Z9 (text.extract j k) i=Z9 text (j + i):=by
 unfold Z9; rw [getD_extract text h hk]
theorem Z20 (text:ByteArray) {j k:Nat} (hk:k≤text.size):(text.extract j k).size=k - j:=by
 rw [ByteArray.size_extract]; omega
theorem Z0b (p:Int→Bool) (text:ByteArray):∀ (f i:Nat),text.size - i≤f→i≤text.size →
 i≤Zq p text f i∧Zq p text f i≤text.size∧(∀ m,i≤m→m < Zq p text f i→p (Z9 text m)=true)∧(Zq p text f i < text.size→p (Z9 text (Zq p text f i))=false):=by
 intro f;induction f with
 | zero=>intro i h hi; simp only [Zq]; exact ⟨Y0 _,hi,fun m h1 h2=>by omega,fun h'=>by omega⟩
 | succ f ih =>
   intro i h hi;simp only [Zq];by_cases hc:i < text.size∧p (Z9 text i)=true
   ·rw [Y5 (by simp [hc.1, hc.2])];obtain ⟨h1, h2, h3, h4⟩ := ih (i + 1) (by omega) (by omega);refine ⟨by omega, h2, fun m hm hm2 => ?_, h4⟩;by_cases e : m = i;·rw [e]; exact hc.2
    ·exact h3 m (by omega) hm2
   ·rw [Y3 (by simpa using hc)];refine ⟨Y0 _,hi,fun m h1 h2=>by omega,fun h'=>?_⟩;simpa [h'] using hc
theorem Z1w (p:Int→Bool) (text:ByteArray):∀ (f i k:Nat),text.size - i≤f→i≤k→k≤text.size→(∀ m,i≤m→m < k→p (Z9 text m)=true)→(k < text.size→p (Z9 text k)=false)→Zq p text f i=k:=by
 intro f;induction f with
 | zero=>intro i k h h1 h2 _ _; simp only [Zq]; omega
 | succ f ih =>
   intro i k h h1 h2 h3 h4;simp only [Zq];by_cases e:i=k
   ·subst e;rw [Y3];simp only [Bool.and_eq_true,decide_eq_true_eq,not_and,Bool.not_eq_true];exact h4
   ·rw [Y5 (by simp [h3 i (Nat.le_refl _) (by omega)]; omega)];exact ih (i + 1) k (by omega) (by omega) h2 (fun m a b=>h3 m (by omega) b) h4
theorem Z5r (p:Int→Bool) (text:ByteArray) {j k:Nat} (hj:j < text.size) (hk:Zq p text (text.size - j) j=k) :
 Zq p (text.extract j k) ((text.extract j k).size - 0) 0=k - j:=by
 obtain ⟨h1,h2,h3,h4⟩:=Z0b p text (text.size - j) j (Y0 _) (by omega);rw [hk] at h1 h2 h3 h4;have hs:=Z20 text (j:=j) h2;refine Z1w p _ _ _ _ (by omega) (by omega) (by omega) (fun m _ hm=>?_) (fun h=>by omega);rw [Zo text hm h2];exact h3 _ (by omega) (by omega)
theorem Zdh (text:ByteArray) {j k:Nat} (hk:k≤text.size):∀ (f i:Nat) (n:Int),j≤i→numF (text.extract j k) (k - j) f (i - j) n=numF text k f i n:=by
 intro f;induction f with
 | zero=>intro i n _; rfl
 | succ f ih =>
   intro i n hi;simp only [numF];by_cases h:i < k
   ·rw [Y5 (by omega),Y5 h,Zo text (by omega) hk,show j + (i - j)=i by omega,show i - j + 1=i + 1 - j by omega];exact ih (i + 1) _ (by omega)
   ·rw [Y3 (by omega),Y3 h]
theorem Z8l (text:ByteArray) {j:Nat}:∀ (f i:Nat) (acc bs:List UInt8) (k:Nat),j≤i→Z0f text f i acc=(bs,0,k) →
 i < k∧k≤text.size∧Z9 text (k - 1)=39∧∀ f',k - i≤f'→Z0f (text.extract j k) f' (i - j) acc=(bs,0,k - j):=by
 intro f;induction f with
 | zero=>intro i acc bs k _ h; simp [Z0f] at h
 | succ f ih =>
   intro i acc bs k hj h;simp only [Z0f] at h;by_cases h1:text.size≤i∨Z9 text i=10;·rw [Y5 h1] at h; simp at h
   rw [Y3 h1] at h;simp only [not_or,Nat.not_le] at h1;by_cases h2:Z9 text i=39
   ·rw [Y5 h2] at h;by_cases h3 : 500 < acc.length;·rw [Y5 h3] at h; simp at h
    rw [Y3 h3] at h;simp only [Prod.mk.injEq,true_and] at h;obtain ⟨rfl,rfl⟩:=h;refine ⟨by omega,by omega,by simpa using h2,fun f' hf=>?_⟩;obtain ⟨g,rfl⟩:∃ g,f'=g + 1:=⟨f' - 1,by omega⟩
    have hb:Z9 (text.extract j (i + 1)) (i - j)=Z9 text i:=by
     rw [Zo text (by omega) (by omega),show j + (i - j)=i by omega]
    have hs:=Z20 text (j:=j) (k:=i + 1) (by omega);simp only [Z0f,hb,hs];rw [Y3 (by omega),Y5 h2,Y3 h3,show i - j + 1=i + 1 - j by omega]
   rw [Y3 h2] at h;by_cases h3:Z9 text i=92
   ·rw [Y5 h3] at h;by_cases h4 : i + 1 < text.size
    ·rw [Y5 h4] at h;cases he : Z5v (Z9 text (i + 1)) with
     | none=>rw [he] at h; simp at h
     | some e =>
       rw [he] at h;simp only at h;obtain ⟨g1,g2,g3,g4⟩:=ih (i + 2) _ bs k (by omega) h;refine ⟨by omega,g2,g3,fun f' hf=>?_⟩;obtain ⟨g,rfl⟩:∃ g,f'=g + 1:=⟨f' - 1,by omega⟩
       have hb:Z9 (text.extract j k) (i - j)=Z9 text i:=by
        rw [Zo text (by omega) (by omega),show j + (i - j)=i by omega]
       have hb1:Z9 (text.extract j k) (i - j + 1)=Z9 text (i + 1):=by
        rw [Zo text (by omega) (by omega),show j + (i - j + 1)=i + 1 by omega]
       have hs:=Z20 text (j:=j) (k:=k) g2;simp only [Z0f,hb,hs,hb1];rw [Y3 (by omega),Y3 h2,Y5 h3,Y5 (by omega),he];simp only;rw [show i - j + 2=i + 2 - j by omega];exact g4 g (by omega)
    ·rw [Y3 h4] at h; simp at h
   ·rw [Y3 h3] at h;obtain ⟨g1, g2, g3, g4⟩ := ih (i + 1) _ bs k (by omega) h;refine ⟨by omega, g2, g3, fun f' hf => ?_⟩;obtain ⟨g, rfl⟩ : ∃ g, f' = g + 1 := ⟨f' - 1, by omega⟩
    have hb:Z9 (text.extract j k) (i - j)=Z9 text i:=by
     rw [Zo text (by omega) (by omega),show j + (i - j)=i by omega]
    have hd:(text.extract j k).data.getD (i - j) 0=text.data.getD i 0:=by
     rw [getD_extract text (by omega) (by omega),show j + (i - j)=i by omega]
    have hs:=Z20 text (j:=j) (k:=k) g2;simp only [Z0f,hb,hs,hd];rw [Y3 (by omega),Y3 h2,Y3 h3,show i - j + 1=i + 1 - j by omega];exact g4 g (by omega)
theorem Z1c {c:Int} (h:Z1u c=true):Z05 c=false:=by
 unfold Z1u Z0p Z0l at h;unfold Z05;simp only [Bool.or_eq_true,Bool.and_eq_true,decide_eq_true_eq] at h;simp only [Bool.or_eq_false_iff,decide_eq_false_iff_not];omega
theorem Z3e {c:Int} (h:Z0p c=true):Z1u c=true:=by simp [Z1u,h]
theorem Z50 {c:Int} (h:Z0l c=true):Z1u c=true:=by simp [Z1u,h]
theorem Zdi {c:Int} (h:Z4r c=true):c≠0∧Z05 c=false:=by
 simp only [Z4r,Bool.or_eq_true,beq_iff_eq] at h;simp only [Z05,Bool.or_eq_false_iff,decide_eq_false_iff_not];omega
theorem extract_all (b:ByteArray) (n:Nat) (h:n=b.size):b.extract 0 n=b:=by subst h; simp
theorem Z91 (text:ByteArray) (j:Nat) (h:Z02 text j=1→Z4r (Z9 text j)=true) :
 1 ≤ Z02 text j ∧ j + Z02 text j ≤ text.size ∧ (∀ m, j ≤ m → m < j + Z02 text j → Z05 (Z9 text m) = false) ∧ Z02 (text.extract j (j + Z02 text j)) 0 = Z02 text j ∧
   (Z02 text j=1→Z9 (text.extract j (j + Z02 text j)) 0=Z9 text j)∧Z9 (text.extract j (j + Z02 text j)) 0=Z9 text j:=by
 by_cases h3:Z9 text j=61∧Z9 text (j + 1)=61∧Z9 text (j + 2)=61
 ·have e : Z02 text j = 3 := by simp [Z02, h3]
  rw [e];have hl:=Z2w (text:=text) (i:=j + 2) (by omega);have b0:=Zo text (j:=j) (k:=j + 3) (i:=0) (by omega) (by omega);have b1:=Zo text (j:=j) (k:=j + 3) (i:=1) (by omega) (by omega);have b2:=Zo text (j:=j) (k:=j + 3) (i:=2) (by omega) (by omega);refine ⟨by omega,by omega,fun m h1 h2=>?_,?_,fun _=>by rw [b0,Nat.add_zero],by rw [b0,Nat.add_zero]⟩
  ·have : m = j ∨ m = j + 1 ∨ m = j + 2 := by omega
   rcases this with rfl | rfl | rfl <;> simp [Z05,h3]
  ·unfold Z02; rw [show 0 + 1=1 by rfl,show 0 + 2=2 by rfl,b0,b1,b2,Nat.add_zero,Y5 h3]
 ·by_cases h2 : Z9 text j = 38 ∧ Z9 text (j + 1) = 38
  ·have e : Z02 text j = 2 := by simp [Z02, h2]
   rw [e];have hl:=Z2w (text:=text) (i:=j + 1) (by omega);have b0:=Zo text (j:=j) (k:=j + 2) (i:=0) (by omega) (by omega);have b1:=Zo text (j:=j) (k:=j + 2) (i:=1) (by omega) (by omega);refine ⟨by omega,by omega,fun m h1 h2'=>?_,?_,fun _=>by rw [b0,Nat.add_zero],by rw [b0,Nat.add_zero]⟩
   ·have : m = j ∨ m = j + 1 := by omega
    rcases this with rfl | rfl <;> simp [Z05,h2]
   ·unfold Z02; rw [show 0 + 1=1 by rfl,show 0 + 2=2 by rfl,b0,b1,Nat.add_zero,Y3 (by omega),Y5 h2]
  ·by_cases h1 : Z9 text j = 124 ∧ Z9 text (j + 1) = 124
   ·have e : Z02 text j = 2 := by simp [Z02, h1]
    rw [e];have hl:=Z2w (text:=text) (i:=j + 1) (by omega);have b0:=Zo text (j:=j) (k:=j + 2) (i:=0) (by omega) (by omega);have b1:=Zo text (j:=j) (k:=j + 2) (i:=1) (by omega) (by omega);refine ⟨by omega,by omega,fun m h1' h2'=>?_,?_,fun _=>by rw [b0,Nat.add_zero],by rw [b0,Nat.add_zero]⟩
    ·have : m = j ∨ m = j + 1 := by omega
     rcases this with rfl | rfl <;> simp [Z05,h1]
    ·unfold Z02; rw [show 0 + 1=1 by rfl,show 0 + 2=2 by rfl,b0,b1,Nat.add_zero,Y3 (by omega),Y3 (by omega),Y5 h1]
   ·have e : Z02 text j = 1 := by simp [Z02, h3, h2, h1]
    have hs:=h e;rw [e];have hp:=Zdi hs;have hl:=Z2w hp.1;have b0:=Zo text (j:=j) (k:=j + 1) (i:=0) (by omega) (by omega);have b1:=Z2q (text:=text.extract j (j + 1)) (i:=1) (by rw [Z20 text (by omega)]; omega);refine ⟨by omega,by omega,fun m h1' h2'=>?_,?_,fun _=>by rw [b0,Nat.add_zero],by rw [b0,Nat.add_zero]⟩
    ·obtain rfl : m = j := by omega
     exact hp.2
    ·unfold Z02; rw [show 0 + 1=1 by rfl,show 0 + 2=2 by rfl,b1,Y3 (by omega),Y3 (by omega),Y3 (by omega)]
theorem Z1e (text:ByteArray) {j k:Nat} {t:Tok} (hj:j < text.size) (h:Z0w text j=.ok (t,k)) :
 j < k ∧ k ≤ text.size ∧ t.at' = j ∧ t.kind ≠ 6 ∧ Z05 (Z9 text j) = false ∧ Z05 (Z9 text (k - 1)) = false ∧
   Z0w (text.extract j k) 0=.ok ({ t with at':=0 },k - j):=by
 unfold Z0w at h;by_cases hl:Z0p (Z9 text j)=true
 ·rw [Y5 hl] at h;simp only at h;obtain ⟨K, hK⟩ : ∃ K, Zq Z1u text (text.size - j) j = K := ⟨_, rfl⟩
  rw [hK] at h;obtain ⟨s1,s2,s3,s4⟩:=Z0b Z1u text (text.size - j) j (Y0 _) (by omega);have hcut:=Z5r Z1u text hj hK;rw [hK] at s1 s2 s3 s4;have hjK:j < K:=by
   rcases Nat.lt_or_ge j K with h' | h';·exact h'
   ·have:=s4 (by omega);rw [show K=j by omega,Z3e hl] at this;cases this
  have hb0:Z9 (text.extract j K) 0=Z9 text j:=by rw [Zo text (by omega) s2,Nat.add_zero]
  have hbl:=Z1c (s3 (K - 1) (by omega) (by omega));have hall:(text.extract j K).extract 0 (K - j)=text.extract j K:=extract_all _ _ (Z20 text s2).symm;by_cases hw:Z29 (text.extract j K)=true
  ·rw [Y5 hw] at h;simp only [Except.ok.injEq,Prod.mk.injEq] at h;obtain ⟨rfl,rfl⟩:=h;refine ⟨hjK,s2,rfl,by simp,Z1c (Z3e hl),hbl,?_⟩;unfold Z0w;rw [hb0,Y5 hl];simp only [hcut,hall];rw [Y5 hw]
  ·rw [Y3 hw] at h;by_cases h20 : 20 < K - j;·rw [Y5 h20] at h; cases h
   ·rw [Y3 h20] at h;simp only [Except.ok.injEq,Prod.mk.injEq] at h;obtain ⟨rfl,rfl⟩:=h;refine ⟨hjK,s2,rfl,by simp,Z1c (Z3e hl),hbl,?_⟩;unfold Z0w;rw [hb0,Y5 hl];simp only [hcut,hall];rw [Y3 hw,Y3 (by omega)]
 rw [Y3 hl] at h;by_cases hd:Z0l (Z9 text j)=true
 ·rw [Y5 hd] at h;simp only at h;obtain ⟨K, hK⟩ : ∃ K, Zq Z0l text (text.size - j) j = K := ⟨_, rfl⟩
  rw [hK] at h;obtain ⟨s1,s2,s3,s4⟩:=Z0b Z0l text (text.size - j) j (Y0 _) (by omega);have hcut:=Z5r Z0l text hj hK;rw [hK] at s1 s2 s3 s4;have hjK:j < K:=by
   rcases Nat.lt_or_ge j K with h' | h';·exact h'
   ·have:=s4 (by omega);rw [show K=j by omega,hd] at this;cases this
  have hb0:Z9 (text.extract j K) 0=Z9 text j:=by rw [Zo text (by omega) s2,Nat.add_zero]
  have hbl:=Z1c (Z50 (s3 (K - 1) (by omega) (by omega)));have hnum:=Zdh text (j:=j) s2 (K - j) j 0 (Y0 _);rw [Nat.sub_self] at hnum;by_cases h1:10 < K - j∨(1 < K - j∧Z9 text j=48);·rw [Y5 h1] at h; cases h
  rw [Y3 h1] at h;by_cases h2:1000000000 < numF text K (K - j) j 0;·rw [Y5 h2] at h; cases h
  rw [Y3 h2] at h;simp only [Except.ok.injEq,Prod.mk.injEq] at h;obtain ⟨rfl,rfl⟩:=h;refine ⟨hjK,s2,rfl,by simp,Z1c (Z50 hd),hbl,?_⟩;unfold Z0w;rw [hb0,Y3 hl,Y5 hd];simp only [hcut];simp only [Nat.sub_zero,hnum];rw [Y3 h1,Y3 h2]
 rw [Y3 hd] at h;by_cases hq:Z9 text j=39
 ·rw [Y5 hq] at h;obtain ⟨⟨bs, e, K⟩, hR⟩ : ∃ R, R = Z0x text (j + 1) := ⟨_, rfl⟩
  rw [← hR] at h;simp only at h;by_cases h4:e=4;·rw [Y5 h4] at h; cases h
  rw [Y3 h4] at h;by_cases h0:e≠0;·rw [Y5 h0] at h; cases h
  rw [Y3 h0] at h;simp only [ne_eq,Decidable.not_not] at h0;subst h0;simp only [Except.ok.injEq,Prod.mk.injEq] at h;obtain ⟨rfl,rfl⟩:=h;obtain ⟨g1,g2,g3,g4⟩:=Z8l text (j:=j) _ _ _ _ _ (by omega) hR.symm;refine ⟨by omega,g2,rfl,by simp,by rw [hq]; rfl,by rw [g3]; rfl,?_⟩;have hb0:Z9 (text.extract j K) 0=Z9 text j:=by rw [Zo text (by omega) g2,Nat.add_zero]
  have hqa:Z0x (text.extract j K) (0 + 1)=(bs,0,K - j):=by
   have:=g4 ((text.extract j K).size + 1 - (0 + 1)) (by rw [Z20 text g2]; omega);rw [show j + 1 - j=0 + 1 by omega] at this;exact this
  unfold Z0w;rw [hb0,Y3 hl,Y3 hd,Y5 hq,hqa];simp
 rw [Y3 hq] at h;by_cases hs:Z02 text j=1∧Z4r (Z9 text j)=false;·rw [Y5 hs] at h; cases h
 rw [Y3 hs] at h;simp only [Except.ok.injEq,Prod.mk.injEq] at h;obtain ⟨rfl,rfl⟩:=h;obtain ⟨g1,g2,g3,g4,g5,g6⟩:=Z91 text j (fun e=>by
  cases hb:Z4r (Z9 text j) with
  | true=>rfl
  | false=>exact absurd ⟨e,hb⟩ hs)
 refine ⟨by omega,g2,rfl,by simp,g3 j (Y0 _) (by omega),g3 _ (by omega) (by omega),?_⟩;have hall:(text.extract j (j + Z02 text j)).extract 0 (0 + Z02 text j)=text.extract j (j + Z02 text j):=extract_all _ _ (by rw [Z20 text g2]; omega);unfold Z0w;rw [g6,Y3 hl,Y3 hd,Y3 hq,g4,Y3 hs,hall];simp
def Z4a (text:ByteArray):Nat→List Tok→Prop
 | _,[]=>False
 | i,[t]=>text.size≤Zq Z05 text (text.size - i) i∧t=⟨6,ByteArray.empty,0,Zq Z05 text (text.size - i) i⟩
 | i,t :: u :: l=>∃ k,Zq Z05 text (text.size - i) i < text.size∧Z0w text (Zq Z05 text (text.size - i) i)=.ok (t,k)∧Z4a text k (u :: l)
theorem Z9y (text:ByteArray):∀ (f i:Nat) (acc l:List Tok),i≤text.size→text.size - i < f→lexF text f i acc=.ok l→∃ r,l=acc ++ r∧Z4a text i r:=by
 intro f;induction f with
 | zero=>intro i acc l _ h2; omega
 | succ f ih =>
   intro i acc l hi hf h;simp only [lexF] at h;obtain ⟨s1,s2,_,_⟩:=Z0b Z05 text (text.size - i) i (Y0 _) hi;by_cases hj:text.size≤Zq Z05 text (text.size - i) i
   ·rw [Y5 hj] at h;simp only [Except.ok.injEq] at h;exact ⟨_,h.symm,hj,rfl⟩
   ·rw [Y3 hj] at h;cases ht : Z0w text (Zq Z05 text (text.size - i) i) with
    | error e=>rw [ht] at h; cases h
    | ok x =>
      obtain ⟨t,k⟩:=x;rw [ht] at h;simp only at h;obtain ⟨c1,c2,_,_,_,_,_⟩:=Z1e text (by omega) ht;obtain ⟨r,hr,hS⟩:=ih k _ l c2 (by omega) h;refine ⟨t :: r,by simp [hr],?_⟩;cases r with
      | nil=>exact hS.elim
      | cons u r=>exact ⟨k,by omega,ht,hS⟩
theorem Zcp (text:ByteArray):∀ (r:List Tok) (f i:Nat) (acc:List Tok),i≤text.size→text.size - i < f→Z4a text i r→lexF text f i acc=.ok (acc ++ r):=by
 intro r;induction r with
 | nil=>intro f i acc _ _ h; exact h.elim
 | cons t r ih =>
   intro f i acc hi hf h;obtain ⟨g,rfl⟩:∃ g,f=g + 1:=⟨f - 1,by omega⟩
   obtain ⟨s1,s2,_,_⟩:=Z0b Z05 text (text.size - i) i (Y0 _) hi;simp only [lexF];cases r with
   | nil=>obtain ⟨h1,h2⟩:=h; rw [Y5 h1,h2]
   | cons u r =>
     obtain ⟨k,h1,h2,h3⟩:=h;rw [Y3 (by omega),h2];simp only;obtain ⟨c1,c2,_,_,_,_,_⟩:=Z1e text h1 h2;rw [ih g k _ c2 (by omega) h3];simp
theorem Z3y {text:ByteArray} {l:List Tok} (h:Z3q text=.ok l):Z4a text 0 l:=by
 obtain ⟨r,hr,hS⟩:=Z9y text _ 0 [] l (Yh _) (by omega) h;rw [hr]; exact hS
end Go.Proofs.YtjcgkdfeplbajaaGreatDoor
