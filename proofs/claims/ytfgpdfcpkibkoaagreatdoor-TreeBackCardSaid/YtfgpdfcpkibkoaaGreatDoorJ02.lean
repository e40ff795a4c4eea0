/- Package lex: the scanner's run. -/
import Derived.Test.YtfgpdfcpkibkoaaGreatDoorJ01
import Derived.Shelf.Slices.Turned
import Derived.Test.YtfgpdfcpkibkoaaGreatDoorRows
namespace Go.Proofs.YtfgpdfcpkibkoaaGreatDoor
open Go Go.RowKit
set_option maxRecDepth 100000
set_option maxHeartbeats 20000000
structure ScanAt (w0 w:World) (sb:Nat) (text:ByteArray) (at':Nat):Prop where
 blk:w.heap[sb]?=some (.cells #[.string text,.int .i64 at'] 67 (0,0))
 os:w.os=w0.os
 tape:w.tape=w0.tape
 output:w.output=w0.output
 size:w0.heap.size≤w.heap.size
 block:∀ k,k < w0.heap.size→k≠sb→w.heap[k]?=w0.heap[k]?
variable {w0 w w':World} {sb:Nat} {text:ByteArray} {a b:Nat}
theorem ScanAt.refl (h:w.heap[sb]?=some (.cells #[.string text,.int .i64 a] 67 (0,0))):ScanAt w w sb text a:=⟨h,rfl,rfl,rfl,Y0 _,fun _ _ _=>rfl⟩
theorem ScanAt.trans (h:ScanAt w0 w sb text a) (g:ScanAt w w' sb text b):ScanAt w0 w' sb text b:=
 ⟨g.blk,g.os.trans h.os,g.tape.trans h.tape,g.output.trans h.output,Y4 h.size g.size,fun k hk hn=>(g.block k (Y7 hk h.size) hn).trans (h.block k hk hn)⟩
theorem ScanAt.drew (h:ScanAt w0 w sb text a):ScanAt w0 w.drew sb text a:=⟨h.blk,h.os,h.tape,h.output,h.size,h.block⟩
theorem ScanAt.lt (h:ScanAt w0 w sb text a):sb < w.heap.size:=(Y1.1 h.blk).1
theorem ScanAt.below (h:ScanAt w0 w sb text a) (hB:Below w.heap.size w w'):ScanAt w0 w' sb text a:=
 ⟨(hB.block sb h.lt).trans h.blk,hB.os.trans h.os,hB.tape.trans h.tape,hB.output.trans h.output,Y4 h.size hB.size,fun k hk hn=>(hB.block k (Y7 hk h.size)).trans (h.block k hk hn)⟩
theorem ScanAt.c0 (h:ScanAt w0 w sb text a):w.cell? ⟨sb,0,none⟩=some (.string text):=by simp [World.cell?,h.blk]
theorem ScanAt.c1 (h:ScanAt w0 w sb text a):w.cell? ⟨sb,1,none⟩=some (.int .i64 a):=by simp [World.cell?,h.blk]
theorem ScanAt.fz (h:ScanAt w0 w sb text a) (o:Nat):w.frozen? ⟨sb,o,none⟩=false:=by simp [World.frozen?,h.blk]
theorem ScanAt.set (h:ScanAt w0 w sb text a) (b:Nat):ScanAt w0 (w.setCell ⟨sb,1,none⟩ (.int .i64 b)) sb text b:=
 ⟨Z0a _ h.blk,h.os,h.tape,h.output,by simpa using h.size,fun k hk hn=>(Y8 _ _ _ _ hn).trans (h.block k hk hn)⟩
def Z6 (text:ByteArray) (i:Nat):Int:=((text.data.getD i 0).toNat:Int)
def Zn (p:Int→Bool) (text:ByteArray):Nat→Nat→Nat
 | 0,i=>i
 | f + 1,i=>if i < text.size && p (Z6 text i) then Zn p text f (i + 1) else i
theorem Z39 {i:Nat} (h:i < text.size):Z6 text i=((text[i]'h).toNat:Int):=by
 unfold Z6;have:i < text.data.size:=h;simp only [Array.getD,dif_pos this];rfl
theorem Z8p {p:Int→Bool} {j:Nat} (h:j < text.size) (hp:p (Z6 text j)=true):Zn p text (text.size - j) j=Zn p text (text.size - (j + 1)) (j + 1):=by
 obtain ⟨f,hf⟩:∃ f,text.size - j=f + 1:=⟨text.size - j - 1,by omega⟩
 rw [hf,show text.size - (j + 1)=f by omega];simp [Zn,h,hp]
theorem Z5n {p:Int→Bool} {j:Nat} (hp:¬ j < text.size∨p (Z6 text j)=false):Zn p text (text.size - j) j=j:=by
 cases hf:text.size - j with
 | zero=>rfl
 | succ f =>
   rcases hp with h | h;·omega
   ·simp [Zn,h]
theorem Z9a {fv:Value} {p:Int→Bool} (hfp:(fv=.func (.func 25) #[] #[]∧p=Z07)∨(fv=.func (.func 27) #[] #[]∧p=Z1g)∨(fv=.func (.func 28) #[] #[]∧p=Z08)) (h:w.heap[sb]?=some (.cells #[.string text,.int .i64 a] 67 (0,0))) (ha:a≤text.size) (hm:text.size≤1000000) :
 Calls Tryz.prog 24 #[.pointer (some ⟨sb,0,none⟩),fv] w fun e w'=>∃ b,b=Zn p text (text.size - a) a∧a≤b∧b≤text.size∧e=.returned (.string (text.extract a b))∧ScanAt w w' sb text b:=by
 rcases hfp with ⟨rfl,rfl⟩ | ⟨rfl,rfl⟩ | ⟨rfl,rfl⟩;have HL:=lh (fun w c=>Zdq w c);obtain ⟨P,hP⟩:=zX Z07
 rw [← hP] at HL ⊢;clear hP;rotate_left
 have HL:=lh (fun w c=>Zev w c);obtain ⟨P,hP⟩:=zX Z1g
 rw [← hP] at HL ⊢;clear hP;rotate_left
 have HL:=lh (fun w c=>Z6m w c);obtain ⟨P,hP⟩:=zX Z08
 rw [← hP] at HL ⊢;clear hP;rotate_left
 all_goals
  have S0:=lh (ScanAt.refl h);have c0:=S0.out.c0;have c1:=S0.out.c1;clear h;go_enter Tryz.func24,Tryz.ntmps24
  go_wp2;go_loopw [] (fun wr=>∃ j:Nat,a≤j∧j≤text.size∧Zn P text (text.size - j) j=Zn P text (text.size - a) a∧ScanAt w wr sb text j) (fun wr=>text.size - (intOf ((wr.cell? ⟨sb,1,none⟩).getD .nilIface)).toNat)
  case atStart=>exact ⟨a,Y0 _,ha,rfl,S0.out⟩
  case round=>
   obtain ⟨j,hj1,hj2,hsp,hS⟩:=hrel;have q0:=hS.c0;have q1:=hS.c1;have SJ:=lh hS;have HSP:=lh hsp;clear hS hsp c0 c1;by_cases hlt:j < text.size
   ·obtain ⟨B, hB⟩ := zX (P (Z6 text j))
    have HB:=lh hB;have HC:=HL.out wr.drew (Z6 text j);rw [← hB,Z39 hlt] at HC;have HC:=lh HC;clear hB;cases B
    all_goals
     go_wp2_with fail
     refine Z5 [(true,0),(true,1),(true,2),(true,3),(true,4),(true,5),(true,6),(true,7),(true,8),(true,9),(true,10),(true,11),(true,12),(true,13),(true,14),(true,15),(true,16),(true,17),(true,18),(true,19),(true,20)] [21,22] (fun W=>W.cell? ⟨sb,0,none⟩=some (.string text)∧W.cell? ⟨sb,1,none⟩=some (.int .i64 j)) (by kernel_rfl) (by kernel_rfl) (fun _ _ d _ _ h=>by cases d <;> exact h) ⟨q0,q1⟩ (fun hS0=>?_)
     simp only [Zk,zD,zE,zF,zG,zH,zI]
     iterate 21
      first
       | (refine Z7 ?_ (by rfl) (fun w' hS'=>?_) ?_; rotate_left; (obtain ⟨s0,s1⟩:=hS'; go_simp; first | done | with_reducible rfl); simp only [Act.put,zA,zB,zC])
       | (refine Z9 (by rfl) ?_; simp only [Act.put,zA,zB,zC])
     refine Zc ?_;go_wp2_with fail
     refine HC.out.mono ?_;rintro e w1 ⟨rfl,rfl⟩
    ·go_wp2_with fail
     refine Z5 [(true,0),(true,1),(true,2),(true,3),(true,4),(true,5),(true,6),(true,7),(true,8)] [9,10] (fun W=>W.cell? ⟨sb,0,none⟩=some (.string text)∧W.cell? ⟨sb,1,none⟩=some (.int .i64 j)) (by kernel_rfl) (by kernel_rfl) (fun _ _ d _ _ h=>by cases d <;> exact h) ⟨q0,q1⟩ (fun hS0=>?_);simp only [Zk,zD,zE,zF,zG,zH,zI]
     iterate 9
      first
       | (refine Z7 ?_ (by rfl) (fun w' hS'=>?_) ?_; rotate_left; (obtain ⟨s0,s1⟩:=hS'; go_simp; first | done | with_reducible rfl); simp only [Act.put,zA,zB,zC])
       | (refine Z9 (by rfl) ?_; simp only [Act.put,zA,zB,zC])
     refine Zc ?_;go_wp2;go_ret;exact ⟨j,by rw [← HSP.out]; exact (Z5n (.inr HB.out.symm)).symm,hj1,hj2,rfl,SJ.out.drew.drew⟩
    ·have z1 := SJ.out.fz 1;go_wp2;go_roundw
     case rel=>exact ⟨j + 1,by omega,by omega,by rw [← Z8p hlt HB.out.symm]; exact HSP.out,SJ.out.drew.set (j + 1)⟩
     case measure=>
      have e1:(wr.setCell ⟨sb,1,none⟩ (.int .i64 ((j:Int) + 1))).cell? ⟨sb,1,none⟩=some (.int .i64 ((j:Int) + 1)):=(SJ.out.set (j + 1)).c1;have e2:=SJ.out.c1;rw [World.cell?_drew,e1,e2];simp [intOf];omega
   ·go_wp2_with fail
    refine Z5 [(true,0),(true,1),(true,2),(true,3),(true,4),(true,5),(true,6),(true,7),(true,8),(true,9),(true,10),(true,11),(true,12),(true,13),(true,14),(true,15),(true,16),(true,17),(true,18),(true,19),(true,20)] [21,22] (fun W=>W.cell? ⟨sb,0,none⟩=some (.string text)∧W.cell? ⟨sb,1,none⟩=some (.int .i64 j)) (by kernel_rfl) (by kernel_rfl) (fun _ _ d _ _ h=>by cases d <;> exact h) ⟨q0,q1⟩ (fun hS0=>?_)
    simp only [Zk,zD,zE,zF,zG,zH,zI]
    iterate 21
     first
      | (refine Z7 ?_ (by rfl) (fun w' hS'=>?_) ?_; rotate_left; (obtain ⟨s0,s1⟩:=hS'; go_simp; first | done | with_reducible rfl); simp only [Act.put,zA,zB,zC])
      | (refine Z9 (by rfl) ?_; simp only [Act.put,zA,zB,zC])
    refine Zc ?_;go_wp2_with fail
    refine Z5 [(true,0),(true,1),(true,2),(true,3),(true,4),(true,5),(true,6),(true,7),(true,8)] [9,10] (fun W=>W.cell? ⟨sb,0,none⟩=some (.string text)∧W.cell? ⟨sb,1,none⟩=some (.int .i64 j)) (by kernel_rfl) (by kernel_rfl) (fun _ _ d _ _ h=>by cases d <;> exact h) ⟨q0,q1⟩ (fun hS0=>?_);simp only [Zk,zD,zE,zF,zG,zH,zI]
    iterate 9
     first
      | (refine Z7 ?_ (by rfl) (fun w' hS'=>?_) ?_; rotate_left; (obtain ⟨s0,s1⟩:=hS'; go_simp; first | done | with_reducible rfl); simp only [Act.put,zA,zB,zC])
      | (refine Z9 (by rfl) ?_; simp only [Act.put,zA,zB,zC])
    refine Zc ?_;go_wp2;go_ret;exact ⟨j,by rw [← HSP.out]; exact (Z5n (.inl hlt)).symm,hj1,hj2,rfl,SJ.out.drew.drew⟩
theorem Zco (h:w.heap[sb]?=some (.cells #[.string text,.int .i64 a] 67 (0,0))) (ha:a≤text.size) (hm:text.size≤1000000) :
 Calls Tryz.prog 24 #[.pointer (some ⟨sb,0,none⟩),.func (.func 25) #[] #[]] w fun e w'=>∃ b,b=Zn Z07 text (text.size - a) a∧a≤b∧b≤text.size∧e=.returned (.string (text.extract a b))∧ScanAt w w' sb text b:=Z9a (.inl ⟨rfl,rfl⟩) h ha hm
theorem Zeq (h:w.heap[sb]?=some (.cells #[.string text,.int .i64 a] 67 (0,0))) (ha:a≤text.size) (hm:text.size≤1000000) :
 Calls Tryz.prog 24 #[.pointer (some ⟨sb,0,none⟩),.func (.func 27) #[] #[]] w fun e w'=>∃ b,b=Zn Z1g text (text.size - a) a∧a≤b∧b≤text.size∧e=.returned (.string (text.extract a b))∧ScanAt w w' sb text b:=Z9a (.inr (.inl ⟨rfl,rfl⟩)) h ha hm
theorem Zdz (h:w.heap[sb]?=some (.cells #[.string text,.int .i64 a] 67 (0,0))) (ha:a≤text.size) (hm:text.size≤1000000) :
 Calls Tryz.prog 24 #[.pointer (some ⟨sb,0,none⟩),.func (.func 28) #[] #[]] w fun e w'=>∃ b,b=Zn Z08 text (text.size - a) a∧a≤b∧b≤text.size∧e=.returned (.string (text.extract a b))∧ScanAt w w' sb text b:=Z9a (.inr (.inr ⟨rfl,rfl⟩)) h ha hm
end Go.Proofs.YtfgpdfcpkibkoaaGreatDoor
namespace Go.Proofs.YtfgpdfcpkibkoaaGreatDoor
open Go Go.RowKit
set_option maxRecDepth 100000
set_option maxHeartbeats 20000000
def Z5w (c:Int):Option UInt8:=if c=110 then some 10 else if c=39 then some 39 else if c=92 then some 92 else none
def Z04 (text:ByteArray):Nat→Nat→List UInt8→List UInt8×Int×Nat
 | 0,i,_=>([],3,i)
 | f + 1, i, acc =>
   if text.size≤i∨Z6 text i=10 then ([],3,i)
   else if Z6 text i=39 then (if 500 < acc.length then ([],4,i + 1) else (acc,0,i + 1))
   else if Z6 text i=92 then
    (if i + 1 < text.size then
     match Z5w (Z6 text (i + 1)) with
     | some e=>Z04 text f (i + 2) (acc ++ [e])
     | none=>([],3,i + 1)
    else ([],3,i + 1))
   else Z04 text f (i + 1) (acc ++ [text.data.getD i 0])
def Z0t (text:ByteArray) (i:Nat):List UInt8×Int×Nat:=Z04 text (text.size + 1 - i) i []
end Go.Proofs.YtfgpdfcpkibkoaaGreatDoor
namespace Go.Proofs
def Tryz.lays110_ren:Go.Shelf.Ren:=⟨fun | 110=>46 | 109=>65 | n=>n,fun | 31=>77 | 9=>9 | 4=>4 | 3=>3 | 0=>0 | n=>n,fun | n=>n⟩
theorem Tryz.lays110:Go.Proofs.Lays.n110 Tryz.prog Tryz.lays110_ren:={
 mixed:=by kernel_rfl
 f109:=Tryz.func65.trans (congrArg some (by kernel_rfl))
 f110:=Tryz.func46.trans (congrArg some (by kernel_rfl))
 t0:=Tryz.underlying0
 a0:=Tryz.isAgg0
 z0:=Tryz.sizeOf0
 v0:=Tryz.zeroValue0
 t3:=Tryz.underlying3
 a3:=Tryz.isAgg3
 z3:=Tryz.sizeOf3
 v3:=Tryz.zeroValue3
 t4:=Tryz.underlying4
 a4:=Tryz.isAgg4
 z4:=Tryz.sizeOf4
 v4:=Tryz.zeroValue4
 t9:=Tryz.underlying9
 a9:=Tryz.isAgg9
 z9:=Tryz.sizeOf9
 v9:=Tryz.zeroValue9
 t31:=Tryz.underlying77
 a31:=Tryz.isAgg77
 z31:=Tryz.sizeOf77
 v31:=Tryz.zeroValue77 }
open Go.Lib in
theorem Tryz.slices_Contains_string (b off n c:Nat) (zs:List ByteArray) (x:ByteArray) (w:World) (hz:n≤zs.length) (hbig:n≤9223372036854775807) (hc:∀ j,j < zs.length→w.cell? ⟨b,off + j,none⟩=some (.string (zs.getD j ByteArray.empty))) :
 Calls Tryz.prog 46 #[.slice (some ⟨b,off,none⟩) n c,.string x] w fun e w'=>e=.returned (.bool (Lib.containsS (zs.take n) x))∧w'=w:=Any.slices_Contains_string Tryz.lays110 b off n c zs x w hz hbig hc
end Go.Proofs
namespace Go.Proofs.YtfgpdfcpkibkoaaGreatDoor
open Go Go.RowKit
set_option maxRecDepth 100000
set_option maxHeartbeats 20000000
def Z4v:List ByteArray:=match (Rows.laid_sloppyscope_lex_wordList:DataW Unit) with
 | .agg l => l.map fun
   | .lit (.string bs)=>⟨bs.toArray⟩
   | _=>⟨#[]⟩
 | _=>[]
theorem Z5e:Z4v.length=19:=by kernel_rfl
def Z27 (s:ByteArray):Bool:=Lib.containsS Z4v s
def Words (w:World):Prop:=∀ j,j < 19→w.cell? ⟨3,j,none⟩=some (.string (Z4v.getD j ByteArray.empty))
theorem Zc0 (w:World) (s:ByteArray) (hW:Words w) :
 Calls Tryz.prog 29 #[.string s] w fun e w'=>e=.returned (.bool (Z27 s))∧w'=w:=by
 have HC:=Tryz.slices_Contains_string 3 0 19 19 Z4v s w (by rw [Z5e]; omega) (by omega) (fun j hj=>by rw [Nat.zero_add]; exact hW j (by rw [Z5e] at hj; exact hj));rw [show Z4v.take 19=Z4v by rw [← Z5e]; exact List.take_length] at HC;have HC:=lh HC;clear hW;unfold Z27;generalize Lib.containsS Z4v s=B at HC ⊢;go_enter Tryz.func29,Tryz.ntmps29
 go_wp2_with fail
 refine HC.out.mono ?_;rintro e w1 ⟨rfl,rfl⟩;go_wp2;go_ret;exact ⟨rfl,rfl⟩
end Go.Proofs.YtfgpdfcpkibkoaaGreatDoor
namespace Go.Proofs.YtfgpdfcpkibkoaaGreatDoor
open Go Go.RowKit
set_option maxRecDepth 100000
set_option maxHeartbeats 20000000
structure Tok where
 kind:Int
 text:ByteArray
 n:Int
 at':Nat
def numF (text:ByteArray) (k:Nat):Nat→Nat→Int→Int
 | 0,_,n=>n
 | f + 1,i,n=>if i < k then numF text k f (i + 1) (10 * n + (Z6 text i - 48)) else n
def Z00 (text:ByteArray) (j:Nat):Nat:=
 if Z6 text j=61∧Z6 text (j + 1)=61∧Z6 text (j + 2)=61 then 3
 else if Z6 text j=38∧Z6 text (j + 1)=38 then 2
 else if Z6 text j=124∧Z6 text (j + 1)=124 then 2
 else 1
def Z3u (c:Int):Bool:=c == 40 || c == 41 || c == 123 || c == 125 || c == 91 || c == 93 || c == 59 || c == 58 || c == 44 || c == 46 || c == 61 || c == 43 || c == 45 || c == 42 || c == 60 || c == 33
def Z0k (text:ByteArray) (j:Nat):Except (Int×Nat) (Tok×Nat):=
 if Z0e (Z6 text j) then
  let k:=Zn Z1g text (text.size - j) j
  if Z27 (text.extract j k) then .ok (⟨2,text.extract j k,0,j⟩,k)
  else if 20 < k - j then .error (4,j)
  else .ok (⟨1,text.extract j k,0,j⟩,k)
 else if Z08 (Z6 text j) then
  let k:=Zn Z08 text (text.size - j) j
  if 10 < k - j∨(1 < k - j∧Z6 text j=48) then .error (3,j)
  else if 1000000000 < numF text k (k - j) j 0 then .error (2,j)
  else .ok (⟨3,ByteArray.empty,numF text k (k - j) j 0,j⟩,k)
 else if Z6 text j=39 then
  if (Z0t text (j + 1)).2.1=4 then .error (4,j)
  else if (Z0t text (j + 1)).2.1≠0 then .error (3,(Z0t text (j + 1)).2.2)
  else .ok (⟨4,⟨(Z0t text (j + 1)).1.toArray⟩,0,j⟩,(Z0t text (j + 1)).2.2)
 else if Z00 text j=1∧Z3u (Z6 text j)=false then .error (3,j)
 else .ok (⟨5,text.extract j (j + Z00 text j),0,j⟩,j + Z00 text j)
def lexF (text:ByteArray):Nat→Nat→List Tok→Except (Int×Nat) (List Tok)
 | 0,_,acc=>.ok acc
 | f + 1, i, acc =>
   let j:=Zn Z07 text (text.size - i) i
   if text.size≤j then .ok (acc ++ [⟨6,ByteArray.empty,0,j⟩])
   else match Z0k text j with
    | .error e=>.error e
    | .ok (t,k)=>lexF text f k (acc ++ [t])
def Z4y (text:ByteArray):Except (Int×Nat) (List Tok):=lexF text (text.size + 1) 0 []
theorem Z2s {text:ByteArray} {i:Nat} (h:text.size≤i):Z6 text i=0:=by
 have h':¬ i < text.data.size:=by change ¬ i < text.size; omega
 unfold Z6 Array.getD;rw [dif_neg h'];rfl
theorem Z2v {text:ByteArray} {i:Nat} (h:Z6 text i≠0):i < text.size:=by
 rcases Nat.lt_or_ge i text.size with h' | h';·exact h'
 ·exact absurd (Z2s h') h
theorem getD_extract (text:ByteArray) {j k i:Nat} (h:i < k - j) (hk:k≤text.size):(text.extract j k).data.getD i 0=text.data.getD (j + i) 0:=by
 have h2:j + i < text.data.size:=by change _ < text.size; omega
 have h1:i < (text.extract j k).data.size:=by
  change i < (text.extract j k).size;rw [ByteArray.size_extract]; omega
 simp only [Array.getD,dif_pos h1,dif_pos h2];simp [ByteArray.data_extract]
theorem Zo (text:ByteArray) {j k i:Nat} (h:i < k - j) (hk:k≤text.size):Z6 (text.extract j k) i=Z6 text (j + i):=by
 unfold Z6; rw [getD_extract text h hk]
theorem Z22 (text:ByteArray) {j k:Nat} (hk:k≤text.size):(text.extract j k).size=k - j:=by
 rw [ByteArray.size_extract]; omega
theorem Z0d (p:Int→Bool) (text:ByteArray):∀ (f i:Nat),text.size - i≤f→i≤text.size →
 i≤Zn p text f i∧Zn p text f i≤text.size∧(∀ m,i≤m→m < Zn p text f i→p (Z6 text m)=true)∧(Zn p text f i < text.size→p (Z6 text (Zn p text f i))=false):=by
 intro f;induction f with
 | zero=>intro i h hi; simp only [Zn]; exact ⟨Y0 _,hi,fun m h1 h2=>by omega,fun h'=>by omega⟩
 | succ f ih =>
   intro i h hi;simp only [Zn];by_cases hc:i < text.size∧p (Z6 text i)=true
   ·rw [Y5 (by simp [hc.1, hc.2])];obtain ⟨h1, h2, h3, h4⟩ := ih (i + 1) (by omega) (by omega);refine ⟨by omega, h2, fun m hm hm2 => ?_, h4⟩;by_cases e : m = i;·rw [e]; exact hc.2
    ·exact h3 m (by omega) hm2
   ·rw [Y3 (by simpa using hc)];refine ⟨Y0 _,hi,fun m h1 h2=>by omega,fun h'=>?_⟩;simpa [h'] using hc
theorem Z1n (p:Int→Bool) (text:ByteArray):∀ (f i k:Nat),text.size - i≤f→i≤k→k≤text.size→(∀ m,i≤m→m < k→p (Z6 text m)=true)→(k < text.size→p (Z6 text k)=false)→Zn p text f i=k:=by
 intro f;induction f with
 | zero=>intro i k h h1 h2 _ _; simp only [Zn]; omega
 | succ f ih =>
   intro i k h h1 h2 h3 h4;simp only [Zn];by_cases e:i=k
   ·subst e;rw [Y3];simp only [Bool.and_eq_true,decide_eq_true_eq,not_and,Bool.not_eq_true];exact h4
   ·rw [Y5 (by simp [h3 i (Nat.le_refl _) (by omega)]; omega)];exact ih (i + 1) k (by omega) (by omega) h2 (fun m a b=>h3 m (by omega) b) h4
theorem Z6h (p:Int→Bool) (text:ByteArray) {j k:Nat} (hj:j < text.size) (hk:Zn p text (text.size - j) j=k) :
 Zn p (text.extract j k) ((text.extract j k).size - 0) 0=k - j:=by
 obtain ⟨h1,h2,h3,h4⟩:=Z0d p text (text.size - j) j (Y0 _) (by omega);rw [hk] at h1 h2 h3 h4;have hs:=Z22 text (j:=j) h2;refine Z1n p _ _ _ _ (by omega) (by omega) (by omega) (fun m _ hm=>?_) (fun h=>by omega);rw [Zo text hm h2];exact h3 _ (by omega) (by omega)
theorem Zft (text:ByteArray) {j k:Nat} (hk:k≤text.size):∀ (f i:Nat) (n:Int),j≤i→numF (text.extract j k) (k - j) f (i - j) n=numF text k f i n:=by
 intro f;induction f with
 | zero=>intro i n _; rfl
 | succ f ih =>
   intro i n hi;simp only [numF];by_cases h:i < k
   ·rw [Y5 (by omega),Y5 h,Zo text (by omega) hk,show j + (i - j)=i by omega,show i - j + 1=i + 1 - j by omega];exact ih (i + 1) _ (by omega)
   ·rw [Y3 (by omega),Y3 h]
theorem Z9u (text:ByteArray) {j:Nat}:∀ (f i:Nat) (acc bs:List UInt8) (k:Nat),j≤i→Z04 text f i acc=(bs,0,k) →
 i < k∧k≤text.size∧Z6 text (k - 1)=39∧∀ f',k - i≤f'→Z04 (text.extract j k) f' (i - j) acc=(bs,0,k - j):=by
 intro f;induction f with
 | zero=>intro i acc bs k _ h; simp [Z04] at h
 | succ f ih =>
   intro i acc bs k hj h;simp only [Z04] at h;by_cases h1:text.size≤i∨Z6 text i=10;·rw [Y5 h1] at h; simp at h
   rw [Y3 h1] at h;simp only [not_or,Nat.not_le] at h1;by_cases h2:Z6 text i=39
   ·rw [Y5 h2] at h;by_cases h3 : 500 < acc.length;·rw [Y5 h3] at h; simp at h
    rw [Y3 h3] at h;simp only [Prod.mk.injEq,true_and] at h;obtain ⟨rfl,rfl⟩:=h;refine ⟨by omega,by omega,by simpa using h2,fun f' hf=>?_⟩;obtain ⟨g,rfl⟩:∃ g,f'=g + 1:=⟨f' - 1,by omega⟩
    have hb:Z6 (text.extract j (i + 1)) (i - j)=Z6 text i:=by
     rw [Zo text (by omega) (by omega),show j + (i - j)=i by omega]
    have hs:=Z22 text (j:=j) (k:=i + 1) (by omega);simp only [Z04,hb,hs];rw [Y3 (by omega),Y5 h2,Y3 h3,show i - j + 1=i + 1 - j by omega]
   rw [Y3 h2] at h;by_cases h3:Z6 text i=92
   ·rw [Y5 h3] at h;by_cases h4 : i + 1 < text.size
    ·rw [Y5 h4] at h;cases he : Z5w (Z6 text (i + 1)) with
     | none=>rw [he] at h; simp at h
     | some e =>
       rw [he] at h;simp only at h;obtain ⟨g1,g2,g3,g4⟩:=ih (i + 2) _ bs k (by omega) h;refine ⟨by omega,g2,g3,fun f' hf=>?_⟩;obtain ⟨g,rfl⟩:∃ g,f'=g + 1:=⟨f' - 1,by omega⟩
       have hb:Z6 (text.extract j k) (i - j)=Z6 text i:=by
        rw [Zo text (by omega) (by omega),show j + (i - j)=i by omega]
       have hb1:Z6 (text.extract j k) (i - j + 1)=Z6 text (i + 1):=by
        rw [Zo text (by omega) (by omega),show j + (i - j + 1)=i + 1 by omega]
       have hs:=Z22 text (j:=j) (k:=k) g2;simp only [Z04,hb,hs,hb1];rw [Y3 (by omega),Y3 h2,Y5 h3,Y5 (by omega),he];simp only;rw [show i - j + 2=i + 2 - j by omega];exact g4 g (by omega)
    ·rw [Y3 h4] at h; simp at h
   ·rw [Y3 h3] at h;obtain ⟨g1, g2, g3, g4⟩ := ih (i + 1) _ bs k (by omega) h;refine ⟨by omega, g2, g3, fun f' hf => ?_⟩;obtain ⟨g, rfl⟩ : ∃ g, f' = g + 1 := ⟨f' - 1, by omega⟩
    have hb:Z6 (text.extract j k) (i - j)=Z6 text i:=by
     rw [Zo text (by omega) (by omega),show j + (i - j)=i by omega]
    have hd:(text.extract j k).data.getD (i - j) 0=text.data.getD i 0:=by
     rw [getD_extract text (by omega) (by omega),show j + (i - j)=i by omega]
    have hs:=Z22 text (j:=j) (k:=k) g2;simp only [Z04,hb,hs,hd];rw [Y3 (by omega),Y3 h2,Y3 h3,show i - j + 1=i + 1 - j by omega];exact g4 g (by omega)
theorem Z1e {c:Int} (h:Z1g c=true):Z07 c=false:=by
 unfold Z1g Z0e Z08 at h;unfold Z07;simp only [Bool.or_eq_true,Bool.and_eq_true,decide_eq_true_eq] at h;simp only [Bool.or_eq_false_iff,decide_eq_false_iff_not];omega
theorem Z3n {c:Int} (h:Z0e c=true):Z1g c=true:=by simp [Z1g,h]
theorem Z5c {c:Int} (h:Z08 c=true):Z1g c=true:=by simp [Z1g,h]
theorem Zfq {c:Int} (h:Z3u c=true):c≠0∧Z07 c=false:=by
 simp only [Z3u,Bool.or_eq_true,beq_iff_eq] at h;simp only [Z07,Bool.or_eq_false_iff,decide_eq_false_iff_not];omega
theorem extract_all (b:ByteArray) (n:Nat) (h:n=b.size):b.extract 0 n=b:=by subst h; simp
theorem Z9q (text:ByteArray) (j:Nat) (h:Z00 text j=1→Z3u (Z6 text j)=true) :
 1 ≤ Z00 text j ∧ j + Z00 text j ≤ text.size ∧ (∀ m, j ≤ m → m < j + Z00 text j → Z07 (Z6 text m) = false) ∧ Z00 (text.extract j (j + Z00 text j)) 0 = Z00 text j ∧
   (Z00 text j=1→Z6 (text.extract j (j + Z00 text j)) 0=Z6 text j)∧Z6 (text.extract j (j + Z00 text j)) 0=Z6 text j:=by
 by_cases h3:Z6 text j=61∧Z6 text (j + 1)=61∧Z6 text (j + 2)=61
 ·have e : Z00 text j = 3 := by simp [Z00, h3]
  rw [e];have hl:=Z2v (text:=text) (i:=j + 2) (by omega);have b0:=Zo text (j:=j) (k:=j + 3) (i:=0) (by omega) (by omega);have b1:=Zo text (j:=j) (k:=j + 3) (i:=1) (by omega) (by omega);have b2:=Zo text (j:=j) (k:=j + 3) (i:=2) (by omega) (by omega);refine ⟨by omega,by omega,fun m h1 h2=>?_,?_,fun _=>by rw [b0,Nat.add_zero],by rw [b0,Nat.add_zero]⟩
  ·have : m = j ∨ m = j + 1 ∨ m = j + 2 := by omega
   rcases this with rfl | rfl | rfl <;> simp [Z07,h3]
  ·unfold Z00; rw [show 0 + 1=1 by rfl,show 0 + 2=2 by rfl,b0,b1,b2,Nat.add_zero,Y5 h3]
 ·by_cases h2 : Z6 text j = 38 ∧ Z6 text (j + 1) = 38
  ·have e : Z00 text j = 2 := by simp [Z00, h2]
   rw [e];have hl:=Z2v (text:=text) (i:=j + 1) (by omega);have b0:=Zo text (j:=j) (k:=j + 2) (i:=0) (by omega) (by omega);have b1:=Zo text (j:=j) (k:=j + 2) (i:=1) (by omega) (by omega);refine ⟨by omega,by omega,fun m h1 h2'=>?_,?_,fun _=>by rw [b0,Nat.add_zero],by rw [b0,Nat.add_zero]⟩
   ·have : m = j ∨ m = j + 1 := by omega
    rcases this with rfl | rfl <;> simp [Z07,h2]
   ·unfold Z00; rw [show 0 + 1=1 by rfl,show 0 + 2=2 by rfl,b0,b1,Nat.add_zero,Y3 (by omega),Y5 h2]
  ·by_cases h1 : Z6 text j = 124 ∧ Z6 text (j + 1) = 124
   ·have e : Z00 text j = 2 := by simp [Z00, h1]
    rw [e];have hl:=Z2v (text:=text) (i:=j + 1) (by omega);have b0:=Zo text (j:=j) (k:=j + 2) (i:=0) (by omega) (by omega);have b1:=Zo text (j:=j) (k:=j + 2) (i:=1) (by omega) (by omega);refine ⟨by omega,by omega,fun m h1' h2'=>?_,?_,fun _=>by rw [b0,Nat.add_zero],by rw [b0,Nat.add_zero]⟩
    ·have : m = j ∨ m = j + 1 := by omega
     rcases this with rfl | rfl <;> simp [Z07,h1]
    ·unfold Z00; rw [show 0 + 1=1 by rfl,show 0 + 2=2 by rfl,b0,b1,Nat.add_zero,Y3 (by omega),Y3 (by omega),Y5 h1]
   ·have e : Z00 text j = 1 := by simp [Z00, h3, h2, h1]
    have hs:=h e;rw [e];have hp:=Zfq hs;have hl:=Z2v hp.1;have b0:=Zo text (j:=j) (k:=j + 1) (i:=0) (by omega) (by omega);have b1:=Z2s (text:=text.extract j (j + 1)) (i:=1) (by rw [Z22 text (by omega)]; omega);refine ⟨by omega,by omega,fun m h1' h2'=>?_,?_,fun _=>by rw [b0,Nat.add_zero],by rw [b0,Nat.add_zero]⟩
    ·obtain rfl : m = j := by omega
     exact hp.2
    ·unfold Z00; rw [show 0 + 1=1 by rfl,show 0 + 2=2 by rfl,b1,Y3 (by omega),Y3 (by omega),Y3 (by omega)]
theorem Z1f (text:ByteArray) {j k:Nat} {t:Tok} (hj:j < text.size) (h:Z0k text j=.ok (t,k)) :
 j < k ∧ k ≤ text.size ∧ t.at' = j ∧ t.kind ≠ 6 ∧ Z07 (Z6 text j) = false ∧ Z07 (Z6 text (k - 1)) = false ∧
   Z0k (text.extract j k) 0=.ok ({ t with at':=0 },k - j):=by
 unfold Z0k at h;by_cases hl:Z0e (Z6 text j)=true
 ·rw [Y5 hl] at h;simp only at h;obtain ⟨K, hK⟩ : ∃ K, Zn Z1g text (text.size - j) j = K := ⟨_, rfl⟩
  rw [hK] at h;obtain ⟨s1,s2,s3,s4⟩:=Z0d Z1g text (text.size - j) j (Y0 _) (by omega);have hcut:=Z6h Z1g text hj hK;rw [hK] at s1 s2 s3 s4;have hjK:j < K:=by
   rcases Nat.lt_or_ge j K with h' | h';·exact h'
   ·have:=s4 (by omega);rw [show K=j by omega,Z3n hl] at this;cases this
  have hb0:Z6 (text.extract j K) 0=Z6 text j:=by rw [Zo text (by omega) s2,Nat.add_zero]
  have hbl:=Z1e (s3 (K - 1) (by omega) (by omega));have hall:(text.extract j K).extract 0 (K - j)=text.extract j K:=extract_all _ _ (Z22 text s2).symm;by_cases hw:Z27 (text.extract j K)=true
  ·rw [Y5 hw] at h;simp only [Except.ok.injEq,Prod.mk.injEq] at h;obtain ⟨rfl,rfl⟩:=h;refine ⟨hjK,s2,rfl,by simp,Z1e (Z3n hl),hbl,?_⟩;unfold Z0k;rw [hb0,Y5 hl];simp only [hcut,hall];rw [Y5 hw]
  ·rw [Y3 hw] at h;by_cases h20 : 20 < K - j;·rw [Y5 h20] at h; cases h
   ·rw [Y3 h20] at h;simp only [Except.ok.injEq,Prod.mk.injEq] at h;obtain ⟨rfl,rfl⟩:=h;refine ⟨hjK,s2,rfl,by simp,Z1e (Z3n hl),hbl,?_⟩;unfold Z0k;rw [hb0,Y5 hl];simp only [hcut,hall];rw [Y3 hw,Y3 (by omega)]
 rw [Y3 hl] at h;by_cases hd:Z08 (Z6 text j)=true
 ·rw [Y5 hd] at h;simp only at h;obtain ⟨K, hK⟩ : ∃ K, Zn Z08 text (text.size - j) j = K := ⟨_, rfl⟩
  rw [hK] at h;obtain ⟨s1,s2,s3,s4⟩:=Z0d Z08 text (text.size - j) j (Y0 _) (by omega);have hcut:=Z6h Z08 text hj hK;rw [hK] at s1 s2 s3 s4;have hjK:j < K:=by
   rcases Nat.lt_or_ge j K with h' | h';·exact h'
   ·have:=s4 (by omega);rw [show K=j by omega,hd] at this;cases this
  have hb0:Z6 (text.extract j K) 0=Z6 text j:=by rw [Zo text (by omega) s2,Nat.add_zero]
  have hbl:=Z1e (Z5c (s3 (K - 1) (by omega) (by omega)));have hnum:=Zft text (j:=j) s2 (K - j) j 0 (Y0 _);rw [Nat.sub_self] at hnum;by_cases h1:10 < K - j∨(1 < K - j∧Z6 text j=48);·rw [Y5 h1] at h; cases h
  rw [Y3 h1] at h;by_cases h2:1000000000 < numF text K (K - j) j 0;·rw [Y5 h2] at h; cases h
  rw [Y3 h2] at h;simp only [Except.ok.injEq,Prod.mk.injEq] at h;obtain ⟨rfl,rfl⟩:=h;refine ⟨hjK,s2,rfl,by simp,Z1e (Z5c hd),hbl,?_⟩;unfold Z0k;rw [hb0,Y3 hl,Y5 hd];simp only [hcut];simp only [Nat.sub_zero,hnum];rw [Y3 h1,Y3 h2]
 rw [Y3 hd] at h;by_cases hq:Z6 text j=39
 ·rw [Y5 hq] at h;obtain ⟨⟨bs, e, K⟩, hR⟩ : ∃ R, R = Z0t text (j + 1) := ⟨_, rfl⟩
  rw [← hR] at h;simp only at h;by_cases h4:e=4;·rw [Y5 h4] at h; cases h
  rw [Y3 h4] at h;by_cases h0:e≠0;·rw [Y5 h0] at h; cases h
  rw [Y3 h0] at h;simp only [ne_eq,Decidable.not_not] at h0;subst h0;simp only [Except.ok.injEq,Prod.mk.injEq] at h;obtain ⟨rfl,rfl⟩:=h;obtain ⟨g1,g2,g3,g4⟩:=Z9u text (j:=j) _ _ _ _ _ (by omega) hR.symm;refine ⟨by omega,g2,rfl,by simp,by rw [hq]; rfl,by rw [g3]; rfl,?_⟩;have hb0:Z6 (text.extract j K) 0=Z6 text j:=by rw [Zo text (by omega) g2,Nat.add_zero]
  have hqa:Z0t (text.extract j K) (0 + 1)=(bs,0,K - j):=by
   have:=g4 ((text.extract j K).size + 1 - (0 + 1)) (by rw [Z22 text g2]; omega);rw [show j + 1 - j=0 + 1 by omega] at this;exact this
  unfold Z0k;rw [hb0,Y3 hl,Y3 hd,Y5 hq,hqa];simp
 rw [Y3 hq] at h;by_cases hs:Z00 text j=1∧Z3u (Z6 text j)=false;·rw [Y5 hs] at h; cases h
 rw [Y3 hs] at h;simp only [Except.ok.injEq,Prod.mk.injEq] at h;obtain ⟨rfl,rfl⟩:=h;obtain ⟨g1,g2,g3,g4,g5,g6⟩:=Z9q text j (fun e=>by
  cases hb:Z3u (Z6 text j) with
  | true=>rfl
  | false=>exact absurd ⟨e,hb⟩ hs)
 refine ⟨by omega,g2,rfl,by simp,g3 j (Y0 _) (by omega),g3 _ (by omega) (by omega),?_⟩;have hall:(text.extract j (j + Z00 text j)).extract 0 (0 + Z00 text j)=text.extract j (j + Z00 text j):=extract_all _ _ (by rw [Z22 text g2]; omega);unfold Z0k;rw [g6,Y3 hl,Y3 hd,Y3 hq,g4,Y3 hs,hall];simp
def Z5x (text:ByteArray):Nat→List Tok→Prop
 | _,[]=>False
 | i,[t]=>text.size≤Zn Z07 text (text.size - i) i∧t=⟨6,ByteArray.empty,0,Zn Z07 text (text.size - i) i⟩
 | i,t :: u :: l=>∃ k,Zn Z07 text (text.size - i) i < text.size∧Z0k text (Zn Z07 text (text.size - i) i)=.ok (t,k)∧Z5x text k (u :: l)
theorem Zbj (text:ByteArray):∀ (f i:Nat) (acc l:List Tok),i≤text.size→text.size - i < f→lexF text f i acc=.ok l→∃ r,l=acc ++ r∧Z5x text i r:=by
 intro f;induction f with
 | zero=>intro i acc l _ h2; omega
 | succ f ih =>
   intro i acc l hi hf h;simp only [lexF] at h;obtain ⟨s1,s2,_,_⟩:=Z0d Z07 text (text.size - i) i (Y0 _) hi;by_cases hj:text.size≤Zn Z07 text (text.size - i) i
   ·rw [Y5 hj] at h;simp only [Except.ok.injEq] at h;exact ⟨_,h.symm,hj,rfl⟩
   ·rw [Y3 hj] at h;cases ht : Z0k text (Zn Z07 text (text.size - i) i) with
    | error e=>rw [ht] at h; cases h
    | ok x =>
      obtain ⟨t,k⟩:=x;rw [ht] at h;simp only at h;obtain ⟨c1,c2,_,_,_,_,_⟩:=Z1f text (by omega) ht;obtain ⟨r,hr,hS⟩:=ih k _ l c2 (by omega) h;refine ⟨t :: r,by simp [hr],?_⟩;cases r with
      | nil=>exact hS.elim
      | cons u r=>exact ⟨k,by omega,ht,hS⟩
theorem Zcu (text:ByteArray):∀ (r:List Tok) (f i:Nat) (acc:List Tok),i≤text.size→text.size - i < f→Z5x text i r→lexF text f i acc=.ok (acc ++ r):=by
 intro r;induction r with
 | nil=>intro f i acc _ _ h; exact h.elim
 | cons t r ih =>
   intro f i acc hi hf h;obtain ⟨g,rfl⟩:∃ g,f=g + 1:=⟨f - 1,by omega⟩
   obtain ⟨s1,s2,_,_⟩:=Z0d Z07 text (text.size - i) i (Y0 _) hi;simp only [lexF];cases r with
   | nil=>obtain ⟨h1,h2⟩:=h; rw [Y5 h1,h2]
   | cons u r =>
     obtain ⟨k,h1,h2,h3⟩:=h;rw [Y3 (by omega),h2];simp only;obtain ⟨c1,c2,_,_,_,_,_⟩:=Z1f text h1 h2;rw [ih g k _ c2 (by omega) h3];simp
theorem Z8w {text:ByteArray} {l:List Tok} (h:Z4y text=.ok l):Z5x text 0 l:=by
 obtain ⟨r,hr,hS⟩:=Zbj text _ 0 [] l (Yh _) (by omega) h;rw [hr]; exact hS
end Go.Proofs.YtfgpdfcpkibkoaaGreatDoor
