/- strings.Replacer at three bytes: a text with the pairs laid. -/
import Derived.Test.YtjcgkdfeplbajaaGreatDoorJ10
import Derived.Laws.CopyOwn
import Derived.Handy
import Derived.Shelf.Strconv.Itoa3
namespace Go.Proofs.YtjcgkdfeplbajaaGreatDoor
open Go Go.RowKit
set_option maxRecDepth 100000
set_option maxHeartbeats 20000000
set_option linter.unusedVariables false
def isE (c:UInt8):Bool:=c == 10 || c == 39 || c == 92
def nsp (l:List UInt8):Nat:=l.countP isE
theorem Z4y (c:UInt8):(escB c).length=1 + (if isE c then 1 else 0)∧(isE c=false→escB c=[c]):=by
 unfold escB isE;by_cases h1:c=92;·subst h1; exact ⟨rfl,fun h=>by cases h⟩
 by_cases h2:c=39;·subst h2; exact ⟨rfl,fun h=>by cases h⟩
 by_cases h3:c=10;·subst h3; exact ⟨rfl,fun h=>by cases h⟩
 rw [Y3 h1,Y3 h2,Y3 h3];refine ⟨?_,fun _=>rfl⟩;simp [h1,h2,h3]
theorem Z8z (l:List UInt8):(l.flatMap escB).length=l.length + nsp l:=by
 induction l with
 | nil=>rfl
 | cons c l ih =>
   rw [List.flatMap_cons,Yi,ih,(Z4y c).1];unfold nsp;rw [List.countP_cons,List.length_cons];omega
theorem Z9o {l:List UInt8} (h:nsp l=0):l.flatMap escB=l:=by
 induction l with
 | nil=>rfl
 | cons c l ih =>
   unfold nsp at h;rw [List.countP_cons] at h;have hc:isE c=false:=by
    cases hc:isE c with
    | false=>rfl
    | true=>rw [hc] at h; simp at h
   rw [List.flatMap_cons,(Z4y c).2 hc,ih (by unfold nsp; omega)];rfl
theorem Zc9 (l:List UInt8):nsp l=l.count 10 + l.count 39 + l.count 92:=by
 induction l with
 | nil=>rfl
 | cons c l ih =>
   unfold nsp at ih ⊢;rw [List.countP_cons,ih,List.count_cons,List.count_cons,List.count_cons];unfold isE;by_cases h1:c=92;·subst h1; simp; omega
   by_cases h2:c=39;·subst h2; simp; omega
   by_cases h3:c=10;·subst h3; simp; omega
   simp [h1,h2,h3]
theorem Ze6 {l:List UInt8} {k:Nat} {c:UInt8} (h:l[k]?=some c):nsp (l.take (k + 1))=nsp (l.take k) + (if isE c then 1 else 0):=by
 rw [List.take_add_one,h];unfold nsp;rw [List.countP_append];simp [List.countP_cons]
theorem Z7w {l:List UInt8} {k:Nat} {c:UInt8} (h:l[k]?=some c):(l.take (k + 1)).flatMap escB=(l.take k).flatMap escB ++ escB c:=by
 rw [List.take_add_one,h];simp
theorem Zf4 {B bb:Nat} {w:World} {v:Value} (c:UInt8) (h:Z3n B bb 3 w c.toNat v):(isE c=false∧v=.slice none 0 0) ∨
 ∃ e g cap,isE c=true∧escB c=[92,e]∧v=.slice (some ⟨g,0,none⟩) 2 cap∧2≤cap∧g < w.heap.size∧w.cell? ⟨g,0,none⟩=some (.int .u8 92)∧w.cell? ⟨g,1,none⟩=some (.int .u8 e.toNat):=by
 have key:∀ (q:Nat) (e:UInt8),ordR c.toNat=some (q,e)→q < 3→isE c=true→escB c=[92,e]→∃ e g cap,isE c=true∧escB c=[92,e]∧v=.slice (some ⟨g,0,none⟩) 2 cap∧2≤cap∧g < w.heap.size∧w.cell? ⟨g,0,none⟩=some (.int .u8 92)∧w.cell? ⟨g,1,none⟩=some (.int .u8 e.toNat):=by
  intro q e h1 h2 h3 h4;unfold Z3n at h;rw [h1] at h;simp only at h;rw [Y5 h2] at h;obtain ⟨g,cap,g1,g2,g3,g4,⟨cs,fz,g5⟩,g6,g7⟩:=h;exact ⟨e,g,cap,h3,h4,g1,g2,(Y1.1 g5).1,g6,g7⟩
 by_cases h1:c=92;·subst h1; exact .inr (key 2 92 rfl (by omega) rfl rfl)
 by_cases h2:c=39;·subst h2; exact .inr (key 1 39 rfl (by omega) rfl rfl)
 by_cases h3:c=10;·subst h3; exact .inr (key 0 110 rfl (by omega) rfl rfl)
 have ne:∀ k:UInt8,c≠k→c.toNat≠k.toNat:=fun k hk e=>hk (UInt8.toNat_inj.1 e);have n1:c.toNat≠92:=ne 92 h1;have n2:c.toNat≠39:=ne 39 h2;have n3:c.toNat≠10:=ne 10 h3;refine .inl ⟨by unfold isE; simp [h1,h2,h3],?_⟩;unfold Z3n ordR at h;rw [Y3 n3,Y3 n2,Y3 n1] at h;exact h
theorem row_one {Cb:Array Value} {F:List UInt8} {J:Nat} (h:Cb.toList.take J=Lib.byteCells F) (hJ:J < Cb.size) (hF:J=F.length) (c:UInt8):(Cb.setIfInBounds J (.int .u8 c.toNat)).toList.take (J + 1)=Lib.byteCells (F ++ [c]):=by
 rw [Array.toList_setIfInBounds,Lib.byteCells_append,← h,List.take_add_one,List.take_set_of_le (Y0 _)];congr 1
 simp [hJ,Lib.byteCells]
theorem Zbr {Cb:Array Value} {F:List UInt8} {J:Nat} (h:Cb.toList.take J=Lib.byteCells F) (hJ:J + 2≤Cb.size) (a b:UInt8) :
 ((Cb.toList.take J ++ ([Value.int .u8 a.toNat,Value.int .u8 b.toNat] ++ Cb.toList.drop (J + 2))).toArray).toList.take (J + 2)=Lib.byteCells (F ++ [a,b])∧((Cb.toList.take J ++ ([Value.int .u8 a.toNat,Value.int .u8 b.toNat] ++ Cb.toList.drop (J + 2))).toArray).size=Cb.size:=by
 have hl:(Cb.toList.take J).length=J:=by simp; omega
 refine ⟨?_,?_⟩
 ·rw [Lib.byteCells_append,← h];show List.take (J + 2) (Cb.toList.take J ++ _)=_;rw [List.take_append,hl,Ye (by omega)];simp [Lib.byteCells]
 ·simp; omega
theorem Z5z {w:World} {g:Nat} {cs:Array Value} {t:TypeId} {f:Nat×Nat} (h:w.heap[g]?=some (.cells cs t f)) (R:Array Value):(w.setRow g R).heap[g]?=some (.cells R t f):=by
 simp [World.setRow,Array.getElem?_modify,h]
theorem Zdk {B bb:Nat} {tv:Value} {C:Array Value} (w:World) (s:ByteArray) (h:RepK B bb 3 tv C w) (hs:s.size≤1000000) :
 Calls Tryz.prog 167 #[.pointer (some ⟨bb,0,none⟩),.string s] w fun e w'=>e=.returned (.string ⟨(s.data.toList.flatMap escB).toArray⟩)∧Below w.heap.size w w':=by
 obtain ⟨l,hl⟩:=zX s.data.toList
 have hsz:s.size=l.length:=by rw [hl]; simp
 have hget:∀ k c,l[k]?=some c→∃ hk:k < s.size,s[k]=c:=by
  intro k c hc;have hk:k < l.length:=(List.getElem?_eq_some_iff.1 hc).1;refine ⟨by omega,?_⟩;subst hl;rw [Y6 hk] at hc;exact Yc hc
 obtain ⟨g,cp,rfl,hcp⟩:∃ g cp,tv=.slice (some ⟨g,0,none⟩) 3 cp∧3≤cp:=by
  rcases Zm h.row with ⟨_,h2⟩ | ⟨g,cap,h1,h2,_⟩;·cases h2
  ·exact ⟨g,cap,h1,h2⟩
 have c256:w.cell? ⟨bb,256,none⟩=some (.slice (some ⟨g,0,none⟩) 3 cp):=by simp [World.cell?,h.blk,h.last]
 have k0:=Z65 h.row (g:=g) rfl (i:=0) (x:=.string ⟨#[10]⟩) rfl;have k1:=Z65 h.row (g:=g) rfl (i:=1) (x:=.string ⟨#[39]⟩) rfl;have k2:=Z65 h.row (g:=g) rfl (i:=2) (x:=.string ⟨#[92]⟩) rfl;have hbl:bb < w.heap.size:=(Y1.1 h.blk).1;have hgl:=(Y9 h.row g rfl).2
 have SL:Hid (∀ c:UInt8,∃ v,w.cell? ⟨bb,c.toNat,none⟩=some v∧((isE c=false∧v=.slice none 0 0) ∨
  ∃ e g cap,isE c=true∧escB c=[92,e]∧v=.slice (some ⟨g,0,none⟩) 2 cap∧2≤cap∧g < w.heap.size∧w.cell? ⟨g,0,none⟩=some (.int .u8 92)∧w.cell? ⟨g,1,none⟩=some (.int .u8 e.toNat))):=lh fun c=>by
  obtain ⟨v,h1,h2⟩:=h.at' c.toNat (by have:=c.toNat_lt; omega);exact ⟨v,by simp [World.cell?,h.blk,h1],Zf4 c h2⟩
 have HL:=lh hl;have HG:=lh hget;have hneq:=Z73;have HN:=lh hsz;have hc1:=Tryz.strings_Count_one s 10;have hc2:=Tryz.strings_Count_one s 39;have hc3:=Tryz.strings_Count_one s 92;rw [← hl] at hc1 hc2 hc3 ⊢;unfold Lib.countByte at hc1 hc2 hc3;have HC1:=lh hc1;have HC2:=lh hc2;have HC3:=lh hc3;have KK:Hid (∀ w',Below w.heap.size w w'→w'.cell? ⟨g,0,none⟩=some (.string ⟨#[10]⟩)∧w'.cell? ⟨g,1,none⟩=some (.string ⟨#[39]⟩)∧w'.cell? ⟨g,2,none⟩=some (.string ⟨#[92]⟩)∧w'.cell? ⟨bb,256,none⟩=some (.slice (some ⟨g,0,none⟩) 3 cp)):=
  lh fun w' h=>⟨(Yb (h.block g hgl)).trans k0,(Yb (h.block g hgl)).trans k1,(Yb (h.block g hgl)).trans k2,(Yb (h.block bb hbl)).trans c256⟩
 have ST:Hid (∀ c:UInt8,isE c=true→∃ g cap,∀ w',Below w.heap.size w w'→w'.cell? ⟨bb,c.toNat,none⟩=some (.slice (some ⟨g,0,none⟩) 2 cap)):=lh fun c hc=>by
  obtain ⟨v,h1,h2⟩:=SL.out c;rcases h2 with ⟨h2,_⟩ | ⟨e,g,cap,_,_,h3,_⟩;·rw [hc] at h2; cases h2
  ·exact ⟨g,cap,fun w' hw=>by rw [← h3]; exact (Yb (hw.block bb hbl)).trans h1⟩
 obtain ⟨n,hn⟩:=zX s.size
 have HZ:=lh hn;have HH:=lh h;clear h hl hget hc1 hc2 hc3;by_cases h24:24≤s.size
 ·have hb24 : (24 : Int) ≤ (s.size : Int) := by omega
  obtain ⟨g1,cap1,t1⟩:=ST.out 10 rfl;obtain ⟨g2,cap2,t2⟩:=ST.out 39 rfl;obtain ⟨g3,cap3,t3⟩:=ST.out 92 rfl;have T1:=lh t1;have T2:=lh t2;have T3:=lh t3;obtain ⟨c1,hc1⟩:=zX (l.count 10)
  obtain ⟨c2,hc2⟩:=zX (l.count 39)
  obtain ⟨c3,hc3⟩:=zX (l.count 92)
  rw [← hc1] at HC1;rw [← hc2] at HC2;rw [← hc3] at HC3;have b1:c1≤l.length:=by rw [hc1]; exact List.count_le_length
  have b2:c2≤l.length:=by rw [hc2]; exact List.count_le_length
  have b3:c3≤l.length:=by rw [hc3]; exact List.count_le_length
  obtain ⟨tt,htt⟩:∃ tt:Nat→Nat,tt=fun k=>if k=0 then 0 else if k=1 then c1 else if k=2 then c1 + c2 else c1 + c2 + c3:=⟨_,rfl⟩
  have e0:tt 0=0:=by rw [htt]; rfl
  have e1:tt 1=c1:=by rw [htt]; rfl
  have e2:tt 2=c1 + c2:=by rw [htt]; rfl
  have e3:tt 3=c1 + c2 + c3:=by rw [htt]; rfl
  have hsp:tt 3=nsp l:=by rw [Zc9,e3,hc1,hc2,hc3]
  have HSP:=lh hsp;have E0:=lh e0;have E1:=lh e1;have E2:=lh e2;have E3:=lh e3;have hlz:l.length≤1000000:=by omega
  clear hn t1 t2 t3 hc1 hc2 hc3 htt hsp hsz e0 e1 e2 e3;go_enter Tryz.func167,Tryz.ntmps167
  go_wp2_with fail
  go_loopw [5,6,32] (fun ns ch i wr=>∃ k:Nat,k≤3∧i=.int .i64 k∧ns=.int .i64 ((s.size:Int) + (tt k:Nat))∧ch=.bool (decide (tt k≠0))∧Hid (Below w.heap.size w wr)) (fun _ _ i _=>3 - (intOf i).toNat)
  case atStart=>exact ⟨0,by omega,rfl,by rw [E0.out]; simp,by rw [E0.out]; rfl,lh (Y2 _ _)⟩
  case round=>
   obtain ⟨k,hk,rfl,rfl,rfl,HB⟩:=hrel;obtain ⟨q0,q1,q2,q3⟩:=KK.out _ HB.out;have hk4:k=0∨k=1∨k=2∨k=3:=by omega
   rcases hk4 with rfl | rfl | rfl | rfl
   ·obtain ⟨m, hm⟩ := zX (tt 0)
    have hmb:m≤3000000:=by have:=E0.out; have:=E1.out; have:=E2.out; omega
    have hm2:tt 1=m + c1:=by have:=E0.out; have:=E1.out; have:=E2.out; have:=E3.out; omega
    rw [← hm];have HM2:=lh hm2;have tz:=T1.out _ HB.out;have bz:(({ data:=#[10] }:ByteArray)[0]'(by decide)).toNat=10:=rfl;have hz3:s.size≤1000000:=hs;clear hm hm2;by_cases hc:c1=0
    ·have hcb : ((c1 : Int) != 0) = false := by simp [hc]
     go_wp2_with fail
     refine (HC1.out _).mono ?_;rintro e w' ⟨rfl,rfl⟩;go_wp2_with fail
     go_roundw
     case rel=>exact ⟨1,by omega,rfl,by rw [HM2.out,hc]; simp,by rw [HM2.out,hc]; simp,HB⟩
     case measure=>decide
    ·have hcb : ((c1 : Int) != 0) = true := by simp; omega
     go_wp2_with fail
     refine (HC1.out _).mono ?_;rintro e w' ⟨rfl,rfl⟩;go_wp2_with fail
     refine Z4 [(true,0),(true,1),(true,2),(true,3),(true,4),(true,5),(true,6),(true,7),(true,8),(true,9),(true,10),(true,11)] [12,13] (fun W=>W.cell? ⟨bb,10,none⟩=some (.slice (some ⟨g1,0,none⟩) 2 cap1)) (by kernel_rfl) (by kernel_rfl) (fun _ _ d _ _ h=>by cases d <;> exact h) tz (fun hS0=>?_);simp only [Zj,zD,zE,zF,zG,zH,zI]
     iterate 12
      first
       | (refine Z7 ?_ (by rfl) (fun w' hS'=>?_) ?_; rotate_left; (have s0:=hS'; go_simp; first | done | with_reducible rfl); simp only [Act.put,zA,zB,zC])
       | (refine Z6 (by rfl) ?_; simp only [Act.put,zA,zB,zC])
     refine Zb ?_;go_wp2_with fail
     go_roundw
     case rel=>exact ⟨1,by omega,rfl,by rw [HM2.out]; congr 1; omega,by rw [HM2.out]; congr 1; exact (decide_eq_true (by omega)).symm,lh HB.out.drew⟩
     case measure=>decide
   ·obtain ⟨m, hm⟩ := zX (tt 1)
    have hmb:m≤3000000:=by have:=E0.out; have:=E1.out; have:=E2.out; omega
    have hm2:tt 2=m + c2:=by have:=E0.out; have:=E1.out; have:=E2.out; have:=E3.out; omega
    rw [← hm];have HM2:=lh hm2;have tz:=T2.out _ HB.out;have bz:(({ data:=#[39] }:ByteArray)[0]'(by decide)).toNat=39:=rfl;have hz3:s.size≤1000000:=hs;clear hm hm2;by_cases hc:c2=0
    ·have hcb : ((c2 : Int) != 0) = false := by simp [hc]
     go_wp2_with fail
     refine (HC2.out _).mono ?_;rintro e w' ⟨rfl,rfl⟩;go_wp2_with fail
     go_roundw
     case rel=>exact ⟨2,by omega,rfl,by rw [HM2.out,hc]; simp,by rw [HM2.out,hc]; simp,HB⟩
     case measure=>decide
    ·have hcb : ((c2 : Int) != 0) = true := by simp; omega
     go_wp2_with fail
     refine (HC2.out _).mono ?_;rintro e w' ⟨rfl,rfl⟩;go_wp2_with fail
     refine Z4 [(true,0),(true,1),(true,2),(true,3),(true,4),(true,5),(true,6),(true,7),(true,8),(true,9),(true,10),(true,11)] [12,13] (fun W=>W.cell? ⟨bb,39,none⟩=some (.slice (some ⟨g2,0,none⟩) 2 cap2)) (by kernel_rfl) (by kernel_rfl) (fun _ _ d _ _ h=>by cases d <;> exact h) tz (fun hS0=>?_);simp only [Zj,zD,zE,zF,zG,zH,zI]
     iterate 12
      first
       | (refine Z7 ?_ (by rfl) (fun w' hS'=>?_) ?_; rotate_left; (have s0:=hS'; go_simp; first | done | with_reducible rfl); simp only [Act.put,zA,zB,zC])
       | (refine Z6 (by rfl) ?_; simp only [Act.put,zA,zB,zC])
     refine Zb ?_;go_wp2_with fail
     go_roundw
     case rel=>exact ⟨2,by omega,rfl,by rw [HM2.out]; congr 1; omega,by rw [HM2.out]; congr 1; exact (decide_eq_true (by omega)).symm,lh HB.out.drew⟩
     case measure=>decide
   ·obtain ⟨m, hm⟩ := zX (tt 2)
    have hmb:m≤3000000:=by have:=E0.out; have:=E1.out; have:=E2.out; omega
    have hm2:tt 3=m + c3:=by have:=E0.out; have:=E1.out; have:=E2.out; have:=E3.out; omega
    rw [← hm];have HM2:=lh hm2;have tz:=T3.out _ HB.out;have bz:(({ data:=#[92] }:ByteArray)[0]'(by decide)).toNat=92:=rfl;have hz3:s.size≤1000000:=hs;clear hm hm2;by_cases hc:c3=0
    ·have hcb : ((c3 : Int) != 0) = false := by simp [hc]
     go_wp2_with fail
     refine (HC3.out _).mono ?_;rintro e w' ⟨rfl,rfl⟩;go_wp2_with fail
     go_roundw
     case rel=>exact ⟨3,by omega,rfl,by rw [HM2.out,hc]; simp,by rw [HM2.out,hc]; simp,HB⟩
     case measure=>decide
    ·have hcb : ((c3 : Int) != 0) = true := by simp; omega
     go_wp2_with fail
     refine (HC3.out _).mono ?_;rintro e w' ⟨rfl,rfl⟩;go_wp2_with fail
     refine Z4 [(true,0),(true,1),(true,2),(true,3),(true,4),(true,5),(true,6),(true,7),(true,8),(true,9),(true,10),(true,11)] [12,13] (fun W=>W.cell? ⟨bb,92,none⟩=some (.slice (some ⟨g3,0,none⟩) 2 cap3)) (by kernel_rfl) (by kernel_rfl) (fun _ _ d _ _ h=>by cases d <;> exact h) tz (fun hS0=>?_);simp only [Zj,zD,zE,zF,zG,zH,zI]
     iterate 12
      first
       | (refine Z7 ?_ (by rfl) (fun w' hS'=>?_) ?_; rotate_left; (have s0:=hS'; go_simp; first | done | with_reducible rfl); simp only [Act.put,zA,zB,zC])
       | (refine Z6 (by rfl) ?_; simp only [Act.put,zA,zB,zC])
     refine Zb ?_;go_wp2_with fail
     go_roundw
     case rel=>exact ⟨3,by omega,rfl,by rw [HM2.out]; congr 1; omega,by rw [HM2.out]; congr 1; exact (decide_eq_true (by omega)).symm,lh HB.out.drew⟩
     case measure=>decide
   ·obtain ⟨q, hq⟩ := zX (tt 3)
    rw [← hq] at HSP ⊢;have HQ:=HSP;have hqb:q≤3000000:=by have:=E3.out; omega
    clear hq E3 q0 q1 q2 q3 T1 T2 T3 HC1 HC2 HC3 b1 b2 b3;obtain ⟨wa,hwa⟩:=zX wr
    subst hwa;by_cases hq0:q=0
    ·have hd : decide (q ≠ 0) = false := by simp [hq0]
     rw [hd];go_wp2_with fail
     go_ret;exact ⟨by rw [Z9o (by rw [← HQ.out]; exact hq0),HL.out]; rfl,HB.out⟩
    have hd:decide (q≠0)=true:=by simp [hq0]
    obtain ⟨N,hN⟩:=zX (s.size + q)
    rw [hd,show ((s.size:Int) + (q:Nat))=((N:Nat):Int) by omega];have hfl:(l.flatMap escB).length=N:=by rw [Z8z,hN,HQ.out,HN.out]
    have hNb:N≤2000000:=by
     have h1:nsp l≤l.length:=List.countP_le_length;have:=HQ.out; have:=HN.out; omega
    have HFL:=lh hfl;obtain ⟨i0,hi,hz0,hz1,hz2⟩:=info_parts Tryz.infoU8;have hmk0:=run_makeSlice (P:=Tryz.prog) wa 53 5 i0 (.int .u8 0) Tryz.underlying53 hi hz0 .i64 .i64 (N:Int) (N:Int) (by omega) (Int.le_refl _) (by rw [hz1,Int.toNat_natCast]; omega) (by rw [hz2]; omega) (by omega);rw [Int.toNat_natCast,hz1,Nat.mul_one] at hmk0;have hmk:=hmk0;clear hmk0;obtain ⟨M,hM⟩:=zX (madeCells (Value.int .u8 0).cells N)
    rw [← hM] at hmk;have hMs:M.size=N:=by rw [hM]; exact size_madeCells _ _
    have HMS:=lh hMs;clear hM hMs hd hq0 hN hfl;have hnew:(wa.alloc (.cells M 5)).heap[wa.heap.size]?=some (.cells M 5 (0,0)):=(Go.MapKept.heap_alloc wa _).1;have HNEW:=lh hnew;have HBN:=lh ((Y2 wa.heap.size wa).alloc (Y0 _) (.cells M 5));obtain ⟨bz,hbz⟩:=zX wa.heap.size
    have hbz2:=lh hbz;rw [← hbz] at hmk HNEW HBN;clear hnew hbz;go_wp2_with fail
    go_loopw [13,14] (fun j i wx=>∃ (k:Nat) (Cb:Array Value),k≤s.size∧i=.int .i64 k∧j=.int .i64 (((l.take k).flatMap escB).length:Nat)∧Hid (wx.heap[bz]?=some (.cells Cb 5 (0,0)))∧Hid (Cb.size=N)∧Hid (Cb.toList.take ((l.take k).flatMap escB).length=Lib.byteCells ((l.take k).flatMap escB))∧Hid (Below bz wa wx)) (fun _ i _=>s.size - (intOf i).toNat)
    case atStart=>exact ⟨0,M,by omega,rfl,by simp,HNEW,HMS,lh (by simp [Lib.byteCells]),HBN⟩
    case round=>
     obtain ⟨k,Cb,hk,rfl,rfl,HCb,HSZ,HTK,HBx⟩:=hrel;clear HNEW HBN hmk;by_cases hkn:k < s.size
     ·obtain ⟨c, hc⟩ : ∃ c, l[k]? = some c := ⟨_, Y6 (by rw [← HN.out]; exact hkn)⟩
      obtain ⟨hk2,hsk⟩:=HG.out k c hc;obtain ⟨v,hv,hcase⟩:=SL.out c;have hbzw:w.heap.size≤bz:=by have:=HB.out.size; have:=hbz2.out; omega
      have hvx:wr.cell? ⟨bb,c.toNat,none⟩=some v:=(Yb ((HBx.out.block bb (by omega)).trans (HB.out.block bb hbl))).trans hv;have hclt:=c.toNat_lt;have hix:(s[k]'hk2).toNat=c.toNat:=by rw [hsk]
      have hft:=Z7w hc;obtain ⟨J,hJ⟩:=zX (((l.take k).flatMap escB).length)
      have hJ2:((l.take (k + 1)).flatMap escB).length=J + (escB c).length:=by rw [hft,Yi,← hJ]
      have hJN:J + (escB c).length≤N:=by
       rw [← hJ2,← HFL.out];have:l.flatMap escB=(l.take (k + 1)).flatMap escB ++ (l.drop (k + 1)).flatMap escB:=by rw [← List.flatMap_append,List.take_append_drop]
       rw [this,Yi]; omega
      have HJJ:=lh hJ;rw [← hJ] at HTK ⊢;have HJ2:=lh hJ2;have HFT:=lh hft;have hfr:∀ q,wr.frozen? ⟨bz,q,none⟩=false:=fun q=>Lib.frozen_of_heap HCb.out q;have hcs:∀ q,q < N→(wr.cell? ⟨bz,q,none⟩).isSome=true:=fun q hq=>by
       simp [World.cell?,HCb.out];have:=HSZ.out;omega
      have e1:=(Z4y c).1;rcases hcase with ⟨hE,rfl⟩ | ⟨e,g9,cap9,hE,hes,rfl,hc9,hg9,x0,x1⟩
      ·rw [hE] at e1;obtain ⟨u, hu⟩ := Option.isSome_iff_exists.1 (hcs J (by simp at e1; omega));have hf := hfr J;clear hft hJ hJ2 hfr hcs hsk;go_wp2_with fail
       go_roundw
       case rel=>
        have hfe:=(Z4y c).2 hE;refine ⟨k + 1,Cb.setIfInBounds J (.int .u8 c.toNat),by omega,rfl,?_,lh (Z3i HCb.out J _),lh (by rw [Array.size_setIfInBounds]; exact HSZ.out),lh ?_,lh (HBx.out.setCell (Y0 _) _)⟩;·rw [HJ2.out,hfe]; rfl
        ·rw [HJ2.out,HFT.out,hfe];exact row_one HTK.out (by have:=HSZ.out; rw [hfe] at hJN; simp at hJN; omega) HJJ.out c
       case measure=>simp [intOf]; omega
      ·rw [hes] at hJN;simp only [List.length_cons, List.length_nil] at hJN;have y0 : wr.cell? ⟨g9, 0, none⟩ = some (.int .u8 92) := (Yb ((HBx.out.block g9 (by omega)).trans (HB.out.block g9 hg9))).trans x0;have y1 : wr.cell? ⟨g9, 1, none⟩ = some (.int .u8 e.toNat) := (Yb ((HBx.out.block g9 (by omega)).trans (HB.out.block g9 hg9))).trans x1;have hcI : ((c.toNat : Nat) : Int) < 256 := by omega
       have hcJ:(0:Int)≤((c.toNat:Nat):Int):=by omega
       have hJI:((J:Nat):Int)≤(N:Int):=by omega
       have hJK:(0:Int)≤((J:Nat):Int):=by omega
       have hNJ:(N=J)=False:=by simp; omega
       have hcopy0:=run_copy_row (P:=Tryz.prog) wr.drew 53 53 3 5 bz J (N - J) (N - J) ⟨g9,0,none⟩ 2 cap9 Cb 5 [.int .u8 92,.int .u8 e.toNat] Tryz.underlying53 (by kernel_rfl) HCb.out
        (by show 2 = Nat.min 2 (N - J); exact (Nat.min_eq_left (by omega)).symm) (fun j v hj => by
         rw [show (⟨g9,0,none⟩:Addr).add j=⟨g9,j,none⟩ by unfold Addr.add; split <;> simp_all];match j,hj with
         | 0,hj=>simp at hj; subst hj; exact y0
         | 1,hj=>simp at hj; subst hj; exact y1) (by have:=HSZ.out; simp; omega) (by intro v hv; simp at hv; rcases hv with rfl | rfl <;> rfl)
       obtain ⟨R,hR⟩:=zX ((Cb.toList.take J ++ [Value.int .u8 92,Value.int .u8 e.toNat] ++ Cb.toList.drop (J + 2)).toArray)
       have hcopy:(Builtin.copy_ #[53,53] 3 #[.slice (some ⟨bz,J,none⟩) (N - J) (N - J),.slice (some ⟨g9,0,none⟩) 2 cap9]).run Tryz.prog wr.drew=.ok (.int .i64 2) (wr.drew.setRow bz R):=by rw [hR]; exact hcopy0
       have hrt:=Zbr HTK.out (by have:=HSZ.out; omega) 92 e;rw [← List.append_assoc] at hrt;have hRT:R.toList.take (J + 2)=Lib.byteCells ((l.take k).flatMap escB ++ [92,e]):=by rw [hR]; exact hrt.1
       have HRT:=lh hRT;have HRS:=lh (show R.size=N by rw [hR]; exact hrt.2.trans HSZ.out);have HES:=lh hes;have HSR:=lh (below_setRow (B:=bz) (Y2 bz wr) (Y0 _) R);clear hft hJ hJ2 hfr hcs hsk x0 x1 hcopy0 hR hrt hRT hes;go_wp2_with fail
       refine Z4 [(true,0),(true,1),(true,2),(true,3),(true,4),(true,5),(true,6),(true,7),(true,8),(true,9),(false,10)] [11,12] (fun W=>W.cell? ⟨bb,c.toNat,none⟩=some (.slice (some ⟨g9,0,none⟩) 2 cap9)) (by kernel_rfl) (by kernel_rfl) (fun _ _ d _ _ h=>by cases d <;> exact h) hvx (fun hS0=>?_);simp only [Zj,zD,zE,zF,zG,zH,zI]
       iterate 10
        first
         | (refine Z7 ?_ (by rfl) (fun w' hS'=>?_) ?_; rotate_left; (have s0:=hS'; go_simp; first | done | with_reducible rfl); simp only [Act.put,zA,zB,zC])
         | (refine Z6 (by rfl) ?_; simp only [Act.put,zA,zB,zC])
       refine Zd (fun K hK=>?_);go_simp
       refine hK _ _ ((Yb (setRow_other wr bz bb R (by omega))).trans hvx) ?_;refine Zb ?_;go_wp2_with fail
       go_roundw
       case rel=>
        have z1:Value.int .i64 ((J:Int) + 2)=.int .i64 (((l.take (k + 1)).flatMap escB).length:Nat):=by rw [HJ2.out,HES.out]; rfl
        have z2:R.toList.take ((l.take (k + 1)).flatMap escB).length=Lib.byteCells ((l.take (k + 1)).flatMap escB):=by
         rw [HJ2.out,HFT.out,HES.out];exact HRT.out
        have z3:Below bz wa (wr.setRow bz R).drew:=HBx.out.trans (HSR.out.drew);have Z1:=lh z2;have Z2:=lh z3;have Z3:=lh (Z5z HCb.out R)
        first
         | exact ⟨k + 1,R,by omega,rfl,z1,Z3,HRS,Z1,Z2⟩
         | ((repeat (apply Exists.intro)); exact ⟨⟨k + 1,R,by omega,rfl,z1,Z3,HRS,Z1,Z2⟩,rfl⟩)
       case measure=>simp [intOf]; omega
     ·have hks : k = s.size := by omega
      subst hks;have htl:l.take s.size=l:=Ye (by rw [HN.out]; exact Y0 _);rw [htl] at HTK ⊢;rw [HFL.out] at HTK ⊢;have hcv0:=run_convert_bytes_back (P:=Tryz.prog) wr 53 9 5 ⟨bz,0,none⟩ N (l.flatMap escB) Tryz.underlying53 Tryz.underlying5 Yj (fun j hj=>by
       rw [show (⟨bz,0,none⟩:Addr).add j=⟨bz,j,none⟩ by unfold Addr.add; split <;> simp_all];have h1:(Cb.toList.take N)[j]?=(Lib.byteCells (l.flatMap escB))[j]?:=by rw [HTK.out]
       have hjN:j < N:=by rw [← HFL.out]; exact hj
       rw [List.getElem?_take,Y5 hjN] at h1;simp only [World.cell?,HCb.out];rw [← Array.getElem?_toList,h1];simp only [Lib.byteCells,List.getElem?_map,List.getElem?_eq_getElem hj,Option.map_some];rfl)
      rw [HFL.out] at hcv0;have hcv:=hcv0;clear hcv0;go_wp2_with fail
      go_ret;exact ⟨rfl,HB.out.trans ((HBx.out).mono (by have:=HB.out.size; have:=hbz2.out; omega))⟩
 ·have hb24 : ¬ ((24 : Int) ≤ (s.size : Int)) := by omega
  have hlz:l.length≤1000000:=by omega
  clear hn hsz;go_enter Tryz.func167,Tryz.ntmps167
  go_wp2_with fail
  go_loopw [5,6,10] (fun ns ch i wr=>∃ (k:Nat) (m:Nat),k≤s.size∧i=.int .i64 k∧ns=.int .i64 ((s.size:Int) + (m:Nat))∧ch=.bool (decide (m≠0))∧Hid (m=nsp (l.take k))∧Hid (Below w.heap.size w wr)) (fun _ _ i _=>s.size - (intOf i).toNat)
  case atStart=>exact ⟨0,0,by omega,rfl,by simp,rfl,lh rfl,lh (Y2 _ _)⟩
  case round=>
   obtain ⟨k,m,hk,rfl,rfl,rfl,HM,HB⟩:=hrel;have hmb:m≤1000000:=by
    have h1:nsp (l.take k)≤(l.take k).length:=List.countP_le_length;have:=HM.out; simp at h1; omega
   by_cases hkn:k < s.size
   ·obtain ⟨c, hc⟩ : ∃ c, l[k]? = some c := ⟨_, Y6 (by rw [← HN.out]; exact hkn)⟩
    obtain ⟨hk2,hsk⟩:=HG.out k c hc;obtain ⟨v,hv,hcase⟩:=SL.out c;have hvx:wr.cell? ⟨bb,c.toNat,none⟩=some v:=(Yb (HB.out.block bb hbl)).trans hv;have hclt:=c.toNat_lt;have hix:(s[k]'hk2).toNat=c.toNat:=by rw [hsk]
    have hm2:=Ze6 hc;rw [← HM.out] at hm2;have HM2:=lh hm2;clear hm2 hsk;rcases hcase with ⟨hE,rfl⟩ | ⟨e,g9,cap9,hE,hes,rfl,hc9,hg9,x0,x1⟩
    ·rw [hE] at HM2;go_wp2_with fail
     go_roundw
     case rel=>exact ⟨k + 1,m,by omega,rfl,rfl,rfl,lh (by rw [HM2.out]; simp),HB⟩
     case measure=>simp [intOf]; omega
    ·rw [hE] at HM2;go_wp2_with fail
     go_roundw
     case rel=>exact ⟨k + 1,m + 1,by omega,rfl,by first | rfl | (congr 1; omega),by simp,lh (by rw [HM2.out]; simp),HB⟩
     case measure=>simp [intOf]; omega
   ·have hks : k = s.size := by omega
    subst hks;have htl:l.take s.size=l:=Ye (by rw [HN.out]; exact Y0 _);rw [htl] at HM;obtain ⟨q,hq⟩:=zX m
    subst hq;have HQ:=HM;have hqb:q≤3000000:=by omega
    clear htl hmb HC1 HC2 HC3;obtain ⟨wa,hwa⟩:=zX wr
    subst hwa;by_cases hq0:q=0
    ·have hd : decide (q ≠ 0) = false := by simp [hq0]
     rw [hd];go_wp2_with fail
     go_ret;exact ⟨by rw [Z9o (by rw [← HQ.out]; exact hq0),HL.out]; rfl,HB.out⟩
    have hd:decide (q≠0)=true:=by simp [hq0]
    obtain ⟨N,hN⟩:=zX (s.size + q)
    rw [hd,show ((s.size:Int) + (q:Nat))=((N:Nat):Int) by omega];have hfl:(l.flatMap escB).length=N:=by rw [Z8z,hN,HQ.out,HN.out]
    have hNb:N≤2000000:=by
     have h1:nsp l≤l.length:=List.countP_le_length;have:=HQ.out; have:=HN.out; omega
    have HFL:=lh hfl;obtain ⟨i0,hi,hz0,hz1,hz2⟩:=info_parts Tryz.infoU8;have hmk0:=run_makeSlice (P:=Tryz.prog) wa 53 5 i0 (.int .u8 0) Tryz.underlying53 hi hz0 .i64 .i64 (N:Int) (N:Int) (by omega) (Int.le_refl _) (by rw [hz1,Int.toNat_natCast]; omega) (by rw [hz2]; omega) (by omega);rw [Int.toNat_natCast,hz1,Nat.mul_one] at hmk0;have hmk:=hmk0;clear hmk0;obtain ⟨M,hM⟩:=zX (madeCells (Value.int .u8 0).cells N)
    rw [← hM] at hmk;have hMs:M.size=N:=by rw [hM]; exact size_madeCells _ _
    have HMS:=lh hMs;clear hM hMs hd hq0 hN hfl;have hnew:(wa.alloc (.cells M 5)).heap[wa.heap.size]?=some (.cells M 5 (0,0)):=(Go.MapKept.heap_alloc wa _).1;have HNEW:=lh hnew;have HBN:=lh ((Y2 wa.heap.size wa).alloc (Y0 _) (.cells M 5));obtain ⟨bz,hbz⟩:=zX wa.heap.size
    have hbz2:=lh hbz;rw [← hbz] at hmk HNEW HBN;clear hnew hbz;go_wp2_with fail
    go_loopw [13,14] (fun j i wx=>∃ (k:Nat) (Cb:Array Value),k≤s.size∧i=.int .i64 k∧j=.int .i64 (((l.take k).flatMap escB).length:Nat)∧Hid (wx.heap[bz]?=some (.cells Cb 5 (0,0)))∧Hid (Cb.size=N)∧Hid (Cb.toList.take ((l.take k).flatMap escB).length=Lib.byteCells ((l.take k).flatMap escB))∧Hid (Below bz wa wx)) (fun _ i _=>s.size - (intOf i).toNat)
    case atStart=>exact ⟨0,M,by omega,rfl,by simp,HNEW,HMS,lh (by simp [Lib.byteCells]),HBN⟩
    case round=>
     obtain ⟨k,Cb,hk,rfl,rfl,HCb,HSZ,HTK,HBx⟩:=hrel;clear HNEW HBN hmk;by_cases hkn:k < s.size
     ·obtain ⟨c, hc⟩ : ∃ c, l[k]? = some c := ⟨_, Y6 (by rw [← HN.out]; exact hkn)⟩
      obtain ⟨hk2,hsk⟩:=HG.out k c hc;obtain ⟨v,hv,hcase⟩:=SL.out c;have hbzw:w.heap.size≤bz:=by have:=HB.out.size; have:=hbz2.out; omega
      have hvx:wr.cell? ⟨bb,c.toNat,none⟩=some v:=(Yb ((HBx.out.block bb (by omega)).trans (HB.out.block bb hbl))).trans hv;have hclt:=c.toNat_lt;have hix:(s[k]'hk2).toNat=c.toNat:=by rw [hsk]
      have hft:=Z7w hc;obtain ⟨J,hJ⟩:=zX (((l.take k).flatMap escB).length)
      have hJ2:((l.take (k + 1)).flatMap escB).length=J + (escB c).length:=by rw [hft,Yi,← hJ]
      have hJN:J + (escB c).length≤N:=by
       rw [← hJ2,← HFL.out];have:l.flatMap escB=(l.take (k + 1)).flatMap escB ++ (l.drop (k + 1)).flatMap escB:=by rw [← List.flatMap_append,List.take_append_drop]
       rw [this,Yi]; omega
      have HJJ:=lh hJ;rw [← hJ] at HTK ⊢;have HJ2:=lh hJ2;have HFT:=lh hft;have hfr:∀ q,wr.frozen? ⟨bz,q,none⟩=false:=fun q=>Lib.frozen_of_heap HCb.out q;have hcs:∀ q,q < N→(wr.cell? ⟨bz,q,none⟩).isSome=true:=fun q hq=>by
       simp [World.cell?,HCb.out];have:=HSZ.out;omega
      have e1:=(Z4y c).1;rcases hcase with ⟨hE,rfl⟩ | ⟨e,g9,cap9,hE,hes,rfl,hc9,hg9,x0,x1⟩
      ·rw [hE] at e1;obtain ⟨u, hu⟩ := Option.isSome_iff_exists.1 (hcs J (by simp at e1; omega));have hf := hfr J;clear hft hJ hJ2 hfr hcs hsk;go_wp2_with fail
       go_roundw
       case rel=>
        have hfe:=(Z4y c).2 hE;refine ⟨k + 1,Cb.setIfInBounds J (.int .u8 c.toNat),by omega,rfl,?_,lh (Z3i HCb.out J _),lh (by rw [Array.size_setIfInBounds]; exact HSZ.out),lh ?_,lh (HBx.out.setCell (Y0 _) _)⟩;·rw [HJ2.out,hfe]; rfl
        ·rw [HJ2.out,HFT.out,hfe];exact row_one HTK.out (by have:=HSZ.out; rw [hfe] at hJN; simp at hJN; omega) HJJ.out c
       case measure=>simp [intOf]; omega
      ·rw [hes] at hJN;simp only [List.length_cons, List.length_nil] at hJN;have y0 : wr.cell? ⟨g9, 0, none⟩ = some (.int .u8 92) := (Yb ((HBx.out.block g9 (by omega)).trans (HB.out.block g9 hg9))).trans x0;have y1 : wr.cell? ⟨g9, 1, none⟩ = some (.int .u8 e.toNat) := (Yb ((HBx.out.block g9 (by omega)).trans (HB.out.block g9 hg9))).trans x1;have hcI : ((c.toNat : Nat) : Int) < 256 := by omega
       have hcJ:(0:Int)≤((c.toNat:Nat):Int):=by omega
       have hJI:((J:Nat):Int)≤(N:Int):=by omega
       have hJK:(0:Int)≤((J:Nat):Int):=by omega
       have hNJ:(N=J)=False:=by simp; omega
       have hcopy0:=run_copy_row (P:=Tryz.prog) wr.drew 53 53 3 5 bz J (N - J) (N - J) ⟨g9,0,none⟩ 2 cap9 Cb 5 [.int .u8 92,.int .u8 e.toNat] Tryz.underlying53 (by kernel_rfl) HCb.out
        (by show 2 = Nat.min 2 (N - J); exact (Nat.min_eq_left (by omega)).symm) (fun j v hj => by
         rw [show (⟨g9,0,none⟩:Addr).add j=⟨g9,j,none⟩ by unfold Addr.add; split <;> simp_all];match j,hj with
         | 0,hj=>simp at hj; subst hj; exact y0
         | 1,hj=>simp at hj; subst hj; exact y1) (by have:=HSZ.out; simp; omega) (by intro v hv; simp at hv; rcases hv with rfl | rfl <;> rfl)
       obtain ⟨R,hR⟩:=zX ((Cb.toList.take J ++ [Value.int .u8 92,Value.int .u8 e.toNat] ++ Cb.toList.drop (J + 2)).toArray)
       have hcopy:(Builtin.copy_ #[53,53] 3 #[.slice (some ⟨bz,J,none⟩) (N - J) (N - J),.slice (some ⟨g9,0,none⟩) 2 cap9]).run Tryz.prog wr.drew=.ok (.int .i64 2) (wr.drew.setRow bz R):=by rw [hR]; exact hcopy0
       have hrt:=Zbr HTK.out (by have:=HSZ.out; omega) 92 e;rw [← List.append_assoc] at hrt;have hRT:R.toList.take (J + 2)=Lib.byteCells ((l.take k).flatMap escB ++ [92,e]):=by rw [hR]; exact hrt.1
       have HRT:=lh hRT;have HRS:=lh (show R.size=N by rw [hR]; exact hrt.2.trans HSZ.out);have HES:=lh hes;have HSR:=lh (below_setRow (B:=bz) (Y2 bz wr) (Y0 _) R);clear hft hJ hJ2 hfr hcs hsk x0 x1 hcopy0 hR hrt hRT hes;go_wp2_with fail
       refine Z4 [(true,0),(true,1),(true,2),(true,3),(true,4),(true,5),(true,6),(true,7),(true,8),(true,9),(false,10)] [11,12] (fun W=>W.cell? ⟨bb,c.toNat,none⟩=some (.slice (some ⟨g9,0,none⟩) 2 cap9)) (by kernel_rfl) (by kernel_rfl) (fun _ _ d _ _ h=>by cases d <;> exact h) hvx (fun hS0=>?_);simp only [Zj,zD,zE,zF,zG,zH,zI]
       iterate 10
        first
         | (refine Z7 ?_ (by rfl) (fun w' hS'=>?_) ?_; rotate_left; (have s0:=hS'; go_simp; first | done | with_reducible rfl); simp only [Act.put,zA,zB,zC])
         | (refine Z6 (by rfl) ?_; simp only [Act.put,zA,zB,zC])
       refine Zd (fun K hK=>?_);go_simp
       refine hK _ _ ((Yb (setRow_other wr bz bb R (by omega))).trans hvx) ?_;refine Zb ?_;go_wp2_with fail
       go_roundw
       case rel=>
        have z1:Value.int .i64 ((J:Int) + 2)=.int .i64 (((l.take (k + 1)).flatMap escB).length:Nat):=by rw [HJ2.out,HES.out]; rfl
        have z2:R.toList.take ((l.take (k + 1)).flatMap escB).length=Lib.byteCells ((l.take (k + 1)).flatMap escB):=by
         rw [HJ2.out,HFT.out,HES.out];exact HRT.out
        have z3:Below bz wa (wr.setRow bz R).drew:=HBx.out.trans (HSR.out.drew);have Z1:=lh z2;have Z2:=lh z3;have Z3:=lh (Z5z HCb.out R)
        first
         | exact ⟨k + 1,R,by omega,rfl,z1,Z3,HRS,Z1,Z2⟩
         | ((repeat (apply Exists.intro)); exact ⟨⟨k + 1,R,by omega,rfl,z1,Z3,HRS,Z1,Z2⟩,rfl⟩)
       case measure=>simp [intOf]; omega
     ·have hks : k = s.size := by omega
      subst hks;have htl:l.take s.size=l:=Ye (by rw [HN.out]; exact Y0 _);rw [htl] at HTK ⊢;rw [HFL.out] at HTK ⊢;have hcv0:=run_convert_bytes_back (P:=Tryz.prog) wr 53 9 5 ⟨bz,0,none⟩ N (l.flatMap escB) Tryz.underlying53 Tryz.underlying5 Yj (fun j hj=>by
       rw [show (⟨bz,0,none⟩:Addr).add j=⟨bz,j,none⟩ by unfold Addr.add; split <;> simp_all];have h1:(Cb.toList.take N)[j]?=(Lib.byteCells (l.flatMap escB))[j]?:=by rw [HTK.out]
       have hjN:j < N:=by rw [← HFL.out]; exact hj
       rw [List.getElem?_take,Y5 hjN] at h1;simp only [World.cell?,HCb.out];rw [← Array.getElem?_toList,h1];simp only [Lib.byteCells,List.getElem?_map,List.getElem?_eq_getElem hj,Option.map_some];rfl)
      rw [HFL.out] at hcv0;have hcv:=hcv0;clear hcv0;go_wp2_with fail
      go_ret;exact ⟨rfl,HB.out.trans ((HBx.out).mono (by have:=HB.out.size; have:=hbz2.out; omega))⟩
end Go.Proofs.YtjcgkdfeplbajaaGreatDoor
namespace Go.Proofs.YtjcgkdfeplbajaaGreatDoor
open Go Go.RowKit
set_option maxRecDepth 100000
set_option maxHeartbeats 20000000
set_option linter.unusedVariables false
theorem RepK.keep {B bb k:Nat} {tv:Value} {C:Array Value} {w w':World} (h:RepK B bb k tv C w) (hk:∀ g,B≤g→g < w.heap.size→w'.heap[g]?=w.heap[g]?):RepK B bb k tv C w' where
 blk:=(hk bb h.low (Y1.1 h.blk).1).trans h.blk
 sz:=h.sz
 last:=h.last
 row:=Zr h.row fun g hg=>hk g (Y9 h.row g hg).1 (Y9 h.row g hg).2
 ne:=h.ne
 low:=h.low
 at' i hi:=by
  obtain ⟨v,h1,h2⟩:=h.at' i hi;refine ⟨v,h1,?_⟩;unfold Z3n at h2 ⊢;split
  ·rename_i q e he;rw [he] at h2;simp only at h2;split
   ·rename_i hq;rw [Y5 hq] at h2;obtain ⟨g,cap,h3,h4,h5,h6,⟨cs,fz,h7⟩,h8,h9⟩:=h2;have hg:=hk g h6 (Y1.1 h7).1;exact ⟨g,cap,h3,h4,h5,h6,⟨cs,fz,hg.trans h7⟩,(Yb hg).trans h8,(Yb hg).trans h9⟩
   ·rename_i hq;rw [Y3 hq] at h2;exact h2
  ·rename_i he;rw [he] at h2;exact h2
theorem Za8 (rb Bq B:Nat) (ov:Value) (w:World) (hrb:w.heap[rb]?=some (.cells #[.int .u32 0,.int .i32 1,.int .u32 0,.nilIface,ov] 141 (0,0))) (ho:w.ownsRow B 9 1 ov 6 (Z46.map Value.string)) (hB:Bq≤rb) :
 Calls Tryz.prog 72 #[.pointer (some ⟨rb,0,none⟩)] w fun e w'=>e=.returned (.tuple #[])∧∃ bb tv C,w'.heap[rb]?=some (.cells #[.int .u32 0,.int .i32 1,.int .u32 0,.iface 174 (.pointer (some ⟨bb,0,none⟩)),.slice none 0 0] 141 (0,0)) ∧
  RepK w.heap.size bb 3 tv C w'∧Below Bq w w':=by
 have HC:=lh (Zb1 rb ov w B hrb ho);have hlt:rb < w.heap.size:=(Y1.1 hrb).1;have HR:=lh hrb;clear hrb ho;go_enter Tryz.func72,Tryz.ntmps72
 go_wp2_with fail
 refine HC.out.mono ?_;rintro e w1 ⟨bb,tv,C,rfl,hk,hb⟩;have hr1:w1.heap[rb]?=_:=(hb.block rb hlt).trans HR.out;have c3:w1.cell? ⟨rb,3,none⟩=some .nilIface:=by simp [World.cell?,hr1]
 have c4:w1.cell? ⟨rb,4,none⟩=some ov:=by simp [World.cell?,hr1]
 have f3:w1.frozen? ⟨rb,3,none⟩=false:=Lib.frozen_of_heap hr1 3;have f4:w1.frozen? ⟨rb,4,none⟩=false:=Lib.frozen_of_heap hr1 4;have HR1:=lh hr1;have HK:=lh hk;have HB:=lh hb;clear hr1 hk hb;go_wp2;first | go_end0 | refine bodyPost_ret (results_none rfl _ _ _) rfl ?_
 refine ⟨rfl,bb,tv,C,?_,HK.out.keep fun g hg _=>?_,((HB.out.mono (by omega)).setCell (p:=⟨rb,3,none⟩) hB _).setCell (p:=⟨rb,4,none⟩) hB _⟩;·exact Z3i (Z3i HR1.out 3 _) 4 _
 ·rw [Y8 _ _ _ _ (by show g≠rb; omega),Y8 _ _ _ _ (by show g≠rb; omega)]
theorem Zc7 (rb Bq B:Nat) (ov:Value) (w:World) (hrb:w.heap[rb]?=some (.cells #[.int .u32 0,.int .i32 0,.int .u32 0,.nilIface,ov] 141 (0,0))) (ho:w.ownsRow B 9 1 ov 6 (Z46.map Value.string)) (hne:ov.ownBlock≠some rb) (hB:Bq≤rb) :
 Calls Tryz.prog 80 #[.pointer (some ⟨rb,0,none⟩),.func (.func 72) #[.pointer (some ⟨rb,0,none⟩)] #[]] w fun e w'=>e=.returned (.tuple #[])∧∃ bb tv C,w'.heap[rb]?=some (.cells #[.int .u32 1,.int .i32 0,.int .u32 0,.iface 174 (.pointer (some ⟨bb,0,none⟩)),.slice none 0 0] 141 (0,0)) ∧
  (∃ B',RepK B' bb 3 tv C w')∧Below Bq w w':=by
 have h0:w.cell? ⟨rb,0,none⟩=some (.int .u32 0):=by simp [World.cell?,hrb]
 have h1:w.cell? ⟨rb,1,none⟩=some (.int .i32 0):=by simp [World.cell?,hrb]
 have f0:w.frozen? ⟨rb,0,none⟩=false:=Lib.frozen_of_heap hrb 0;have f1:w.frozen? ⟨rb,1,none⟩=false:=Lib.frozen_of_heap hrb 1;obtain ⟨w1,hw1⟩:=zX (w.setCell ⟨rb,1,none⟩ (.int .i32 1))
 have hlt:rb < w.heap.size:=(Y1.1 hrb).1;have hr1:w1.heap[rb]?=some (.cells #[.int .u32 0,.int .i32 1,.int .u32 0,.nilIface,ov] 141 (0,0)):=by rw [hw1]; exact Z3i hrb 1 _
 have ho1:w1.ownsRow B 9 1 ov 6 (Z46.map Value.string):=Zr ho fun g hg=>by rw [hw1,Y8 _ _ _ _ (by show g≠rb; intro e; exact hne (by rw [hg,e]))]
 have HC:=lh (Za8 rb Bq B ov w1 hr1 ho1 hB);have HB1:Hid (Below Bq w w1):=lh (by rw [hw1]; exact (Y2 _ _).setCell (p:=⟨rb,1,none⟩) hB _);have c0:w1.cell? ⟨rb,0,none⟩=some (.int .u32 0):=by simp [World.cell?,hr1]
 have hl:=run_call_load (P:=Tryz.prog) Tryz.func88 (by kernel_rfl) (by kernel_rfl) (by kernel_rfl) .u32 (by kernel_rfl) (w:=w1) (a:=⟨rb,0,none⟩) (x:=0) c0;have hnot:∀ (x:Bool) (w:World),(Op.unary .not (.bool x)).run Tryz.prog w=.ok (.bool (!x)) w:=fun _ _=>rfl;have HL:=lh (lock_free ⟨rb,1,none⟩ w h1 f1);clear hrb ho h0 h1 f0 f1 hr1 ho1 hne;go_enter_defers Tryz.func80,Tryz.ntmps80
 go_wp2_with (go_at_call 89; refine HL.out.mono ?_; rintro e w' ⟨rfl,hw'⟩; rw [← hw1] at hw'; rw [hw']; clear hw' w' hw1)
 go_wp2_with (first | (go_at_call 72; refine HC.out.mono ?_; rintro e w2 ⟨rfl,bb,tv,C,hr2,hk2,hb2⟩) | (go_at_call 79; go_in))
 have hlt2:rb < w2.heap.size:=(Y1.1 hr2).1;refine leaves_cons (f:=91) (args:=#[.pointer (some ⟨rb,0,none⟩),.bool true]) (by simp) (by simp [go_sem]) ?_;refine (Z64 ⟨rb,0,none⟩ (.int .u32 0) .returning _ (by simp [World.cell?,hr2]) (Lib.frozen_of_heap hr2 0)).mono ?_;rintro e u' w'' ⟨rfl,rfl,rfl⟩;have hr3:(w2.drew.setCell ⟨rb,0,none⟩ (.int .u32 1)).heap[rb]?=_:=Z3i (w:=w2.drew) hr2 0 (.int .u32 1);refine leaves_cons (f:=90) (args:=#[.pointer (some ⟨rb,1,none⟩)]) (by simp [settle]) (by simp [go_sem]) ?_
 refine (unlock_deferred ⟨rb,1,none⟩ _ _ (by simp [World.cell?,hr3]) (Lib.frozen_of_heap hr3 1)).mono ?_;rintro e u' w'' ⟨rfl,rfl,rfl⟩;have hr4:=Z3i hr3 1 (.int .i32 0);refine ⟨.tuple #[],by simp [results,Tryz.results80,go_sem],rfl,bb,tv,C,hr4,⟨w1.heap.size,hk2.keep fun g hg _=>?_⟩,?_⟩
 ·have h1:rb < w1.heap.size:=Y7 hlt HB1.out.size;rw [Y8 _ _ _ _ (by show g≠rb; omega),Y8 _ _ _ _ (by show g≠rb; omega)];rfl
 ·exact ((HB1.out.trans hb2).drew.setCell (p:=⟨rb,0,none⟩) hB _).setCell (p:=⟨rb,1,none⟩) hB _
theorem Zf8 (rb Bq B:Nat) (ov:Value) (w:World) (hrb:w.heap[rb]?=some (.cells #[.int .u32 0,.int .i32 0,.int .u32 0,.nilIface,ov] 141 (0,0))) (ho:w.ownsRow B 9 1 ov 6 (Z46.map Value.string)) (hne:ov.ownBlock≠some rb) (hB:Bq≤rb) :
 Calls Tryz.prog 71 #[.pointer (some ⟨rb,0,none⟩),.func (.func 72) #[.pointer (some ⟨rb,0,none⟩)] #[]] w fun e w'=>e=.returned (.tuple #[])∧∃ bb tv C,w'.heap[rb]?=some (.cells #[.int .u32 1,.int .i32 0,.int .u32 0,.iface 174 (.pointer (some ⟨bb,0,none⟩)),.slice none 0 0] 141 (0,0)) ∧
  (∃ B',RepK B' bb 3 tv C w')∧Below Bq w w':=by
 have HS:=lh (Zc7 rb Bq B ov w hrb ho hne hB);have c0:w.cell? ⟨rb,0,none⟩=some (.int .u32 0):=by simp [World.cell?,hrb]
 have hl:=run_call_load (P:=Tryz.prog) Tryz.func88 (by kernel_rfl) (by kernel_rfl) (by kernel_rfl) .u32 (by kernel_rfl) (w:=w) (a:=⟨rb,0,none⟩) (x:=0) c0;have hnot:∀ (x:Bool) (w:World),(Op.unary .not (.bool x)).run Tryz.prog w=.ok (.bool (!x)) w:=fun _ _=>rfl;clear hrb ho hne;go_enter Tryz.func71,Tryz.ntmps71
 go_wp2_with (first | (go_at_call 80; refine HS.out.mono ?_; rintro e w2 ⟨rfl,hw2⟩) | (go_at_call 79; go_in))
 first | go_end0 | refine bodyPost_ret (results_none rfl _ _ _) rfl ?_
 exact ⟨rfl,hw2⟩
theorem Z92 (rb Bq B:Nat) (ov:Value) (w:World) (s:ByteArray) (hs:s.size≤1000000) (hrb:w.heap[rb]?=some (.cells #[.int .u32 0,.int .i32 0,.int .u32 0,.nilIface,ov] 141 (0,0))) (ho:w.ownsRow B 9 1 ov 6 (Z46.map Value.string)) (hne:ov.ownBlock≠some rb) (hB:Bq≤rb) :
 Calls Tryz.prog 68 #[.pointer (some ⟨rb,0,none⟩),.string s] w fun e w'=>e=.returned (.string ⟨(s.data.toList.flatMap escB).toArray⟩)∧Below Bq w w':=by
 have HS:=lh (Zf8 rb Bq B ov w hrb ho hne hB);have hlt:rb < w.heap.size:=(Y1.1 hrb).1;have hmf:∀ (fn:Fn) (first cap:Array Value) (w:World),(Instr.makeFunc fn first cap).run Tryz.prog w=.ok (.func fn first cap) w:=fun _ _ _ _=>rfl;clear hrb ho hne;go_enter Tryz.func68,Tryz.ntmps68
 go_wp2_with fail
 refine HS.out.mono ?_;rintro e w1 ⟨rfl,bb,tv,C,hr1,⟨B',hk⟩,hb⟩;have c3:w1.cell? ⟨rb,3,none⟩=some (.iface 174 (.pointer (some ⟨bb,0,none⟩))):=by simp [World.cell?,hr1]
 have HC:=lh (Zdk w1 s hk hs);have HB:=lh hb;clear hr1 hk hb;go_wp2_with fail
 refine HC.out.mono ?_;rintro e w2 ⟨rfl,hb2⟩;go_wp2_with fail
 go_ret;exact ⟨rfl,HB.out.trans (hb2.mono (by have:=HB.out.size; omega))⟩
theorem Zdw (s:ByteArray):(39 :: (s.data.toList.flatMap escB)) ++ [39]=Z49 s:=by unfold Z49; rfl
theorem Zbf (s:ByteArray) (w:World) (hs:s.size≤1000000):Calls Tryz.prog 59 #[.string s] w fun e w'=>e=.returned (.string ⟨(Z49 s).toArray⟩)∧Below w.heap.size w w':=by
 have HN:=lh (fun g w h=>Z9s g w h);have HR:=lh (fun rb Bq B ov w h1 h2 h3 h4=>Z92 rb Bq B ov w s hs h1 h2 h3 h4);have HF:=lh (Zdw s);have hsum:(List.map (fun a=>(escB a).length) s.data.toList).sum≤2000000:=by
  rw [← List.length_flatMap,Z8z];have h1:nsp s.data.toList≤s.data.toList.length:=List.countP_le_length;have h2:s.data.toList.length=s.size:=by simp
  omega
 have q1:¬ 9223372036854775807 < 1 + (List.map (fun a=>(escB a).length) s.data.toList).sum:=by omega
 have q2:¬ 9223372036854775807 < 1 + (List.map (fun a=>(escB a).length) s.data.toList).sum + 1:=by omega
 clear hs;go_enter Tryz.func59,Tryz.ntmps59
 go_wp2_with fail
 refine (HN.out w.heap.size _ (fun j s hj=>?_)).mono ?_
 ·have h:=(Go.MapKept.heap_alloc w (.cells #[.string ⟨#[92]⟩,.string ⟨#[92,92]⟩,.string ⟨#[39]⟩,.string ⟨#[92,39]⟩,.string ⟨#[10]⟩,.string ⟨#[92,110]⟩] 9)).1;unfold World.cell?;simp only [h];show ((Z46.map Value.string).toArray)[j]?=_;simp [hj]
 rintro e w1 ⟨rb,ov,rfl,h1,h2,h3,h4,h5⟩;rw [World.size_alloc] at h2 h3 h5;have hb1:Below w.heap.size w w1:=((Y2 _ _).alloc (Y0 _) _).trans (h5.mono (by omega));have HB:=lh hb1;have HC:=lh (HR.out rb w.heap.size _ ov w1 h1 h2 h4 (by omega));clear h1 h2 h3 h4 h5 hb1 HN HR;go_wp2_with fail
 refine HC.out.mono ?_;rintro e w2 ⟨rfl,hb2⟩;go_wp2_with fail
 go_ret;refine ⟨?_,HB.out.trans hb2⟩;have hq:((⟨#[39]⟩:ByteArray) ++ ⟨(List.flatMap escB s.data.toList).toArray⟩ ++ ⟨#[39]⟩)=⟨(Z49 s).toArray⟩:=by
  rw [← HF.out];apply ByteArray.ext;simp [ByteArray.data_append]
 rw [← hq];rfl
end Go.Proofs.YtjcgkdfeplbajaaGreatDoor
namespace Go.Proofs
def Tryz.laysM171_ren:Go.Shelf.Ren:=⟨fun | 171=>58 | 243=>66 | 246=>70 | 283=>75 | 284=>76 | 285=>77 | 286=>78 | 129=>84 | 317=>83 | 318=>85 | 319=>86 | 320=>87 | 337=>95 | 338=>96 | n=>n,fun | 3=>3 | 9=>9 | 2=>2 | 4=>4 | 171=>145 | 0=>0 | 53=>146 | 37=>53 | 5=>5 | 173=>149 | 212=>155 | 51=>129 | 20=>20 | 213=>156 | 46=>158 | 232=>190 | 233=>191 | n=>n,fun | 17=>6 | 18=>7 | 19=>8 | n=>n⟩
theorem Tryz.laysM171:Go.Proofs.LaysM.n171 Tryz.prog Tryz.laysM171_ren:={
 mixed:=by kernel_rfl
 f129:=Tryz.func84.trans (congrArg some (by kernel_rfl))
 f171:=Tryz.func58.trans (congrArg some (by kernel_rfl))
 f243:=Tryz.func66.trans (congrArg some (by kernel_rfl))
 f246:=Tryz.func70.trans (congrArg some (by kernel_rfl))
 f283:=Tryz.func75.trans (congrArg some (by kernel_rfl))
 f284:=Tryz.func76.trans (congrArg some (by kernel_rfl))
 f285:=Tryz.func77.trans (congrArg some (by kernel_rfl))
 f286:=Tryz.func78.trans (congrArg some (by kernel_rfl))
 f317:=Tryz.func83.trans (congrArg some (by kernel_rfl))
 f318:=Tryz.func85.trans (congrArg some (by kernel_rfl))
 f319:=Tryz.func86.trans (congrArg some (by kernel_rfl))
 f320:=Tryz.func87.trans (congrArg some (by kernel_rfl))
 f337:=Tryz.func95.trans (congrArg some (by kernel_rfl))
 f338:=Tryz.func96.trans (congrArg some (by kernel_rfl))
 t0:=Tryz.underlying0
 a0:=Tryz.isAgg0
 z0:=Tryz.sizeOf0
 v0:=Tryz.zeroValue0
 t2:=Tryz.underlying2
 a2:=Tryz.isAgg2
 z2:=Tryz.sizeOf2
 v2:=Tryz.zeroValue2
 t3:=Tryz.underlying3
 a3:=Tryz.isAgg3
 z3:=Tryz.sizeOf3
 v3:=Tryz.zeroValue3
 t4:=Tryz.underlying4
 a4:=Tryz.isAgg4
 z4:=Tryz.sizeOf4
 v4:=Tryz.zeroValue4
 t5:=Tryz.underlying5
 a5:=Tryz.isAgg5
 z5:=Tryz.sizeOf5
 v5:=Tryz.zeroValue5
 t9:=Tryz.underlying9
 a9:=Tryz.isAgg9
 z9:=Tryz.sizeOf9
 v9:=Tryz.zeroValue9
 t20:=Tryz.underlying20
 a20:=Tryz.isAgg20
 z20:=Tryz.sizeOf20
 v20:=Tryz.zeroValue20
 t37:=Tryz.underlying53
 a37:=Tryz.isAgg53
 z37:=Tryz.sizeOf53
 v37:=Tryz.zeroValue53
 t46:=Tryz.underlying158
 a46:=Tryz.isAgg158
 z46:=Tryz.sizeOf158
 v46:=Tryz.zeroValue158
 t51:=Tryz.underlying129
 a51:=Tryz.isAgg129
 z51:=Tryz.sizeOf129
 v51:=Tryz.zeroValue129
 t53:=Tryz.underlying146
 a53:=Tryz.isAgg146
 z53:=Tryz.sizeOf146
 v53:=Tryz.zeroValue146
 t171:=Tryz.underlying145
 a171:=Tryz.isAgg145
 z171:=Tryz.sizeOf145
 v171:=Tryz.zeroValue145
 t173:=Tryz.underlying149
 a173:=Tryz.isAgg149
 z173:=Tryz.sizeOf149
 v173:=Tryz.zeroValue149
 t212:=Tryz.underlying155
 a212:=Tryz.isAgg155
 z212:=Tryz.sizeOf155
 v212:=Tryz.zeroValue155
 t213:=Tryz.underlying156
 a213:=Tryz.isAgg156
 z213:=Tryz.sizeOf156
 t232:=Tryz.underlying190
 a232:=Tryz.isAgg190
 z232:=Tryz.sizeOf190
 v232:=Tryz.zeroValue190
 t233:=Tryz.underlying191
 a233:=Tryz.isAgg191
 z233:=Tryz.sizeOf191
 v233:=Tryz.zeroValue191
 g17:=by kernel_rfl
 g18:=by kernel_rfl
 g19:=by kernel_rfl
 i0:=by kernel_rfl
 i2:=by kernel_rfl
 i3:=by kernel_rfl
 i4:=by kernel_rfl
 i5:=by kernel_rfl
 i9:=by kernel_rfl
 i20:=by kernel_rfl
 i37:=by kernel_rfl
 i46:=by kernel_rfl
 i51:=by kernel_rfl
 i53:=by kernel_rfl
 i171:=by kernel_rfl
 i173:=by kernel_rfl
 i212:=by kernel_rfl
 i232:=by kernel_rfl
 i233:=by kernel_rfl
 m17:=by kernel_rfl
 m18:=by kernel_rfl
 m19:=by kernel_rfl }
open Go.RowKit Go.Sort Go.Lib in
theorem Tryz.strconv_Itoa (n : Int) (h0 : -9223372036854775808 ≤ n) (h1 : n ≤ 9223372036854775807) (w : World) (htab : Lib.TabIs Tryz.prog w "internal/strconv.uint64pow10" .u64 Lib.pow10Tab) :
 Calls Tryz.prog 58 #[.int .i64 n] w fun e w'=>e=.returned (.string ⟨(Lib.itoa n).toArray⟩)∧∃ k os,w'=grow (w.drewN k) os:=Any.strconv_Itoa Tryz.laysM171 n h0 h1 w htab
end Go.Proofs
