/- The document's parser: value. -/
import Derived.Test.YtmeiggjboakmpaaGreatDoorJ14
namespace Go.Proofs.YtmeiggjboakmpaaGreatDoor
open Go Go.RowKit
set_option maxRecDepth 100000
set_option maxHeartbeats 20000000
set_option linter.unusedVariables false
def opsC:Array Value:=#[.string s_or,.string Z5n,.string Z3j,.string Z4i,.string ⟨#[43,45]⟩,.string Z6n]
def Z8f (lv f:Nat):Prop:=∀ (w:World) (C:QC) (B d:Nat) (σ:RS) (t:Tree) (σ':RS) (ob:Nat),QS w C σ→C.rb < B→B≤w.heap.size→d + f≤1000000000000→ob≠C.rb→w.heap[ob]?=some (.cells opsC 9 (0,0)) →
 refF f (.pairs lv) d σ=some (t,σ')→Calls Tryz.prog 68 #[.pointer (some ⟨C.rb,0,none⟩),.int .i64 d,.slice (some ⟨ob,min lv 5,none⟩) (6 - lv:Nat) (6 - lv:Nat)] w (Z27 w C B t σ')
theorem Zkt (f:Nat) (hP:Z8f 0 f) (hV:Z1s 41 qd .value f):Z1s 41 qd .value (f + 1):=by
 intro w C B d σ t σ' hQ hr hB hd hp;rw [refF] at hp;have HO:=Z2f hQ;have HR:=lh hr;have HB:=lh hB;have HD:=lh hd;have HQ:=lh hQ;by_cases hf:σ.f.isNone=true;rotate_left
 ·have hf : σ.f.isNone = false := Bool.eq_false_iff.2 hf;rw [hf] at HO;rw [Y9 (by simp [hf])] at hp;obtain ⟨rfl, rfl⟩ : gT = t ∧ σ = σ' := by simpa using hp
  have HO:=lh HO;clear hQ hr hB hd hf hp hP hV;unfold qd;go_enter Tryz.func41,Tryz.ntmps41
  go_wp2_with fail
  refine HO.out.mono ?_;rintro e w1 ⟨rfl,rfl⟩;go_wp2;go_ret;exact Z27.bare HB.out (RFr.refl _ _) HQ.out
 rw [hf] at HO;rw [Yb hf] at hp;have HO:=lh HO;by_cases h30:30 < d
 ·rw [Yb h30] at hp;obtain ⟨rfl, rfl⟩ : gT = t ∧ Z39 4 σ = σ' := by simpa using hp
  have n30:((d:Int) > 30)=true:=by simp; omega
  clear hQ hr hB hd hf hp hP hV;unfold qd;go_enter Tryz.func41,Tryz.ntmps41
  go_wp2_with fail
  refine HO.out.mono ?_;rintro e w1 ⟨rfl,rfl⟩;go_wp2_with fail
  refine (Z2t HQ.out 4 (by decide) B HR.out HB.out).mono ?_;rintro e w3 ⟨a,rfl,h1⟩;have H1:=lh h1;clear h1;go_wp2;go_ret;exact ⟨a,rfl,H1.out⟩
 rw [Y9 h30] at hp;obtain ⟨x,σ1,hx,hp⟩:=Zn hp;have HX:=lh hx;have HP:=lh hP;have HV:=lh hV;have HE:=lh hp;have hrw:=hQ.rlt;obtain ⟨i,hi,hA⟩:=hQ;have c1:=hA.c1;have HI:=lh hi;have HIL:=lh hA.lt;clear hr hB hf hp hP hV hx hi hA hd;unfold qd;go_enter Tryz.func41,Tryz.ntmps41
 go_wp2_with fail
 refine HO.out.mono ?_;rintro e w1 ⟨rfl,rfl⟩;have hal:Below w.heap.size w (w.alloc (.cells opsC 9)):=(Y8 _ _).alloc (Y5 _) _;have F0:=lh (RFr.below (rb:=C.rb) hal);have Q0:=lh (HQ.out.below hal);clear hal HO;go_wp2_with fail
 refine (HP.out (w.alloc (.cells opsC 9)) C B d σ x σ1 w.heap.size Q0.out HR.out (Ya HB.out F0.out.size) (by have:=HD.out; omega) (by omega) (heap_alloc_new w _) HX.out).mono ?_;rintro e w2 ⟨a,rfl,h2,h3,h4⟩;have A2:=lh (h2.pre F0.out);have Q2:=lh h3;have F2:=lh (F0.out.trans h4);clear h2 h3 h4 F0 Q0 hrw;have HN:=Zk Q2.out s_eq;have hE:=HE.out;by_cases hn:Zl s_eq σ1=true;rotate_left
 ·have hn : Zl s_eq σ1 = false := by simpa using hn
  rw [hn] at HN;rw [Y9 (by simp [hn])] at hE;obtain ⟨rfl,rfl⟩:x=t∧σ1=σ':=by simpa using hE
  have HN:=lh HN;clear hE hn;go_wp2_with fail
  refine HN.out.mono ?_;rintro e w3 ⟨rfl,hb⟩;have F3:=lh (RFr.below (rb:=C.rb) hb);have Q3:=lh (Q2.out.below hb);clear hb;go_wp2;go_ret;exact ⟨a,rfl,A2.out.rfr HR.out F3.out,Q3.out,F2.out.trans F3.out⟩
 rw [hn] at HN;rw [Yb hn] at hE;have HN:=lh HN;have HNN:=lh hn;clear hn;have hak:a.kind=x.kind:=by
  have:=A2.out.tree;rw [← this];cases a; rfl
 by_cases hk:x.kind=23∨x.kind=36
 ·rw [Yb hk] at hE;obtain ⟨y, σ2, hy, hE⟩ := Zn hE;obtain ⟨rfl, rfl⟩ : Tree.mk 24 ByteArray.empty 0 [x, y] = t ∧ σ2 = σ' := by simpa using hE
  have HY:=lh hy;have kk:((a.kind != 23) && (a.kind != 36))=false:=by rw [hak]; rcases hk with h | h <;> simp [h]
  have k1:(a.kind != 23)=true∨(a.kind != 23)=false:=by cases (a.kind != 23) <;> simp
  clear hE hy hk hak;rcases k1 with k1 | k1
  all_goals
   rw [k1] at kk;simp only [Bool.true_and,Bool.false_and] at kk;go_wp2_with fail
   refine HN.out.mono ?_;rintro e w3 ⟨rfl,hb⟩;have F3:=lh (RFr.below (rb:=C.rb) hb);have Q3:=lh (Q2.out.below hb);have A3:=lh (A2.out.rfr HR.out F3.out);have hblk:=A3.out.at'.blkOf;have d0:w3.cell? ⟨a.b,0,none⟩=some (.int .i64 a.kind):=by simp [World.cell?,hblk]
   obtain ⟨i3,hi3,hA3⟩:=Q3.out;have e1:=hA3.c1;have ez:=hA3.fz 1;have el:=hA3.lt;have ef:=hA3.few;have HA3:=lh hA3;have hd:=HD.out;have HQ4:=QS.adv hA3 (x:=(i3:Int) + 1) (by rw [← hi3]; exact Z54 (Z31 HNN.out)) rfl;rw [← hi3] at HQ4;have Q4:=lh HQ4;clear hb hblk HQ4 hA3 hi3;go_wp2_with fail
   refine (HV.out (w3.setCell ⟨C.rb,1,none⟩ (.int .i64 ((i3:Int) + 1))) C B (d + 1) (advR σ1) y σ2 Q4.out HR.out (by rw [Yn]; exact Ya HB.out (F2.out.trans F3.out).size) (by omega) HY.out).mono ?_;rintro e w5 ⟨c,rfl,h2,h3,h4⟩;have FS:=lh ((RFr.refl w3 C.rb).set 1 (.int .i64 ((i3:Int) + 1)));have G5:=lh h2;have Q5:=lh h3;have F5:=lh h4;clear h2 h3 h4 d0 e1 ez;go_wp2;go_ret;have hal:=(Y8 w5.heap.size w5).alloc (Y5 _) (.cells #[.pointer (some ⟨a.b,0,none⟩),.pointer (some ⟨c.b,0,none⟩)] 22)
   have FF:=((F2.out.trans F3.out).trans FS.out).trans F5.out;refine ⟨_,?_,Got.two (k:=24) (t:=⟨#[]⟩) HB.out FF ((A3.out.rfr HR.out FS.out).rfr HR.out F5.out) (fun y hy=>(A3.out.new y hy).2) (F2.out.trans F3.out).size (G5.out.pre FS.out),(Q5.out.below hal).below ((Y8 _ _).alloc (Y5 _) _),(FF.trans (RFr.below hal)).trans (RFr.below ((Y8 _ _).alloc (Y5 _) _))⟩;simp [ATree.b]
 ·rw [Y9 hk] at hE;obtain ⟨rfl, rfl⟩ : gT = t ∧ Z39 1 ⟨σ.ts, σ1.f⟩ = σ' := by simpa using hE
  have k1:(a.kind != 23)=true:=by rw [hak]; simp; omega
  have k2:(a.kind != 36)=true:=by rw [hak]; simp; omega
  clear hE hk hak;go_wp2_with fail
  refine HN.out.mono ?_;rintro e w3 ⟨rfl,hb⟩;have F3:=lh (RFr.below (rb:=C.rb) hb);have Q3:=lh (Q2.out.below hb);have A3:=lh (A2.out.rfr HR.out F3.out);have hblk:=A3.out.at'.blkOf;have d0:w3.cell? ⟨a.b,0,none⟩=some (.int .i64 a.kind):=by simp [World.cell?,hblk]
  obtain ⟨i3,hi3,hA3⟩:=Q3.out;have e1:=hA3.c1;have ez:=hA3.fz 1;have HQ4:QS (w3.setCell ⟨C.rb,1,none⟩ (.int .i64 (i:Int))) C ⟨σ.ts,σ1.f⟩:=⟨i,HI.out,hA3.at HIL.out rfl⟩
  have Q4:=lh HQ4;clear hb hblk HQ4 hA3 hi3;go_wp2_with fail
  refine (Z2t Q4.out 1 (by decide) B HR.out (by rw [Yn]; exact Ya HB.out (F2.out.trans F3.out).size)).mono ?_;rintro e w5 h1;have FS:=lh ((RFr.refl w3 C.rb).set 1 (.int .i64 (i:Int)));obtain ⟨c,rfl,h1⟩:=h1;have H1:=lh h1;clear h1 d0 e1 ez;go_wp2;go_ret;exact Z27.pre ((F2.out.trans F3.out).trans FS.out) ⟨c,rfl,H1.out⟩
end Go.Proofs.YtmeiggjboakmpaaGreatDoor
