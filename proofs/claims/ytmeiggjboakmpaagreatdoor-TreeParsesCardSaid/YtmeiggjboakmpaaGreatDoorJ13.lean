/- The document's parser: list, with any closure. -/
import Derived.Test.YtmeiggjboakmpaaGreatDoorJ12
namespace Go.Proofs.YtmeiggjboakmpaaGreatDoor
open Go Go.RowKit
set_option maxRecDepth 100000
set_option maxHeartbeats 20000000
set_option linter.unusedVariables false
theorem Z63 {P:Nat→Prop} (h:∃ g,P g):∃ m,P m∧∀ k,P k→m≤k:=by
 obtain ⟨g,hg⟩:=h;induction g using Nat.strongRecOn with
 | ind g ih =>
   by_cases h:∃ k,k < g∧P k
   ·obtain ⟨k,hk,hp⟩:=h;exact ih k hk hp
   ·exact ⟨g,hg,fun k hk=>Nat.le_of_not_lt fun hl=>h ⟨k,hl,hk⟩⟩
open Classical in
noncomputable def least (P:Nat→Prop):Nat:=if h:∃ g,P g then Classical.choose (Z63 h) else 0
theorem Z3y {P:Nat→Prop} (h:∃ g,P g):P (least P):=by
 unfold least;rw [dif_pos h];exact (Classical.choose_spec (Z63 h)).1
theorem Z3c {P:Nat→Prop} {g:Nat} (h:P g):least P≤g:=by
 unfold least;rw [dif_pos ⟨g,h⟩];exact (Classical.choose_spec (Z63 ⟨g,h⟩)).2 g h
theorem Zh4 (c:Int) (σ:RS):(Z39 c σ).f.isNone=false:=by
 unfold Z39;cases h:σ.f with
 | none=>simp
 | some x=>simp [h]
def Zn5 (w0:World) (C:QC) (B:Nat) (ts:List Tree) (σ':RS) (e:Ending) (w':World):Prop:=
 ∃ v kids,e=.returned v∧ListAt w0 B w' v kids ts∧QS w' C σ'∧RFr w0 w' C.rb∧ts.length≤8
theorem ListAt.len {w0 w:World} {B:Nat} {v:Value} {kids:List ATree} {ts:List Tree} (L:ListAt w0 B w v kids ts):kids.length=ts.length:=by rw [← L.ks.tree,Z26,Yv]
theorem ListAt.slice {w0 w:World} {B:Nat} {v:Value} {kids:List ATree} {ts:List Tree} (L:ListAt w0 B w v kids ts):∃ p cp,v=.slice p ts.length cp:=by
 rw [← L.len];rcases Zp L.row with ⟨h1,h2⟩ | ⟨g0,cap0,h1,_⟩;·exact ⟨none,0,by rw [h1,h2]⟩
 ·exact ⟨_,_,h1⟩
def LInv (w0:World) (C:QC) (B d:Nat) (J:List Tree→RJob) (t:Tree) (σ':RS) (g:Nat) (v:Value) (wr:World):Prop:=
 ∃ (acc:List Tree) (kids:List ATree) (σ:RS),refF g (J acc) d σ=some (t,σ')∧ListAt w0 B wr v kids acc∧QS wr C σ∧RFr w0 wr C.rb∧acc.length≤8
theorem Zhh (F d:Nat) (K:FuncId) (caps:Array Value) (s:ByteArray) (J:List Tree→RJob) (item:Nat→RS→RR)
 (he:∀ (args:Array Value) (w:World),(callFunc K args).run Tryz.prog w=.ok (.enter K args) w)
 (hstep:∀ g acc σ,refF (g + 1) (J acc) d σ=if (σ.f.isNone && !Zl s σ)=true then (if (Z5i (decide (acc.length=8)) (Z3t (decide (0 < acc.length)) σ)).f.isNone=true then Z0n (item g (Z5i (decide (acc.length=8)) (Z3t (decide (0 < acc.length)) σ))) fun x σ'=>refF g (J (acc ++ [x])) d σ' else refF g (J acc) d (Z5i (decide (acc.length=8)) (Z3t (decide (0 < acc.length)) σ))) else some (.mk 0 ByteArray.empty 0 acc,Z0y s σ))
 (w0:World) (C:QC) (B:Nat) (hr:C.rb < B) (hB:B≤w0.heap.size)
 (hcall:∀ g,g < F→∀ w σ x σ',RFr w0 w C.rb→QS w C σ→item g σ=some (x,σ')→Calls Tryz.prog K caps w (Z27 w C B x σ'))
 (σ:RS) (hQ:QS w0 C σ) (t:Tree) (σ':RS) (hp:refF F (J []) d σ=some (t,σ')) :
 Calls Tryz.prog 66 #[.pointer (some ⟨C.rb,0,none⟩),.string s,.func (.func K) #[] caps] w0 (Zn5 w0 C B t.kids σ'):=by
 have HSTEP:=lh hstep;have HE:=lh he;have HCALL:=lh hcall;have HR:=lh hr;have HB:=lh hB;have ST:=lh (show ∃ g,g≤F∧LInv w0 C B d J t σ' g (.slice none 0 0) w0 from ⟨F,Y5 _,[],[],σ,hp,ListAt.nil,hQ,RFr.refl _ _,by simp⟩);clear he hstep hcall hr hB hQ hp;go_enter Tryz.func66,Tryz.ntmps66
 go_wp2_with fail
 go_loopw [7] (fun v wr=>∃ g,g≤F∧LInv w0 C B d J t σ' g v wr) (fun v wr=>least fun g=>g≤F∧LInv w0 C B d J t σ' g v wr)
 case atStart=>exact ST.out
 case round=>
  have hI:=Z3y hrel;clear ST;obtain ⟨g,hg⟩:=zX (least fun g=>g≤F∧LInv w0 C B d J t σ' g u7 wr)
  rw [← hg] at hI;have HG:=lh hg;clear hg hrel;obtain ⟨hgF,acc,kids,σ,hp,hL,hQ,hF,h8⟩:=hI;cases g with
  | zero=>simp [refF] at hp
  | succ g=>
  rw [HSTEP.out] at hp;have HO:=Z2f hQ;have HN:=Zk hQ s;obtain ⟨p,cp,rfl⟩:=hL.slice;have HL:=lh hL;have HQ:=lh hQ;have HF:=lh hF;have H8:=lh h8;have HGF:=lh hgF;by_cases hf:σ.f.isNone=true;rotate_left
  ·have hf : σ.f.isNone = false := Bool.eq_false_iff.2 hf;rw [hf] at HO;rw [Y9 (by simp [hf])] at hp;simp only [Option.some.injEq, Prod.mk.injEq] at hp;have HO := lh HO;have HP := lh hp;clear hL hQ hF h8 hgF hf hp HN;go_wp2_with fail
   refine HO.out.mono ?_;rintro e w1 ⟨rfl,rfl⟩;go_wp2_with fail
   refine (Z0w HQ.out s B HR.out (Ya HB.out HF.out.size)).mono ?_;rintro e w2 ⟨rfl,h2,h3⟩;have Q2:=lh h2;have F2:=lh h3;clear h2 h3;go_wp2;go_ret;obtain ⟨h4,h5⟩:=HP.out;refine ⟨_,kids,rfl,?_,by rw [← h5]; exact Q2.out,HF.out.trans F2.out,by rw [← h4]; exact H8.out⟩;rw [← h4];exact HL.out.rfr HR.out F2.out
  rw [hf] at HO;by_cases hn:Zl s σ=true
  ·rw [hn] at HN;rw [Y9 (by simp [hn])] at hp;simp only [Option.some.injEq, Prod.mk.injEq] at hp;have HO := lh HO;have HN := lh HN;have HP := lh hp;clear hL hQ hF h8 hgF hf hn hp;go_wp2_with fail
   refine HO.out.mono ?_;rintro e w1 ⟨rfl,rfl⟩;go_wp2_with fail
   refine HN.out.mono ?_;rintro e w1 ⟨rfl,hb1⟩;have Q1:=lh (HQ.out.below hb1);have F1:=lh (RFr.below (rb:=C.rb) hb1);clear hb1;go_wp2_with fail
   refine (Z0w Q1.out s B HR.out (Ya HB.out (HF.out.trans F1.out).size)).mono ?_;rintro e w2 ⟨rfl,h2,h3⟩;have Q2:=lh h2;have F2:=lh (F1.out.trans h3);clear h2 h3;go_wp2;go_ret;obtain ⟨h4,h5⟩:=HP.out;refine ⟨_,kids,rfl,?_,by rw [← h5]; exact Q2.out,HF.out.trans F2.out,by rw [← h4]; exact H8.out⟩;rw [← h4];exact HL.out.rfr HR.out F2.out
  have hn:Zl s σ=false:=by simpa using hn
  rw [hn] at HN;rw [Yb (by simp [hn,hf])] at hp;have HO:=lh HO;have HN:=lh HN;have HK:=lh (hL.len);obtain ⟨i0,hi,hz0,hz1,hz2⟩:=info_parts Tryz.infoPtr;clear hL hQ hF h8 hgF hn;by_cases h0:acc.length=0
  ·have a0 : decide (0 < acc.length) = false := by simp [h0]
   have n8:((acc.length:Int) == 8)=false:=by simp [h0]
   have d8:decide (acc.length=8)=false:=by simp [h0]
   rw [a0,d8] at hp;simp only [Z5i,Z3t,Bool.false_eq_true,if_false] at hp;rw [Yb hf] at hp;obtain ⟨x,σ3,hit,hrest⟩:=Zn hp;have IT:=lh hit;have RE:=lh hrest;have H0:=lh h0;have HNE:=lh (show acc.length≠8 by omega);have HFF:=lh hf;clear hp hit hrest d8 h0 hf;go_wp2_with fail
   refine HO.out.mono ?_;rintro e w1 ⟨rfl,rfl⟩;go_wp2_with fail
   refine HN.out.mono ?_;rintro e w1 ⟨rfl,hb1⟩;have Q1:=lh (HQ.out.below hb1);have F1:=lh (HF.out.trans (RFr.below (rb:=C.rb) hb1));have L1:=lh (HL.out.rfr HR.out (RFr.below (rb:=C.rb) hb1));clear hb1 HO HN HQ HF HL;go_wp2_with fail
   have HO2:=Z2f Q1.out;rw [HFF.out] at HO2;refine HO2.mono ?_;rintro e w2 ⟨rfl,rfl⟩;go_wp2_with fail
   rw [HE.out,Oper.upon_enter];refine (HCALL.out g (by have:=HGF.out; omega) w1 σ x σ3 F1.out Q1.out IT.out).mono ?_;rintro e w2 ⟨a,rfl,h2,h3,h4⟩;have A2:=lh h2;have Q2:=lh h3;have F2:=lh h4;have L2:=lh (L1.out.rfr HR.out h4);clear h2 h3 h4 Q1
   go_wp2_with (at_builtin; go_must (refine wpList_append_lies _ rfl (.tmp 28) (.tmp 31) 36 rfl B 22 i0 _ 1 8 Tryz.underlying36 hi hz0 hz1 hz2 rfl (by decide) (.slice p acc.length cp) kids.length (kids.map ATree.ptr) rfl (L2.out.row.alloc _) ⟨w2.heap.size,0,none⟩ 1 1 [a.ptr] rfl rfl (Yi (cs:=#[a.ptr]) (t:=22) (fr:=(0,0)) (heap_alloc_new w2 _)) (by simp [ATree.ptr,Value.oneCell']) (by decide) (by have:=HK.out; have:=H8.out; unfold maxLen; omega) (by have:=HK.out; have:=H8.out; omega) (by simp; have:=F1.out.size; have:=F2.out.size; have:=HB.out; omega) (w2.heap.size + 1) (by simp) ?_); intro gg cap w4 hown2 hgrow2 hat2 hgl2)
   have hpush:=L2.out.push (wA:=w1) (fun y hy=>(L1.out.ks.new y hy).2) (fun y hy=>(L1.out.own y hy).2.1) A2.out F1.out.size F2.out.size ((Y8 _ _).alloc (Y5 _) _) hgrow2 hown2 (by rcases hat2 with h | h; (exact .inl h); (exact .inr (by omega))) hgl2 (F1.out.trans F2.out);have hinv:g≤F∧LInv w0 C B d J t σ' g (.slice (some ⟨gg,0,none⟩) (kids.length + 1) cap) w4:=
    ⟨by have:=HGF.out; omega,acc ++ [x],kids ++ [a],σ3,RE.out,hpush.1,Q2.out.keep fun k hk=>hpush.2.1 k (by have:=Q2.out.rlt; omega) (fun e=>by have h1:=(L2.out.own k e).1; have h2:=HR.out; have h3:=HB.out; omega),hpush.2.2.2,by have:=H8.out; have:=HNE.out; simp; omega⟩
   exact ⟨⟨g,hinv⟩,by rw [← HG.out]; exact Nat.lt_succ_of_le (Z3c hinv)⟩
  ·have a0 : decide (0 < acc.length) = true := by simp; omega
   rw [a0] at hp;simp only [Z3t,if_true] at hp;have H0:=lh h0;have HFF:=lh hf;have b0:acc.length > 0:=by omega
   by_cases h88:acc.length=8
   ·have n8 : ((acc.length : Int) == 8) = true := by simp [h88]
    have d8:decide (acc.length=8)=true:=by simp [h88]
    rw [d8] at hp;simp only [Z5i,if_true] at hp;rw [Y9 (by rw [Zh4]; decide)] at hp;have RE:=lh hp;clear hp d8 h0 h88 hf;go_wp2_with fail
    refine HO.out.mono ?_;rintro e w1 ⟨rfl,rfl⟩;go_wp2_with fail
    refine HN.out.mono ?_;rintro e w1 ⟨rfl,hb1⟩;have Q1:=lh (HQ.out.below hb1);have F1:=lh (HF.out.trans (RFr.below (rb:=C.rb) hb1));have L1:=lh (HL.out.rfr HR.out (RFr.below (rb:=C.rb) hb1));clear hb1 HO HN HQ HF HL;go_wp2_with fail
    refine (Z0w Q1.out Z1b B HR.out (Ya HB.out F1.out.size)).mono ?_;rintro e w2 ⟨rfl,h2,h3⟩;have Q2:=lh h2;have F2:=lh (F1.out.trans h3);have L2:=lh (L1.out.rfr HR.out h3);clear h2 h3 Q1 F1 L1;go_wp2_with fail
    refine (Z2t Q2.out 4 (by decide) B HR.out (Ya HB.out F2.out.size)).mono ?_;rintro e w3 ⟨a,rfl,_,h2,h3⟩;have Q3:=lh h2;have F3:=lh (F2.out.trans h3);have L3:=lh (L2.out.rfr HR.out h3);clear h2 h3 Q2 F2 L2;go_wp2_with fail
    have HO2:=Z2f Q3.out;rw [Zh4] at HO2;refine HO2.mono ?_;rintro e w4 ⟨rfl,rfl⟩;clear HO2;go_wp2;have hinv:g≤F∧LInv w0 C B d J t σ' g (.slice p acc.length cp) w3:=⟨by have:=HGF.out; omega,acc,kids,_,RE.out,L3.out,Q3.out,F3.out,H8.out⟩
    exact ⟨⟨g,hinv⟩,by rw [← HG.out]; exact Nat.lt_succ_of_le (Z3c hinv)⟩
   ·have n8 : ((acc.length : Int) == 8) = false := by simp; omega
    have d8:decide (acc.length=8)=false:=by simp [h88]
    rw [d8] at hp;simp only [Z5i,Bool.false_eq_true,if_false] at hp;have HNE:=lh h88;by_cases hf2:(Z0y Z1b σ).f.isNone=true
    ·rw [Yb hf2] at hp;obtain ⟨x, σ3, hit, hrest⟩ := Zn hp;have IT := lh hit;have RE := lh hrest;have HF2 := lh hf2;clear hp hit hrest d8 h0 hf h88 hf2;go_wp2_with fail
     refine HO.out.mono ?_;rintro e w1 ⟨rfl,rfl⟩;go_wp2_with fail
     refine HN.out.mono ?_;rintro e w1 ⟨rfl,hb1⟩;have Q1:=lh (HQ.out.below hb1);have F1:=lh (HF.out.trans (RFr.below (rb:=C.rb) hb1));have L1:=lh (HL.out.rfr HR.out (RFr.below (rb:=C.rb) hb1));clear hb1 HO HN HQ HF HL;go_wp2_with fail
     refine (Z0w Q1.out Z1b B HR.out (Ya HB.out F1.out.size)).mono ?_;rintro e w1' ⟨rfl,h2,h3⟩;replace Q1:=lh h2
     replace F1:=lh (F1.out.trans h3)
     replace L1:=lh (L1.out.rfr HR.out h3)
     clear h2 h3;go_wp2_with fail
     have HO2:=Z2f Q1.out;rw [HF2.out] at HO2;refine HO2.mono ?_;rintro e w2 ⟨rfl,rfl⟩;clear HO2;go_wp2_with fail
     rw [HE.out,Oper.upon_enter];refine (HCALL.out g (by have:=HGF.out; omega) w1' _ x σ3 F1.out Q1.out IT.out).mono ?_;rintro e w2 ⟨a,rfl,h2,h3,h4⟩;have A2:=lh h2;have Q2:=lh h3;have F2:=lh h4;have L2:=lh (L1.out.rfr HR.out h4);clear h2 h3 h4 Q1
     go_wp2_with (at_builtin; go_must (refine wpList_append_lies _ rfl (.tmp 28) (.tmp 31) 36 rfl B 22 i0 _ 1 8 Tryz.underlying36 hi hz0 hz1 hz2 rfl (by decide) (.slice p acc.length cp) kids.length (kids.map ATree.ptr) rfl (L2.out.row.alloc _) ⟨w2.heap.size,0,none⟩ 1 1 [a.ptr] rfl rfl (Yi (cs:=#[a.ptr]) (t:=22) (fr:=(0,0)) (heap_alloc_new w2 _)) (by simp [ATree.ptr,Value.oneCell']) (by decide) (by have:=HK.out; have:=H8.out; unfold maxLen; omega) (by have:=HK.out; have:=H8.out; omega) (by simp; have:=F1.out.size; have:=F2.out.size; have:=HB.out; omega) (w2.heap.size + 1) (by simp) ?_); intro gg cap w4 hown2 hgrow2 hat2 hgl2)
     have hpush:=L2.out.push (wA:=w1') (fun y hy=>(L1.out.ks.new y hy).2) (fun y hy=>(L1.out.own y hy).2.1) A2.out F1.out.size F2.out.size ((Y8 _ _).alloc (Y5 _) _) hgrow2 hown2 (by rcases hat2 with h | h; (exact .inl h); (exact .inr (by omega))) hgl2 (F1.out.trans F2.out);have hinv:g≤F∧LInv w0 C B d J t σ' g (.slice (some ⟨gg,0,none⟩) (kids.length + 1) cap) w4:=
      ⟨by have:=HGF.out; omega,acc ++ [x],kids ++ [a],σ3,RE.out,hpush.1,Q2.out.keep fun k hk=>hpush.2.1 k (by have:=Q2.out.rlt; omega) (fun e=>by have h1:=(L2.out.own k e).1; have h2:=HR.out; have h3:=HB.out; omega),hpush.2.2.2,by have:=H8.out; have:=HNE.out; simp; omega⟩
     exact ⟨⟨g,hinv⟩,by rw [← HG.out]; exact Nat.lt_succ_of_le (Z3c hinv)⟩
    ·have hf2 : (Z0y Z1b σ).f.isNone = false := Bool.eq_false_iff.2 hf2;rw [Y9 (by simp [hf2])] at hp;have RE := lh hp;have HF2 := lh hf2;clear hp d8 h0 hf h88 hf2;go_wp2_with fail
     refine HO.out.mono ?_;rintro e w1 ⟨rfl,rfl⟩;go_wp2_with fail
     refine HN.out.mono ?_;rintro e w1 ⟨rfl,hb1⟩;have Q1:=lh (HQ.out.below hb1);have F1:=lh (HF.out.trans (RFr.below (rb:=C.rb) hb1));have L1:=lh (HL.out.rfr HR.out (RFr.below (rb:=C.rb) hb1));clear hb1 HO HN HQ HF HL;go_wp2_with fail
     refine (Z0w Q1.out Z1b B HR.out (Ya HB.out F1.out.size)).mono ?_;rintro e w3 ⟨rfl,h2,h3⟩;have Q3:=lh h2;have F3:=lh (F1.out.trans h3);have L3:=lh (L1.out.rfr HR.out h3);clear h2 h3 Q1 F1 L1;go_wp2_with fail
     have HO2:=Z2f Q3.out;rw [HF2.out] at HO2;refine HO2.mono ?_;rintro e w2 ⟨rfl,rfl⟩;clear HO2;go_wp2;have hinv:g≤F∧LInv w0 C B d J t σ' g (.slice p acc.length cp) w3:=⟨by have:=HGF.out; omega,acc,kids,_,RE.out,L3.out,Q3.out,F3.out,H8.out⟩
     exact ⟨⟨g,hinv⟩,by rw [← HG.out]; exact Nat.lt_succ_of_le (Z3c hinv)⟩
theorem Zlx (args:Array Value) (w:World):(callFunc 67 args).run Tryz.prog w=.ok (.enter 67 args) w:=by go_simp
theorem Zm8 (args:Array Value) (w:World):(callFunc 114 args).run Tryz.prog w=.ok (.enter 114 args) w:=by go_simp
theorem Zm9 (args:Array Value) (w:World):(callFunc 125 args).run Tryz.prog w=.ok (.enter 125 args) w:=by go_simp
theorem Zk3 (w:World) (C:QC) (B bx:Nat) (σ:RS) (hQ:QS w C σ) (hr:C.rb < B) (hB:B≤w.heap.size) (hc:w.cell? ⟨bx,0,none⟩=some (.pointer (some ⟨C.rb,0,none⟩))) :
 Calls Tryz.prog 67 #[.pointer (some ⟨bx,0,none⟩)] w (Z27 w C B (.mk 23 (Zw σ).1 0 []) (Zw σ).2):=by
 have HI:=lh (Z34 hQ B hr hB);have HB:=lh hB;clear hQ hB hr;go_enter Tryz.func67,Tryz.ntmps67
 go_wp2_with fail
 refine HI.out.mono ?_;rintro e w1 ⟨rfl,h1,h2⟩;have H1:=lh h1;have H2:=lh h2;clear h1 h2;go_wp2;go_ret;exact ⟨_,rfl,Got.leaf HB.out H2.out,H1.out.below ((Y8 _ _).alloc (Y5 _) _),H2.out.trans (RFr.below ((Y8 _ _).alloc (Y5 _) _))⟩
theorem Zmz (f:Nat) (hV:Z1s 41 qd .value f) (w:World) (C:QC) (B bx dx d:Nat) (σ σ':RS) (t:Tree) (hd:d + (f + 1)≤1000000000000) (hp:refF f .value (d + 1) σ=some (t,σ')) (hQ:QS w C σ) (hr:C.rb < B) (hB:B≤w.heap.size) (hc:w.cell? ⟨bx,0,none⟩=some (.pointer (some ⟨C.rb,0,none⟩))) (hc2:w.cell? ⟨dx,0,none⟩=some (.int .i64 d)) :
 Calls Tryz.prog 114 #[.pointer (some ⟨bx,0,none⟩),.pointer (some ⟨dx,0,none⟩)] w (Z27 w C B t σ'):=by
 have HI:=lh (hV w C B (d + 1) σ t σ' hQ hr hB (by omega) hp);clear hQ hB hr hp hV;go_enter Tryz.func114,Tryz.ntmps114
 go_wp2_with fail
 refine HI.out.mono ?_;rintro e w1 ⟨a,rfl,h1⟩;have H1:=lh h1;clear h1;go_wp2;go_ret;exact ⟨a,rfl,H1.out⟩
theorem Zma (f:Nat) (hV:Z1s 41 qd .value f) (w:World) (C:QC) (B bx dx d:Nat) (σ σ':RS) (t:Tree) (hd:d + (f + 1)≤1000000000000) (hp:refF f .value (d + 1) (Z0y Z2s (Zw σ).2)=some (t,σ')) (hQ:QS w C σ) (hr:C.rb < B) (hB:B≤w.heap.size) (hc:w.cell? ⟨bx,0,none⟩=some (.pointer (some ⟨C.rb,0,none⟩))) (hc2:w.cell? ⟨dx,0,none⟩=some (.int .i64 d)) (hb:bx < w.heap.size) (hb2:dx < w.heap.size) (hn:bx≠C.rb) (hn2:dx≠C.rb) :
 Calls Tryz.prog 125 #[.pointer (some ⟨bx,0,none⟩),.pointer (some ⟨dx,0,none⟩)] w (Z27 w C B (.mk 39 (Zw σ).1 0 [t]) σ'):=by
 have HI:=lh (Z34 hQ B hr hB);have HV:=lh hV;have HP:=lh hp;have HR:=lh hr;have HB:=lh hB;have HD:=lh hd;clear hQ hB hr hp hV hd;go_enter Tryz.func125,Tryz.ntmps125
 go_wp2_with fail
 refine HI.out.mono ?_;rintro e w1 ⟨rfl,h1,h2⟩;have q1:w1.cell? ⟨bx,0,none⟩=some (.pointer (some ⟨C.rb,0,none⟩)):=(h2.cell hb hn).trans hc;have q2:w1.cell? ⟨dx,0,none⟩=some (.int .i64 d):=(h2.cell hb2 hn2).trans hc2;have Q1:=lh h1;have F1:=lh h2;clear h1 h2;go_wp2_with fail
 refine (Z0w Q1.out Z2s B HR.out (Ya HB.out F1.out.size)).mono ?_;rintro e w2 ⟨rfl,h1,h2⟩;have r1:w2.cell? ⟨bx,0,none⟩=some (.pointer (some ⟨C.rb,0,none⟩)):=(h2.cell (Ye hb F1.out.size) hn).trans q1;have r2:w2.cell? ⟨dx,0,none⟩=some (.int .i64 d):=(h2.cell (Ye hb2 F1.out.size) hn2).trans q2;have Q2:=lh h1;have F2:=lh (F1.out.trans h2);have hd2:=HD.out;clear h1 h2 q1 q2;go_wp2_with fail
 refine (HV.out w2 C B (d + 1) _ _ _ Q2.out HR.out (Ya HB.out F2.out.size) (by omega) HP.out).mono ?_;rintro e w3 ⟨a,rfl,h1,h2,h3⟩;have G3:=lh h1;have Q3:=lh h2;have F3:=lh h3;clear h1 h2 h3 r1 r2;go_wp2;go_ret;have hal:=(Y8 w3.heap.size w3).alloc (Y5 _) (.cells #[.pointer (some ⟨a.b,0,none⟩)] 22)
 refine ⟨_,?_,Got.one (k:=39) (t:=(Zw σ).1) HB.out (F2.out.trans F3.out) (G3.out.pre F2.out),(Q3.out.below hal).below ((Y8 _ _).alloc (Y5 _) _),((F2.out.trans F3.out).trans (RFr.below hal)).trans (RFr.below ((Y8 _ _).alloc (Y5 _) _))⟩;simp [ATree.b]
def fArg (kind:Int) (text:ByteArray) (rb d:Nat):Array Value:=#[.pointer (some ⟨rb,0,none⟩),.int .i64 kind,.string text,.int .i64 d]
def Zaa (b:Bool) (rb d:Nat):Array Value:=#[.pointer (some ⟨rb,0,none⟩),.int .i64 d,.bool b]
theorem Zms (f:Nat) (kind:Int) (text:ByteArray) (hBr:Z1s 34 (Zaa true) (.braces true) f):Z1s 37 (fArg kind text) (.func kind text) (f + 1):=by
 intro w C B d σ t σ' hQ hr hB hd hp;rw [refF] at hp;obtain ⟨l,σ1,hl,hp⟩:=Zn hp;obtain ⟨b,σ2,hb,hp⟩:=Zn hp;obtain ⟨rfl,rfl⟩:Tree.mk kind text 0 [.mk 40 ByteArray.empty 0 l.kids,b]=t∧σ2=σ':=by simpa using hp
 have HR:=lh hr;have HB:=lh hB;have HD:=lh hd;have HL:=lh hl;have HBR:=lh hBr;have HBB:=lh hb;have hrw:=hQ.rlt;have HQ:=lh hQ;obtain ⟨bx,hbx⟩:=zX w.heap.size
 have hne:bx≠C.rb:=by omega
 have hal:Below w.heap.size w (w.alloc (.cells #[.pointer (some ⟨C.rb,0,none⟩)] 43)):=(Y8 _ _).alloc (Y5 _) _;have q0:(w.alloc (.cells #[.pointer (some ⟨C.rb,0,none⟩)] 43)).cell? ⟨bx,0,none⟩=some (.pointer (some ⟨C.rb,0,none⟩)):=by rw [hbx]; simp only [World.cell?,heap_alloc_new]; rfl
 have hbz:bx < (w.alloc (.cells #[.pointer (some ⟨C.rb,0,none⟩)] 43)).heap.size:=by rw [hbx]; simp
 have Q0:=lh (hQ.below hal);have F0:=lh (RFr.below (rb:=C.rb) hal);clear hQ hB hr hp hd hl hBr hb hal hrw;unfold fArg;go_enter Tryz.func37,Tryz.ntmps37
 go_wp2_with fail
 refine (Z0w Q0.out Z0u B HR.out (Ya HB.out F0.out.size)).mono ?_;rintro e w1 ⟨rfl,h1,h2⟩;rw [← hbx];have q1:=(h2.cell hbz hne).trans q0;have hb1:bx < w1.heap.size:=Ye hbz h2.size;have Q1:=lh h1;have F1:=lh (F0.out.trans h2);have HBX:=lh hbx;clear h1 h2 q0 Q0 F0 hbz hbx;go_wp2_with fail
 refine (Zhh f d 67 #[.pointer (some ⟨bx,0,none⟩)] Z0v .params (fun g σ=>some (.mk 23 (Zw σ).1 0 [],(Zw σ).2)) Zlx (fun g acc σ=>by rw [refF]; rfl) w1 C B HR.out (Ya HB.out F1.out.size) (fun g hg w2 σ x σ' hF hQ hi=>?_) _ Q1.out l σ1 HL.out).mono ?_
 ·obtain ⟨rfl, rfl⟩ : Tree.mk 23 (Zw σ).1 0 [] = x ∧ (Zw σ).2 = σ' := by simpa using hi
  exact Zk3 w2 C B bx σ hQ HR.out (Ya HB.out (F1.out.trans hF).size) ((hF.cell hb1 hne).trans q1)
 rintro e w2 ⟨v,kids,rfl,h1,h2,h3,_⟩;obtain ⟨p,cp,rfl⟩:=h1.slice;have q2:=(h3.cell hb1 hne).trans q1;have hb2:bx < w2.heap.size:=Ye hb1 h3.size;have N2:=lh ((h1.pre (w0:=w) F1.out.size).node (k:=40) (tx:=⟨#[]⟩) (n:=0) (Ya HB.out (F1.out.trans h3).size) (F1.out.trans h3).size);have hal:Below w2.heap.size w2 (w2.alloc (.cells #[.int .i64 40,.string ⟨#[]⟩,.int .i64 0,.slice p l.kids.length cp] 38)):=(Y8 _ _).alloc (Y5 _) _;have Q2:=lh (h2.below hal);have F2:=lh ((F1.out.trans h3).trans (RFr.below hal))
 have q3:(w2.alloc (.cells #[.int .i64 40,.string ⟨#[]⟩,.int .i64 0,.slice p l.kids.length cp] 38)).cell? ⟨bx,0,none⟩=some (.pointer (some ⟨C.rb,0,none⟩)):=(Z8 hb2).trans q2;clear h1 h2 h3 q1 hb1 hal;go_wp2_with fail
 refine (HBR.out _ C B d _ _ _ Q2.out HR.out (Ya HB.out F2.out.size) (by have:=HD.out; omega) HBB.out).mono ?_;rintro e w4 ⟨a,rfl,h1,h2,h3⟩;have G4:=lh h1;have Q4:=lh h2;have F4:=lh h3;clear h1 h2 h3 q2 q3;go_wp2;go_ret;have hal:=(Y8 w4.heap.size w4).alloc (Y5 _) (.cells #[.pointer (some ⟨w2.heap.size,0,none⟩),.pointer (some ⟨a.b,0,none⟩)] 22)
 refine ⟨_,?_,Got.two (k:=kind) (t:=text) HB.out (F2.out.trans F4.out) (N2.out.rfr HR.out F4.out) (fun x hx=>(N2.out.new x hx).2) F2.out.size G4.out,(Q4.out.below hal).below ((Y8 _ _).alloc (Y5 _) _),((F2.out.trans F4.out).trans (RFr.below hal)).trans (RFr.below ((Y8 _ _).alloc (Y5 _) _))⟩;simp [ATree.b]
theorem Zeb:∀ {f d:Nat} {k:Int} {acc:List Tree} {us ts:List Tok} {t:Tree},Z0 f (.stmts k acc) d us=some (.ok (t,ts))→∃ tx l,t=.mk k tx 0 l:=by
 intro f;induction f with
 | zero=>intro d k acc us ts t h; cases h
 | succ f ih =>
   intro d k acc us ts t h;rw [Z0] at h;generalize (if k=1 then decide ((hdT us).kind=6) else isT Z01 us)=c at h;cases c
   ·obtain ⟨x,vs,_,h⟩:=Z1u h;exact ih h
   ·obtain ⟨rfl,_⟩:=Z3l h; exact ⟨_,_,rfl⟩
theorem Ze8 (f:Nat) (body:Bool) (hS:Says 19 (fun rb=>#[.pointer (some ⟨rb,0,none⟩),.int .i64 6,.string Z01]) (.stmts 6 []) f) :
 Says 73 (fun rb=>#[.pointer (some ⟨rb,0,none⟩),.bool body]) (.block body) (f + 1):=by
 intro w rb B d ts r hP hp;have hw:Z1e Zi ts (fun ts=>Z0g (Z0 f (.stmts 6 []) d ts) fun x ts=>Z1e Z01 ts fun ts=>okT (if body then x else .mk 6 ByteArray.empty 0 x.kids) ts)=some r:=hp;have HP:=lh hP;simp only;rcases Z29 hw with ⟨hs,h1⟩ | ⟨hs,rfl⟩
 ·have HC := lh (Z2b w rb ts d Zi hP.rd hs);have H1 := lh h1;clear hP hp hw hs h1;go_enter Tryz.func73, Tryz.ntmps73
  go_wp2_with fail
  refine HC.out.mono ?_;rintro e w1 ⟨rfl,hR1,hF1⟩;have P1:=lh (HP.out.tail hR1 hF1);have F1:=lh hF1;clear hR1 hF1 HC;rcases Z09 H1.out with ⟨⟨c,p⟩,hv,rfl⟩ | ⟨t,ts2,hv,h2⟩
  ·have HV := hS w1 rb B d _ _ P1.out hv;simp only at HV;unfold Z01 at HV;have HV := lh HV;clear hv;go_wp2_with fail
   refine HV.out.mono ?_;rintro e w2 ⟨⟨b,rfl,h1,h2⟩,hF⟩;exact ⟨rfl,Z0t.pre F1.out (r:=.error (c,p)) ⟨⟨b,rfl,h1,h2⟩,hF⟩⟩
  ·have HV := hS w1 rb B d _ _ P1.out hv;simp only at HV;unfold Z01 at HV;have HV := lh HV;have hl := Z1h hv;obtain ⟨tx, l, rfl⟩ := Zeb hv;have H2 := lh h2;clear hv h2;go_wp2_with fail
   refine HV.out.mono ?_;rintro e w2 ⟨a,rfl,hG,hR2,hF2⟩;obtain ⟨b,v,k,tx',n,kids⟩:=a;have htr:=hG.tree;simp only [ATree.tree,Tree.mk.injEq] at htr;obtain ⟨rfl,rfl,rfl,rfl⟩:=htr;have G2:=hG.pre F1.out;have F2:=F1.out.trans hF2;have hblk:=G2.at'.blkOf;simp only [ATree.b,ATree.v,ATree.kind,ATree.text,ATree.n] at hblk ⊢;have c1:w2.cell? ⟨b,1,none⟩=some (.string tx'):=by simp [World.cell?,hblk]
   have z1:w2.frozen? ⟨b,1,none⟩=false:=by simp [World.frozen?,hblk]
   have P2:=P1.out.next hR2 hF2 hl;have H3:=lh (Got.text (t':=ByteArray.empty) HP.out.lt HP.out.le G2 F2 hR2);have P2':Pre (w2.setCell ⟨b,1,none⟩ (.string ByteArray.empty)) rb B d ts2:=⟨H3.out.2.2,P2.deep,P2.lt,by rw [Yn]; exact P2.le,P2.few⟩
   have P2:=lh P2;have P2':=lh P2';have F2:=lh F2;have G2:=lh G2;clear hG hR2 hF2 HV hl hblk;rcases Z29 H2.out with ⟨hs,h3⟩ | ⟨hs,rfl⟩
   ·have h3 := Yk h3;have HR := lh h3.symm;cases body
    ·have HC := Z2b _ rb ts2 d Z01 P2'.out.rd hs;unfold Z01 at HC;have HC := lh HC;clear hs h3;go_wp2_with fail
     refine HC.out.mono ?_;rintro e w3 ⟨rfl,hR3,hF3⟩;have R3:=lh hR3;have F3:=lh hF3;clear hR3 hF3;go_wp2;go_ret;rw [HR.out];exact ⟨_,rfl,H3.out.1.rfr HP.out.lt F3.out,R3.out,H3.out.2.1.trans F3.out⟩
    ·have HC := Z2b _ rb ts2 d Z01 P2.out.rd hs;unfold Z01 at HC;have HC := lh HC;clear hs h3;go_wp2_with fail
     refine HC.out.mono ?_;rintro e w3 ⟨rfl,hR3,hF3⟩;have R3:=lh hR3;have F3:=lh hF3;clear hR3 hF3;go_wp2;go_ret;rw [HR.out];exact ⟨_,rfl,G2.out.rfr HP.out.lt F3.out,R3.out,F2.out.trans F3.out⟩
   ·cases body
    ·have HC := Z3k _ rb ts2 d Z01 P2'.out.rd hs;unfold Z01 at HC;have HC := lh HC;clear hs;go_wp2_with fail
     refine HC.out.mono ?_;rintro e w3 ⟨⟨b,rfl,h1,h2⟩,hB⟩;exact ⟨rfl,Z0t.err H3.out.2.1 ⟨b,rfl,h1,h2⟩ hB⟩
    ·have HC := Z3k _ rb ts2 d Z01 P2.out.rd hs;unfold Z01 at HC;have HC := lh HC;clear hs;go_wp2_with fail
     refine HC.out.mono ?_;rintro e w3 ⟨⟨b,rfl,h1,h2⟩,hB⟩;exact ⟨rfl,Z0t.err F2.out ⟨b,rfl,h1,h2⟩ hB⟩
 ·have HC := lh (Z3k w rb ts d Zi hP.rd hs);clear hP hp hw hs;go_enter Tryz.func73, Tryz.ntmps73
  go_wp2_with fail
  refine HC.out.mono ?_;rintro e w3 ⟨⟨b,rfl,h1,h2⟩,hB⟩;exact ⟨rfl,Z0t.err (RFr.refl _ _) ⟨b,rfl,h1,h2⟩ hB⟩
theorem Zhi (f:Nat) (kind:Int) (must:Bool) (hV:Says 80 rArg .value f) :
 Says 76 (fun rb=>#[.pointer (some ⟨rb,0,none⟩),.int .i64 kind,.bool must]) (.decl kind must) (f + 1):=by
 intro w rb B d ts r hP hp;have hw:Z3f ts (fun s ts=>if must && !isT s_eq ts then Z30 3 ts else if isT s_eq ts then Z0g (Z0 f .value d ts.tail) fun x ts=>okT (.mk kind s 0 [x]) ts else okT (.mk kind s 0 []) ts)=some r:=hp;have HP:=lh hP;simp only;rcases Z3x hw with ⟨hk,h1⟩ | ⟨hk,rfl⟩
 ·have HC := lh (Z44 w rb ts d hP.rd hk);obtain ⟨s, hs⟩ := zX ((hdT ts).text)
  rw [← hs] at HC h1;have H1:=lh h1;clear hP hp hw hk h1 hs;go_enter Tryz.func76,Tryz.ntmps76
  go_wp2_with fail
  refine HC.out.mono ?_;rintro e w1 ⟨rfl,hR1,hF1⟩;have P1:=HP.out.tail hR1 hF1;have HN:=lh (Z14 w1 rb kind s none 0 0);have hal:Below w1.heap.size w1 (w1.alloc (.cells #[.int .i64 kind,.string s,.int .i64 0,.slice none 0 0] 38)):=(Y8 _ _).alloc (Y5 _) _;obtain ⟨nb,hnb⟩:=zX w1.heap.size
  have G2:=Got.leaf (k:=kind) (t:=s) (n:=0) HP.out.le hF1;have P2:=P1.below hal;have F2:=hF1.trans (RFr.below (rb:=rb) hal);rw [← hnb] at G2 HN;go_wp2_with fail
  refine HN.out.mono ?_;rintro e w2 ⟨rfl,hw2⟩;rw [← hw2] at G2 P2 F2;have HNB:=lh hnb;have G2:=lh G2;have P2:=lh P2;have F2:=lh F2;clear hR1 hF1 HC P1 HN hal hnb hw2;obtain ⟨us,hus⟩:=zX ts.tail
  rw [← hus] at P2 H1;have HUS:=lh hus;clear hus;by_cases he:isT s_eq us=true
  ·have h1 := H1.out;rw [Y9 (by rw [he]; simp), Yb he] at h1;have HI := Z4h w2 rb us d s_eq P2.out.rd;rw [he] at HI;unfold s_eq at HI;have HI := lh HI;have HE := lh he;have H2 := lh h1;clear h1 he;have key : ∀ w3, Below w2.heap.size w2 w3 → Hid (Pre w3 rb B d us ∧ Got w B w3 (.mk nb (.slice none 0 0) kind s 0 []) (.mk kind s 0 []) ∧ RFr w w3 rb) := fun w3 hB => lh ⟨P2.out.below hB, G2.out.rfr HP.out.lt (RFr.below (rb := rb) hB), F2.out.trans (RFr.below hB)⟩;have KEY := lh key;clear key;cases must
   ·have PX := lh P2.out;have GX := lh G2.out;have FX := lh F2.out;clear KEY HI;have HX := HP.out.lt;have hlt := HP.out.lt;have HT := Z1g w2 rb us d s_eq PX.out.rd HE.out;unfold s_eq at HT;have HT := lh HT;go_wp2_with fail
    refine HT.out.mono ?_;rintro e w5 ⟨rfl,hR5,hF5⟩;have P5:=PX.out.tail hR5 hF5;have G5:=GX.out.rfr hlt hF5;have F5:=FX.out.trans hF5;have hblk5:=G5.at'.blkOf;simp only [ATree.b,ATree.v,ATree.kind,ATree.text,ATree.n] at hblk5;have n3:w5.cell? ⟨nb,3,none⟩=some (.slice none 0 0):=by simp [World.cell?,hblk5]
    have P5:=lh P5;have G5:=lh G5;have F5:=lh F5;clear hR5 hF5 hblk5 HT PX GX FX;go_wp2_with fail
    refine Zf [0,2,4,6,8,10,13,15,17] [9,10,11] (fun W=>W.cell? ⟨nb,3,none⟩=some (.slice none 0 0)) n3 fun _=>?_;simp only [Zh,pD,zD,zE,zF,zG,zH,zI,zJ,zK]
    iterate 6
     first | refine Za _ ?_ | refine Zb ?_
     simp only [Act.put,zA,zB,zC]
    refine Z5 (fun K hK=>?_);go_simp
    have P6:Pre w5.drew rb B d us.tail:=P5.out.below (Y8 _ _).drew;rcases Z09 H2.out with ⟨⟨c,p⟩,hv,rfl⟩ | ⟨t,vs,hv,hq3⟩
    ·refine (hV w5.drew rb B d _ _ P6 hv).mono ?_;rintro e w3 ⟨⟨b,rfl,h1,h2⟩,hF3⟩;exact ⟨rfl,Z0t.pre F5.out.drew (r:=.error (c,p)) ⟨⟨b,rfl,h1,h2⟩,hF3⟩⟩
    ·obtain rfl := Yk hq3;refine (hV w5.drew rb B d _ _ P6 hv).mono ?_;rintro e w3 ⟨a, rfl, hA, hR3, hF3⟩;have hF53 : RFr w5 w3 rb := (RFr.refl w5 rb).drew.trans hF3;have hN3 := G5.out.rfr hlt hF53;have hblk := hN3.at'.blkOf;simp only [ATree.b, ATree.v, ATree.kind, ATree.text, ATree.n] at hblk;have m3 : w3.cell? ⟨nb, 3, none⟩ = some (.slice none 0 0) := by simp [World.cell?, hblk]
     have mz:w3.frozen? ⟨nb,3,none⟩=false:=by simp [World.frozen?,hblk]
     have hnb3:nb < w3.heap.size:=(Y6.1 hblk).1;have hk4:([]:List ATree).length≤4000:=by simp
     have NE:Hid ((Value.slice none 0 0).ownBlock≠some nb):=lh (by simp [Value.ownBlock]);have N3:=lh hN3;have A3:=lh hA;have R3:=lh hR3;have F3:=lh (F5.out.trans hF53);refine hK _ _ m3 ?_;obtain ⟨i0,hi,hz0,hz1,hz2⟩:=info_parts Tryz.infoPtr;clear hK K hA hR3 hF3 hF53 hN3 hblk hv hq3 n3;refine Z5 (fun K hK=>?_);go_simp
     refine hK _ _ ((Z8 hnb3).trans m3) ?_;clear hK K;refine Z5 (fun K hK=>?_)
     refine step_append_lies _ (by rfl) (.tmp 27) (.tmp 30) 36 (by rfl) B 22 i0 _ 1 8 Tryz.underlying36 hi hz0 hz1 hz2 rfl (by decide) (.slice none 0 0) (([]:List ATree)).length ((([]:List ATree)).map ATree.ptr) (by rfl) (N3.out.at'.rowOf.alloc _) ⟨w3.heap.size,0,none⟩ 1 1 [a.ptr] (by rfl) rfl (Yi (cs:=#[a.ptr]) (t:=22) (fr:=(0,0)) (heap_alloc_new w3 _)) (by simp [ATree.ptr,Value.oneCell']) (by decide) (by unfold maxLen; omega) (by omega) (by simp; have:=F3.out.size; have:=HP.out.le; omega) (w3.heap.size + 1) (by simp) ?_;intro gg cap w4 hown4 hgrow4 hat4 hlt4
     have m4:w4.cell? ⟨nb,3,none⟩=some (.slice none 0 0):=(hgrow4.cell_far ⟨nb,3,none⟩ (by simp; omega) (fun e=>NE.out e.symm)).trans ((Z8 hnb3).trans m3);have mz4:w4.frozen? ⟨nb,3,none⟩=false:=(hgrow4.frozen_far ⟨nb,3,none⟩ (by simp; omega) (fun e=>NE.out e.symm)).trans ((Z0m hnb3).trans mz);refine hK _ _ m4 ?_;clear hK K;simp only [Act.put,zA,zB,zC]
     have hfin:=Got.push hlt HP.out.le N3.out (wA:=w5.drew) (fun x hx=>(G5.out.new x hx).2) A3.out F3.out R3.out ((Y8 _ _).alloc (Y5 _) _) hgrow4 hown4 (by rcases hat4 with h | h; (exact .inl h); (exact .inr (by omega))) hlt4;have FIN:=lh hfin;clear hgrow4 hown4 hat4 hlt4 hfin;refine Z6 ?_;go_wp2;go_ret;exact ⟨_,rfl,FIN.out.1,FIN.out.2.2,FIN.out.2.1⟩
   ·go_wp2_with fail
    refine HI.out.mono ?_;rintro e wq ⟨rfl,hBq⟩;have hk:=KEY.out wq hBq;have PX:=lh hk.out.1;have GX:=lh hk.out.2.1;have FX:=lh hk.out.2.2;clear KEY HI hBq hk P2 G2 F2;have HX:=HP.out.lt;have hlt:=HP.out.lt;have HT:=Z1g wq rb us d s_eq PX.out.rd HE.out;unfold s_eq at HT;have HT:=lh HT;go_wp2_with fail
    refine HT.out.mono ?_;rintro e w5 ⟨rfl,hR5,hF5⟩;have P5:=PX.out.tail hR5 hF5;have G5:=GX.out.rfr hlt hF5;have F5:=FX.out.trans hF5;have hblk5:=G5.at'.blkOf;simp only [ATree.b,ATree.v,ATree.kind,ATree.text,ATree.n] at hblk5;have n3:w5.cell? ⟨nb,3,none⟩=some (.slice none 0 0):=by simp [World.cell?,hblk5]
    have P5:=lh P5;have G5:=lh G5;have F5:=lh F5;clear hR5 hF5 hblk5 HT PX GX FX;go_wp2_with fail
    refine Zf [0,2,4,6,8,10,13,15,17] [9,10,11] (fun W=>W.cell? ⟨nb,3,none⟩=some (.slice none 0 0)) n3 fun _=>?_;simp only [Zh,pD,zD,zE,zF,zG,zH,zI,zJ,zK]
    iterate 6
     first | refine Za _ ?_ | refine Zb ?_
     simp only [Act.put,zA,zB,zC]
    refine Z5 (fun K hK=>?_);go_simp
    have P6:Pre w5.drew rb B d us.tail:=P5.out.below (Y8 _ _).drew;rcases Z09 H2.out with ⟨⟨c,p⟩,hv,rfl⟩ | ⟨t,vs,hv,hq3⟩
    ·refine (hV w5.drew rb B d _ _ P6 hv).mono ?_;rintro e w3 ⟨⟨b,rfl,h1,h2⟩,hF3⟩;exact ⟨rfl,Z0t.pre F5.out.drew (r:=.error (c,p)) ⟨⟨b,rfl,h1,h2⟩,hF3⟩⟩
    ·obtain rfl := Yk hq3;refine (hV w5.drew rb B d _ _ P6 hv).mono ?_;rintro e w3 ⟨a, rfl, hA, hR3, hF3⟩;have hF53 : RFr w5 w3 rb := (RFr.refl w5 rb).drew.trans hF3;have hN3 := G5.out.rfr hlt hF53;have hblk := hN3.at'.blkOf;simp only [ATree.b, ATree.v, ATree.kind, ATree.text, ATree.n] at hblk;have m3 : w3.cell? ⟨nb, 3, none⟩ = some (.slice none 0 0) := by simp [World.cell?, hblk]
     have mz:w3.frozen? ⟨nb,3,none⟩=false:=by simp [World.frozen?,hblk]
     have hnb3:nb < w3.heap.size:=(Y6.1 hblk).1;have hk4:([]:List ATree).length≤4000:=by simp
     have NE:Hid ((Value.slice none 0 0).ownBlock≠some nb):=lh (by simp [Value.ownBlock]);have N3:=lh hN3;have A3:=lh hA;have R3:=lh hR3;have F3:=lh (F5.out.trans hF53);refine hK _ _ m3 ?_;obtain ⟨i0,hi,hz0,hz1,hz2⟩:=info_parts Tryz.infoPtr;clear hK K hA hR3 hF3 hF53 hN3 hblk hv hq3 n3;refine Z5 (fun K hK=>?_);go_simp
     refine hK _ _ ((Z8 hnb3).trans m3) ?_;clear hK K;refine Z5 (fun K hK=>?_)
     refine step_append_lies _ (by rfl) (.tmp 27) (.tmp 30) 36 (by rfl) B 22 i0 _ 1 8 Tryz.underlying36 hi hz0 hz1 hz2 rfl (by decide) (.slice none 0 0) (([]:List ATree)).length ((([]:List ATree)).map ATree.ptr) (by rfl) (N3.out.at'.rowOf.alloc _) ⟨w3.heap.size,0,none⟩ 1 1 [a.ptr] (by rfl) rfl (Yi (cs:=#[a.ptr]) (t:=22) (fr:=(0,0)) (heap_alloc_new w3 _)) (by simp [ATree.ptr,Value.oneCell']) (by decide) (by unfold maxLen; omega) (by omega) (by simp; have:=F3.out.size; have:=HP.out.le; omega) (w3.heap.size + 1) (by simp) ?_;intro gg cap w4 hown4 hgrow4 hat4 hlt4
     have m4:w4.cell? ⟨nb,3,none⟩=some (.slice none 0 0):=(hgrow4.cell_far ⟨nb,3,none⟩ (by simp; omega) (fun e=>NE.out e.symm)).trans ((Z8 hnb3).trans m3);have mz4:w4.frozen? ⟨nb,3,none⟩=false:=(hgrow4.frozen_far ⟨nb,3,none⟩ (by simp; omega) (fun e=>NE.out e.symm)).trans ((Z0m hnb3).trans mz);refine hK _ _ m4 ?_;clear hK K;simp only [Act.put,zA,zB,zC]
     have hfin:=Got.push hlt HP.out.le N3.out (wA:=w5.drew) (fun x hx=>(G5.out.new x hx).2) A3.out F3.out R3.out ((Y8 _ _).alloc (Y5 _) _) hgrow4 hown4 (by rcases hat4 with h | h; (exact .inl h); (exact .inr (by omega))) hlt4;have FIN:=lh hfin;clear hgrow4 hown4 hat4 hlt4 hfin;refine Z6 ?_;go_wp2;go_ret;exact ⟨_,rfl,FIN.out.1,FIN.out.2.2,FIN.out.2.1⟩
  ·have he' : isT s_eq us = false := by simpa using he
   have h1:=H1.out;cases must
   ·rw [Y9 (by simp), Y9 he] at h1;obtain rfl := Yk h1;have HT := Z22 w2 rb us d s_eq P2.out.rd he';unfold s_eq at HT;have HT := lh HT;clear h1 he he' H1;go_wp2_with fail
    refine HT.out.mono ?_;rintro e w3 ⟨rfl,hB3⟩;have R3:=lh (P2.out.rd.below hB3);have G3:=lh (G2.out.rfr HP.out.lt (RFr.below (rb:=rb) hB3));have F3:=lh (F2.out.trans (RFr.below (rb:=rb) hB3));clear hB3;go_wp2;go_ret;exact ⟨_,rfl,G3.out,R3.out,F3.out⟩
   ·rw [Yb (by rw [he']; rfl)] at h1;obtain rfl := Yk h1;have HI := Z4h w2 rb us d s_eq P2.out.rd;rw [he'] at HI;unfold s_eq at HI;have HI := lh HI;clear h1 he he' H1;go_wp2_with fail
    refine HI.out.mono ?_;rintro e w3 ⟨rfl,hB3⟩;have HF:=lh (Z35 w3 rb us d 3 (P2.out.rd.below hB3));have F3:=lh (F2.out.trans (RFr.below (rb:=rb) hB3));clear hB3;go_wp2_with fail
    refine HF.out.mono ?_;rintro e w4 ⟨⟨b,rfl,h1,h2⟩,hB⟩;exact ⟨rfl,Z0t.err F3.out ⟨b,rfl,h1,h2⟩ hB⟩
 ·have HC := lh (Z61 w rb ts d hP.rd hk);clear hP hp hw hk;go_enter Tryz.func76, Tryz.ntmps76
  go_wp2_with fail
  refine HC.out.mono ?_;rintro e w3 ⟨⟨b,rfl,h1,h2⟩,hB⟩;exact ⟨rfl,Z0t.err (RFr.refl _ _) ⟨b,rfl,h1,h2⟩ hB⟩
theorem Zd2 (f:Nat) (hBn:Says 115 (fun rb=>#[.pointer (some ⟨rb,0,none⟩),.int .i64 0]) (.bin 0) f) (hV:Says 80 rArg .value f) :
 Says 101 rArg .assign (f + 1):=by
 intro w rb B d ts r hP hp;have hw:Z0g (Z0 f (.bin 0) d ts) (fun x ts'=>if isT s_eq ts' then (if x.kind=23∨x.kind=36 then Z0g (Z0 f .value d ts'.tail) fun y ts=>okT (.mk 24 ByteArray.empty 0 [x,y]) ts else some (.error (1,(hdT ts).at'))) else okT x ts')=some r:=hp;have HP:=lh hP;obtain ⟨tb,off,cap,h⟩:=hP.rd;have c0:=h.c0;have t3:=h.hd (j:=3) rfl;have hpos:=h.pos;have hm:=h.most;have hle:=h.le;unfold maxLen at hm;obtain ⟨n,hn⟩:=zX ts.length
 rw [← hn] at c0 hpos hle;have H1:=lh hw;unfold rArg;obtain ⟨pl,hpl⟩:=zX ((hdT ts).at')
 rw [← hpl] at t3;have HPL:=lh hpl;clear hP hp hw h hn hpl;have hlt:=HP.out.lt;rcases Z09 H1.out with ⟨⟨c,p⟩,hv,rfl⟩ | ⟨t,us,hv,h2⟩
 ·have HV := lh (hBn w rb B d _ _ HP.out hv);clear hv;go_enter Tryz.func101, Tryz.ntmps101
  go_wp2_with fail
  refine HV.out.mono ?_;rintro e w2 ⟨⟨b,rfl,h1,h2⟩,hF⟩;exact ⟨rfl,⟨b,rfl,h1,h2⟩,hF⟩
 ·have HV := lh (hBn w rb B d _ _ HP.out hv);have hl := Z1h hv;have H2 := lh h2;clear hv h2;go_enter Tryz.func101, Tryz.ntmps101
  go_wp2_with fail
  refine HV.out.mono ?_;rintro e w2 ⟨a,rfl,hG,hR2,hF2⟩;have hblk:=hG.at'.blkOf;have d0:w2.cell? ⟨a.b,0,none⟩=some (.int .i64 a.kind):=by simp [World.cell?,hblk]
  have hka:a.kind=t.kind:=by rw [← hG.tree]; cases a; rfl
  have HKA:=lh hka;have P2:=lh (HP.out.next hR2 hF2 hl);have G2:=lh hG;have F2:=lh hF2;obtain ⟨ab,hab⟩:=zX a.b
  obtain ⟨ak,hak⟩:=zX a.kind
  have hal:=G2.out.at'.lt;rw [← hab] at d0 hal ⊢;rw [← hak] at d0;have HAB:=lh hab;have HAK:=lh hak;clear hR2 hF2 hG HV hl hblk hka hab hak c0 t3;by_cases he:isT s_eq us=true
  ·have h3 := H2.out;rw [Yb he] at h3;have HI := Z4h w2 rb us d s_eq P2.out.rd;rw [he] at HI;unfold s_eq at HI;have HI := lh HI;have HE := lh he;clear he;go_wp2_with fail
   refine HI.out.mono ?_;rintro e w3 ⟨rfl,hB3⟩;have P3:=lh (P2.out.below hB3);have G3:=lh (G2.out.rfr hlt (RFr.below (rb:=rb) hB3));have F3:=lh (F2.out.trans (RFr.below (rb:=rb) hB3));have d0':=(hB3.cell (p:=⟨ab,0,none⟩) hal).trans d0;clear hB3 HI;by_cases hk:t.kind=23∨t.kind=36
   ·rw [Yb hk] at h3;have H3 := lh h3;clear h3;have HT := Z1g w3 rb us d s_eq P3.out.rd HE.out;unfold s_eq at HT;have HT := lh HT;have hak2 : ak = 23 ∨ ak = 36 := by rw [HAK.out, HKA.out]; exact hk
    clear hk;rcases hak2 with rfl | rfl
    all_goals
     go_wp2_with fail
     refine HT.out.mono ?_;rintro e w5 ⟨rfl,hR5,hF5⟩;have P5:=P3.out.tail hR5 hF5;have G5:=lh (G3.out.rfr hlt hF5);have F5:=lh (F3.out.trans hF5);rcases Z09 H3.out with ⟨⟨c,p⟩,hv,rfl⟩ | ⟨y,vs,hv,h4⟩
     ·have HV := lh (hV w5 rb B d _ _ P5 hv);clear hv hR5 hF5;go_wp2_with fail
      refine HV.out.mono ?_;rintro e w6 ⟨⟨b,rfl,h1,h2⟩,hF⟩;exact ⟨rfl,Z0t.pre F5.out (r:=.error (c,p)) ⟨⟨b,rfl,h1,h2⟩,hF⟩⟩
     ·obtain rfl := Yk h4;have HV := lh (hV w5 rb B d _ _ P5 hv);clear hv hR5 hF5 h4;go_wp2_with fail
      refine HV.out.mono ?_;rintro e w6 ⟨c,rfl,hC,hR6,hF6⟩;have G6:=G5.out.rfr hlt hF6;have FIN:=lh (Got.two (k:=24) (t:=⟨#[]⟩) HP.out.le (F5.out.trans hF6) G6 (wA:=w5) (fun x hx=>(G5.out.new x hx).2) F5.out.size hC);have hb1:Below w6.heap.size w6 (w6.alloc (.cells #[.pointer (some ⟨ab,0,none⟩),.pointer (some ⟨c.b,0,none⟩)] 22)):=(Y8 _ _).alloc (Y5 _) _
      have hb2:Below w6.heap.size w6 ((w6.alloc (.cells #[.pointer (some ⟨ab,0,none⟩),.pointer (some ⟨c.b,0,none⟩)] 22)).alloc (.cells #[.int .i64 24,.string ⟨#[]⟩,.int .i64 0,.slice (some ⟨w6.heap.size,0,none⟩) 2 2] 38)):=hb1.alloc (by simp) _;have R6:=lh (hR6.below hb2);have F6:=lh ((F5.out.trans hF6).trans (RFr.below (rb:=rb) hb2));clear hC hR6 hF6 G6 HV hb1 hb2;go_wp2_with fail
      refine (Z14 _ rb 24 ⟨#[]⟩ _ 2 2).mono ?_;rintro e w7 ⟨rfl,rfl⟩;go_wp2;go_ret;refine ⟨.mk (w6.heap.size + 1) (.slice (some ⟨w6.heap.size,0,none⟩) 2 2) 24 ⟨#[]⟩ 0 [a,c],rfl,?_,R6.out,F6.out⟩;rw [HAB.out];exact FIN.out
   ·rw [Y9 hk] at h3;obtain rfl := Yk h3;have n23 : (ak != 23) = true := by rw [HAK.out, HKA.out]; simp; omega
    have n36:(ak != 36)=true:=by rw [HAK.out,HKA.out]; simp; omega
    clear h3 hk;go_wp2;refine ⟨rfl,?_⟩;rw [← HPL.out];exact Z0t.err F3.out (Za2 (Y5 _)) ((Y8 _ _).alloc (Y5 _) _)
  ·have he' : isT s_eq us = false := by simpa using he
   have h3:=H2.out;rw [Y9 he] at h3;obtain rfl:=Yk h3;have HI:=Z4h w2 rb us d s_eq P2.out.rd;rw [he'] at HI;unfold s_eq at HI;have HI:=lh HI;clear h3 he he';go_wp2_with fail
   refine HI.out.mono ?_;rintro e w3 ⟨rfl,hB3⟩;have R3:=lh (P2.out.rd.below hB3);have G3:=lh (G2.out.rfr hlt (RFr.below (rb:=rb) hB3));have F3:=lh (F2.out.trans (RFr.below (rb:=rb) hB3));clear hB3;go_wp2;go_ret;rw [HAB.out];exact ⟨a,rfl,G3.out,R3.out,F3.out⟩
theorem Z71 (w0 w:World) (rb B d:Nat) (ts:List Tok) (a:ATree) (t:Tree) (r:Except (Int×Nat) (Tree×List Tok)) (hP:Pre w rb B d ts) (hG:Got w0 B w a t) (hF:RFr w0 w rb) (hr:endT t ts=some r) :
 Calls Tryz.prog 75 #[.pointer (some ⟨rb,0,none⟩),.pointer (some ⟨a.b,0,none⟩)] w (Z0t w0 rb B d r):=by
 have HP:=lh hP;have HG:=lh hG;have HF:=lh hF;rcases Z29 hr with ⟨hs,h1⟩ | ⟨hs,rfl⟩
 ·obtain rfl := Yk h1;have HC := lh (Z2b w rb ts d Zs hP.rd hs);clear hP hG hF hr hs h1;go_enter Tryz.func75, Tryz.ntmps75
  go_wp2_with fail
  refine HC.out.mono ?_;rintro e w3 ⟨rfl,hR3,hF3⟩;have R3:=lh hR3;have F3:=lh hF3;clear hR3 hF3 HC;go_wp2;go_ret;exact ⟨a,rfl,HG.out.rfr HP.out.lt F3.out,R3.out,HF.out.trans F3.out⟩
 ·have HC := lh (Z3k w rb ts d Zs hP.rd hs);clear hP hG hF hr hs;go_enter Tryz.func75, Tryz.ntmps75
  go_wp2_with fail
  refine HC.out.mono ?_;rintro e w3 ⟨⟨b,rfl,h1,h2⟩,hB⟩;exact ⟨rfl,Z0t.err HF.out ⟨b,rfl,h1,h2⟩ hB⟩
def Zgb (f d:Nat) (kind:Int) (text:ByteArray) (p:Tree) (ts:List Tok):PR:=Z1e Z0v ts fun ts=>Z0g (Z0 f (.block true) d ts) fun b ts=>okT (.mk kind text 0 [p,b]) ts
theorem Z8q {ts:List Tok} {k:ByteArray→List Tok→PR} {kk:Tree→List Tok→PR} {r:Except (Int×Nat) (Tree×List Tok)} (h:Z0g (Z3f ts k) kk=some r):((hdT ts).kind=1∧Z0g (k (hdT ts).text ts.tail) kk=some r)∨((hdT ts).kind≠1∧r=.error (3,(hdT ts).at')):=by
 unfold Z3f at h;by_cases hk:(hdT ts).kind=1;·rw [Yb hk] at h; exact .inl ⟨hk,h⟩
 ·rw [Y9 hk] at h; exact .inr ⟨hk,(Yk h).symm⟩
theorem Z78 {ts:List Tok} (h:(hdT ts).kind=1):0 < ts.length:=by
 cases ts with
 | nil=>simp [hdT] at h
 | cons t l=>simp
def Zgj (g f d:Nat) (kind:Int) (text:ByteArray) (acc:List Tree) (us:List Tok):PR:=Z0g (if acc.length=8 then Z30 4 us else Z3f us fun s ts=>Z0 g (.params (acc ++ [.mk 23 s 0 []])) d ts) (Zgb f d kind text)
theorem Zhb (F:Nat) (kind:Int) (text:ByteArray) (hB:Says 73 (fun rb=>#[.pointer (some ⟨rb,0,none⟩),.bool true]) (.block true) F) :
 Says 77 (fun rb=>#[.pointer (some ⟨rb,0,none⟩),.int .i64 kind,.string text]) (.func kind text) (F + 1):=by
 intro w rb B d ts r hP hp;have hw:Z1e Z0u ts (fun ts=>Z0g (Z0 F (.params []) d ts) (Zgb F d kind text))=some r:=hp;have HP:=lh hP;have HBL:=lh hB;simp only;rcases Z29 hw with ⟨hs,h1⟩ | ⟨hs,rfl⟩
 ·have HC := lh (Z2b w rb ts d Z0u hP.rd hs);have H1 := lh h1;clear hP hp hw hs h1 hB;go_enter Tryz.func77, Tryz.ntmps77
  go_wp2_with fail
  refine HC.out.mono ?_;rintro e w1 ⟨rfl,hR1,hF1⟩;have P1:=lh (HP.out.tail hR1 hF1);have HN:=lh (Z14 w1 rb 40 ⟨#[]⟩ none 0 0);obtain ⟨nb,hnb⟩:=zX w1.heap.size
  have G0:=Got.leaf (k:=40) (t:=⟨#[]⟩) (n:=0) HP.out.le hF1;have hal:Below w1.heap.size w1 (w1.alloc (.cells #[.int .i64 40,.string ⟨#[]⟩,.int .i64 0,.slice none 0 0] 38)):=(Y8 _ _).alloc (Y5 _) _;have R0:=hR1.below hal;have F0:=hF1.trans (RFr.below (rb:=rb) hal);rw [← hnb] at G0 HN;obtain ⟨us0,hus0⟩:=zX ts.tail
  have hul:us0.length≤ts.length:=by rw [hus0]; simp
  rw [← hus0] at R0 H1;clear hus0;go_wp2_with fail
  refine HN.out.mono ?_;rintro e w2 ⟨rfl,hw2⟩;rw [← hw2] at G0 R0 F0;have hst:∃ (g:Nat) (acc:List Tree) (us:List Tok) (v:Value) (kids:List ATree),g≤F∧Z0g (Z0 g (.params acc) d us) (Zgb F d kind text)=some r∧Got w B w2 (.mk nb v 40 ⟨#[]⟩ 0 kids) (.mk 40 ⟨#[]⟩ 0 acc)∧Rd w2 rb us d∧RFr w w2 rb∧acc.length≤8∧us.length≤ts.length:=
   ⟨F,[],us0,_,[],Y5 _,H1.out,G0,R0,F0,by simp,hul⟩
  have ST:=lh hst;have HNB:=lh hnb;clear hst hw2 G0 R0 F0 HC HN hnb hF1 hR1 P1 H1 hal hul;go_wp2_with fail
  go_loopw [] (fun wr=>∃ (g:Nat) (acc:List Tree) (us:List Tok) (v:Value) (kids:List ATree),g≤F∧Z0g (Z0 g (.params acc) d us) (Zgb F d kind text)=some r∧Got w B wr (.mk nb v 40 ⟨#[]⟩ 0 kids) (.mk 40 ⟨#[]⟩ 0 acc)∧Rd wr rb us d∧RFr w wr rb∧acc.length≤8∧us.length≤ts.length) (fun wr=>leftOf wr rb)
  case atStart=>exact ST.out
  case round=>
   obtain ⟨g,acc,us,v,kids,hg,hq,hG,hR,hF,hl,hu⟩:=hrel;have G:=lh hG;have R:=lh hR;have FF:=lh hF;have RL:=lh hR.left;cases g with
   | zero=>cases hq
   | succ g=>
   rw [Z0] at hq;have HB:=Z4h wr rb us d Z0v hR;by_cases hb:isT Z0v us=true
   ·rw [hb] at HB;rw [Yb hb] at hq;have hq : Zgb F d kind text (.mk 40 ByteArray.empty 0 acc) us = some r := hq;have HB := lh HB;have HQ := lh hq;have HI := lh hb;unfold Z0v at HB;clear hG hR hF hq hb ST;go_wp2_with fail
    refine HB.out.mono ?_;rintro e w3 ⟨rfl,hB3⟩;have hlt:=HP.out.lt;have F3:=FF.out.trans (RFr.below (rb:=rb) hB3);have G3:=G.out.rfr hlt (RFr.below (rb:=rb) hB3);have R3:=R.out.below hB3;have P3:Pre w3 rb B d us:=⟨R3,HP.out.deep,hlt,Ya HP.out.le F3.size,Ya hu HP.out.few⟩
    have HC:=Z2b w3 rb us d Z0v R3 HI.out;unfold Z0v at HC;have HC:=lh HC;have F3:=lh F3;have G3:=lh G3;have P3:=lh P3;obtain ⟨_,h3⟩:isT Z0v us=true∧Z0g (Z0 F (.block true) d us.tail) (fun b ts=>okT (.mk kind text 0 [.mk 40 ByteArray.empty 0 acc,b]) ts)=some r:=by
     rcases Z29 HQ.out with h | ⟨hs,_⟩;·exact h
     ·rw [HI.out] at hs; cases hs
    have H3:=lh h3;clear hB3 R3 h3 FF G R HB HQ;go_wp2_with fail
    refine HC.out.mono ?_;rintro e w4 ⟨rfl,hR4,hF4⟩;have P4:=lh (P3.out.tail hR4 hF4);have F4:=lh (F3.out.trans hF4);have G4:=lh (G3.out.rfr hlt hF4);clear hR4 hF4 HC F3 G3;rcases Z09 H3.out with ⟨⟨c,p⟩,hv,rfl⟩ | ⟨t,ts2,hv,h4⟩
    ·have HV := lh (HBL.out w4 rb B d _ _ P4.out hv);clear hv;go_wp2_with fail
     refine HV.out.mono ?_;rintro e w5 ⟨⟨b,rfl,h1,h2⟩,hF⟩;exact ⟨rfl,Z0t.pre F4.out (r:=.error (c,p)) ⟨⟨b,rfl,h1,h2⟩,hF⟩⟩
    ·have HV := lh (HBL.out w4 rb B d _ _ P4.out hv);obtain rfl := Yk h4;clear hv;go_wp2_with fail
     refine HV.out.mono ?_;rintro e w5 ⟨a,rfl,hG5,hR5,hF5⟩;have G5:=lh hG5;have R5:=lh hR5;have F5:=lh hF5;clear hG5 hR5 hF5 HV;have HN:=lh (Z14 (w5.alloc (.cells #[.pointer (some ⟨nb,0,none⟩),.pointer (some ⟨a.b,0,none⟩)] 22)) rb kind text (some ⟨w5.heap.size,0,none⟩) 2 2);go_wp2_with fail
     refine HN.out.mono ?_;rintro e w6 ⟨rfl,hw6⟩;have hfin:=Got.two (k:=kind) (t:=text) HP.out.le (F4.out.trans F5.out) (G4.out.rfr hlt F5.out) (wA:=w4) (fun x hx=>(G4.out.new x hx).2) F4.out.size G5.out;have hal6:=((Y8 w5.heap.size w5).alloc (Y5 _) (.cells #[.pointer (some ⟨nb,0,none⟩),.pointer (some ⟨a.b,0,none⟩)] 22))
     have hR6:Rd w6 rb ts2 d:=by rw [hw6]; exact (R5.out.below hal6).below ((Y8 _ _).alloc (Y5 _) _)
     have hF6:RFr w w6 rb:=by rw [hw6]; exact ((F4.out.trans F5.out).trans (RFr.below hal6)).trans (RFr.below ((Y8 _ _).alloc (Y5 _) _))
     have FIN:=lh hfin;have HW6:=lh hw6;have R6:=lh hR6;have F6:=lh hF6;clear hfin hw6 hR6 hF6 hal6 HN;go_wp2;go_ret;refine ⟨_,?pt,(by rw [HW6.out]; exact FIN.out),R6.out,F6.out⟩;case pt=>simp [ATree.b]
   ·have hb' : isT Z0v us = false := by simpa using hb
    rw [hb'] at HB;rw [Y9 hb] at hq;have HB:=lh HB;have HQ:=lh hq;unfold Z0v at HB;have hkl:kids.length=acc.length:=by
     have:=hG.tree;simp only [ATree.tree,Tree.mk.injEq,true_and] at this;rw [← this,Z26,Yv]
    have HKL:=lh hkl;clear hG hR hF hq hb hb' ST hkl;go_wp2_with fail
    refine HB.out.mono ?_;rintro e w3 ⟨rfl,hB3⟩;have hlt:=HP.out.lt;have F3:=FF.out.trans (RFr.below (rb:=rb) hB3);have G3:=G.out.rfr hlt (RFr.below (rb:=rb) hB3);have R3:=R.out.below hB3;have P3:Pre w3 rb B d us:=⟨R3,HP.out.deep,hlt,Ya HP.out.le F3.size,Ya hu HP.out.few⟩
    obtain ⟨p,cp,rfl⟩:∃ p cp,v=.slice p kids.length cp:=by
     rcases Zp G3.at'.rowOf with ⟨h1,h2⟩ | ⟨g0,cap0,h1,_⟩
     ·simp only [ATree.v,ATree.kids] at h1 h2;exact ⟨none,0,by rw [h1,h2]⟩
     ·exact ⟨_,_,h1⟩
    have hblk:=G3.at'.blkOf;simp only [ATree.b,ATree.v,ATree.kind,ATree.text,ATree.n] at hblk;have n3:w3.cell? ⟨nb,3,none⟩=some (.slice p kids.length cp):=by simp [World.cell?,hblk]
    have F3:=lh F3;have G3:=lh G3;have P3:=lh P3;have HU:=lh hu;have HL:=lh hl;clear hB3 R3 FF G R HB hblk hu hl;by_cases h0:acc.length=0
    ·have a0 : decide (0 < kids.length) = false := by have := HKL.out; simp; exact List.eq_nil_of_length_eq_zero (by omega)
     have hq2:Zgj g F d kind text acc us=some r:=by have h:=HQ.out; rw [Y9 (by omega)] at h; exact h
     have h8:¬ acc.length=8:=by omega
     have PQ:=lh (show Pre w3 rb B d us∧us.length≤ts.length from ⟨P3.out,HU.out⟩);have GQ:=G3;have FQ:=F3;have PL:=lh (Y5 us.length);clear HQ;have n8:((kids.length:Int) == 8)=false:=by have:=HKL.out; simp; omega
     have HQ2:=hq2;unfold Zgj at HQ2;rw [Y9 h8] at HQ2;have HQ2:=lh HQ2;clear hq2;go_wp2_with fail
     refine Zf [0,2,4,6,8,10,12,15,17,19,21] [11,12,13] (fun W=>W.cell? ⟨nb,3,none⟩=some (.slice p kids.length cp)) n3 fun _=>?_;simp only [Zh,pD,zD,zE,zF,zG,zH,zI,zJ,zK]
     iterate 7
      first | refine Za _ ?_ | refine Zb ?_
      simp only [Act.put,zA,zB,zC]
     refine Z5 (fun K hK=>?_);go_simp
     have hus:us.length≤ts.length:=PQ.out.2;rcases Z8q HQ2.out with ⟨hk,h1⟩ | ⟨hk,rfl⟩
     ·refine (Z44 w3.drew rb us d PQ.out.1.rd.drew hk).mono ?_;rintro e wa ⟨rfl, hRa, hFa⟩;have hFwa : RFr w3 wa rb := (RFr.refl w3 rb).drew.trans hFa;have hNa := GQ.out.rfr hlt hFwa;have hblk := hNa.at'.blkOf;simp only [ATree.b, ATree.v, ATree.kind, ATree.text, ATree.n] at hblk;have m3 : wa.cell? ⟨nb, 3, none⟩ = some (.slice p kids.length cp) := by simp [World.cell?, hblk]
      refine hK _ _ m3 ?_;clear hK K;refine Z5 (fun K hK=>?_);go_simp
      have hala:Below wa.heap.size wa (wa.alloc (.cells #[.int .i64 23,.string (hdT us).text,.int .i64 0,.slice none 0 0] 38)):=(Y8 _ _).alloc (Y5 _) _;have hA:=Got.leaf (w0:=wa) (w:=wa) (rb:=rb) (B:=B) (k:=23) (t:=(hdT us).text) (n:=0) (Ya HP.out.le (FQ.out.trans hFwa).size) (RFr.refl _ _);refine (Z14 wa rb 23 (hdT us).text none 0 0).mono ?_;rintro e w3' ⟨rfl,hw3'⟩;rw [← hw3'] at hA hala;have hF23:RFr w3 w3' rb:=hFwa.trans (RFr.below hala);have hN3:=hNa.rfr hlt (RFr.below (rb:=rb) hala);have hR3:=hRa.below hala
      have hblk:=hN3.at'.blkOf;simp only [ATree.b,ATree.v,ATree.kind,ATree.text,ATree.n] at hblk;have m3:w3'.cell? ⟨nb,3,none⟩=some (.slice p kids.length cp):=by simp [World.cell?,hblk]
      have mz:w3'.frozen? ⟨nb,3,none⟩=false:=by simp [World.frozen?,hblk]
      have hnb3:nb < w3'.heap.size:=(Y6.1 hblk).1;have hnd:=hN3.nodup;simp only [ATree.blocks,List.nodup_cons,List.mem_append,Option.mem_toList,not_or] at hnd;have hne:=hnd.1.1;have hk4:kids.length≤8:=by have:=HKL.out; have:=HL.out; omega
      obtain ⟨a,ha⟩:∃ a:ATree,a=.mk wa.heap.size (.slice none 0 0) 23 (hdT us).text 0 []:=⟨_,rfl⟩
      rw [← ha] at hA;have hap:Value.pointer (some ⟨wa.heap.size,0,none⟩)=.pointer (some ⟨a.b,0,none⟩):=by rw [ha]; rfl
      rw [hap];clear ha hap;have N3:=lh hN3;have A3:=lh hA;have R3:=lh hR3;have F3':=lh (FQ.out.trans hF23);have NE:=lh hne;have NA:=lh (fun x hx=>(hNa.new x hx).2);have HQ3:=lh h1;refine hK _ _ m3 ?_;obtain ⟨i0,hi,hz0,hz1,hz2⟩:=info_parts Tryz.infoPtr;clear hK K hA hR3 hF23 hN3 hblk hnd hne h1 n3 hFa hFwa hNa hRa hala hw3';refine Z5 (fun K hK=>?_);go_simp
      refine hK _ _ ((Z8 hnb3).trans m3) ?_;clear hK K;refine Z5 (fun K hK=>?_)
      refine step_append_lies _ (by rfl) (.tmp 35) (.tmp 40) 36 (by rfl) B 22 i0 _ 1 8 Tryz.underlying36 hi hz0 hz1 hz2 rfl (by decide) (.slice p kids.length cp) kids.length (kids.map ATree.ptr) (by rfl) (N3.out.at'.rowOf.alloc _) ⟨w3'.heap.size,0,none⟩ 1 1 [a.ptr] (by rfl) rfl (Yi (cs:=#[a.ptr]) (t:=22) (fr:=(0,0)) (heap_alloc_new w3' _)) (by simp [ATree.ptr,Value.oneCell']) (by decide) (by unfold maxLen; omega) (by omega) (by simp; have:=F3'.out.size; have:=HP.out.le; omega) (w3'.heap.size + 1) (by simp) ?_;intro gg cap w4 hown4 hgrow4 hat4 hlt4
      have m4:w4.cell? ⟨nb,3,none⟩=some (.slice p kids.length cp):=(hgrow4.cell_far ⟨nb,3,none⟩ (by simp; omega) (fun e=>NE.out e.symm)).trans ((Z8 hnb3).trans m3);have mz4:w4.frozen? ⟨nb,3,none⟩=false:=(hgrow4.frozen_far ⟨nb,3,none⟩ (by simp; omega) (fun e=>NE.out e.symm)).trans ((Z0m hnb3).trans mz);refine hK _ _ m4 ?_;clear hK K;simp only [Act.put,zA,zB,zC]
      have hfin:=Got.push hlt HP.out.le N3.out (wA:=wa) NA.out A3.out F3'.out R3.out ((Y8 _ _).alloc (Y5 _) _) hgrow4 hown4 (by rcases hat4 with h | h; (exact .inl h); (exact .inr (by omega))) hlt4;have FIN:=lh hfin;clear hgrow4 hown4 hat4 hlt4 hfin;refine Z6 ?_;go_wp2;go_roundw
      case rel=>
       refine ⟨g,acc ++ [.mk 23 (hdT us).text 0 []],us.tail,.slice (some ⟨gg,0,none⟩) (kids.length + 1) cap,kids ++ [a],by omega,HQ3.out,?_,FIN.out.2.2,FIN.out.2.1,by have:=HL.out; simp; omega,by rw [List.length_tail]; omega⟩;have h1:=FIN.out.1;have h2:=GQ.out.tree;simp only [ATree.tree,Tree.mk.injEq,true_and] at h2;rw [h2] at h1;exact h1
      case measure=>
       rw [FIN.out.2.2.left,RL.out];exact Ye (by have:=Z78 hk; rw [List.length_tail]; omega) PL.out
     ·refine (Z61 w3.drew rb us d PQ.out.1.rd.drew hk).mono ?_;rintro e w9 ⟨⟨b,rfl,h1,h2⟩,hB⟩;exact ⟨rfl,Z0t.err FQ.out.drew ⟨b,rfl,h1,h2⟩ hB⟩
    ·have a0 : decide (0 < kids.length) = true := by have := HKL.out; simp; omega
     have hq1:=HQ.out;rw [Yb (by omega)] at hq1;by_cases hc:isT Z1b us=true
     ·have hq2 : Zgj g F d kind text acc us.tail = some r := by rw [Z1e, Yb hc] at hq1; exact hq1
      have HC:=Z2b w3 rb us d Z1b P3.out.rd hc;unfold Z1b at HC;have HC:=lh HC;clear hq1 hc HQ;go_wp2_with fail
      refine HC.out.mono ?_;rintro e w4q ⟨rfl,hR4,hF4⟩;have PQ:=lh (show Pre w4q rb B d us.tail∧us.tail.length≤ts.length from ⟨P3.out.tail hR4 hF4,by have:=HU.out; rw [List.length_tail]; omega⟩);have GQ:=lh (G3.out.rfr hlt hF4);have FQ:=lh (F3.out.trans hF4);have PL:=lh (show us.tail.length≤us.length by rw [List.length_tail]; omega);have hblk:=GQ.out.at'.blkOf;simp only [ATree.b,ATree.v,ATree.kind,ATree.text,ATree.n] at hblk;clear n3;have n3:w4q.cell? ⟨nb,3,none⟩=some (.slice p kids.length cp):=by simp [World.cell?,hblk]
      clear hR4 hF4 HC hblk F3 G3 P3;by_cases h8:acc.length=8
      ·have n8 : ((kids.length : Int) == 8) = true := by have := HKL.out; simp; omega
       have hr:r=.error (4,(hdT us.tail).at'):=by
        unfold Zgj at hq2;rw [Yb h8] at hq2;exact (Yk hq2).symm
       subst hr;have HE:=lh (Z35 w4q rb us.tail d 4 PQ.out.1.rd);clear hq2;go_wp2_with fail
       refine HE.out.mono ?_;rintro e w9 ⟨⟨b,rfl,h1,h2⟩,hB⟩;exact ⟨rfl,Z0t.err FQ.out ⟨b,rfl,h1,h2⟩ hB⟩
      ·skip
       have n8:((kids.length:Int) == 8)=false:=by have:=HKL.out; simp; omega
       have HQ2:=hq2;unfold Zgj at HQ2;rw [Y9 h8] at HQ2;have HQ2:=lh HQ2;clear hq2;go_wp2_with fail
       refine Zf [0,2,4,6,8,10,12,15,17,19,21] [11,12,13] (fun W=>W.cell? ⟨nb,3,none⟩=some (.slice p kids.length cp)) n3 fun _=>?_;simp only [Zh,pD,zD,zE,zF,zG,zH,zI,zJ,zK]
       iterate 7
        first | refine Za _ ?_ | refine Zb ?_
        simp only [Act.put,zA,zB,zC]
       refine Z5 (fun K hK=>?_);go_simp
       have hus:us.tail.length≤ts.length:=PQ.out.2;rcases Z8q HQ2.out with ⟨hk,h1⟩ | ⟨hk,rfl⟩
       ·refine (Z44 w4q.drew rb us.tail d PQ.out.1.rd.drew hk).mono ?_;rintro e wa ⟨rfl, hRa, hFa⟩;have hFwa : RFr w4q wa rb := (RFr.refl w4q rb).drew.trans hFa;have hNa := GQ.out.rfr hlt hFwa;have hblk := hNa.at'.blkOf;simp only [ATree.b, ATree.v, ATree.kind, ATree.text, ATree.n] at hblk;have m3 : wa.cell? ⟨nb, 3, none⟩ = some (.slice p kids.length cp) := by simp [World.cell?, hblk]
        refine hK _ _ m3 ?_;clear hK K;refine Z5 (fun K hK=>?_);go_simp
        have hala:Below wa.heap.size wa (wa.alloc (.cells #[.int .i64 23,.string (hdT us.tail).text,.int .i64 0,.slice none 0 0] 38)):=(Y8 _ _).alloc (Y5 _) _;have hA:=Got.leaf (w0:=wa) (w:=wa) (rb:=rb) (B:=B) (k:=23) (t:=(hdT us.tail).text) (n:=0) (Ya HP.out.le (FQ.out.trans hFwa).size) (RFr.refl _ _);refine (Z14 wa rb 23 (hdT us.tail).text none 0 0).mono ?_;rintro e w3' ⟨rfl,hw3'⟩;rw [← hw3'] at hA hala;have hF23:RFr w4q w3' rb:=hFwa.trans (RFr.below hala);have hN3:=hNa.rfr hlt (RFr.below (rb:=rb) hala);have hR3:=hRa.below hala
        have hblk:=hN3.at'.blkOf;simp only [ATree.b,ATree.v,ATree.kind,ATree.text,ATree.n] at hblk;have m3:w3'.cell? ⟨nb,3,none⟩=some (.slice p kids.length cp):=by simp [World.cell?,hblk]
        have mz:w3'.frozen? ⟨nb,3,none⟩=false:=by simp [World.frozen?,hblk]
        have hnb3:nb < w3'.heap.size:=(Y6.1 hblk).1;have hnd:=hN3.nodup;simp only [ATree.blocks,List.nodup_cons,List.mem_append,Option.mem_toList,not_or] at hnd;have hne:=hnd.1.1;have hk4:kids.length≤8:=by have:=HKL.out; have:=HL.out; omega
        obtain ⟨a,ha⟩:∃ a:ATree,a=.mk wa.heap.size (.slice none 0 0) 23 (hdT us.tail).text 0 []:=⟨_,rfl⟩
        rw [← ha] at hA;have hap:Value.pointer (some ⟨wa.heap.size,0,none⟩)=.pointer (some ⟨a.b,0,none⟩):=by rw [ha]; rfl
        rw [hap];clear ha hap;have N3:=lh hN3;have A3:=lh hA;have R3:=lh hR3;have F3':=lh (FQ.out.trans hF23);have NE:=lh hne;have NA:=lh (fun x hx=>(hNa.new x hx).2);have HQ3:=lh h1;refine hK _ _ m3 ?_;obtain ⟨i0,hi,hz0,hz1,hz2⟩:=info_parts Tryz.infoPtr;clear hK K hA hR3 hF23 hN3 hblk hnd hne h1 n3 hFa hFwa hNa hRa hala hw3';refine Z5 (fun K hK=>?_);go_simp
        refine hK _ _ ((Z8 hnb3).trans m3) ?_;clear hK K;refine Z5 (fun K hK=>?_)
        refine step_append_lies _ (by rfl) (.tmp 35) (.tmp 40) 36 (by rfl) B 22 i0 _ 1 8 Tryz.underlying36 hi hz0 hz1 hz2 rfl (by decide) (.slice p kids.length cp) kids.length (kids.map ATree.ptr) (by rfl) (N3.out.at'.rowOf.alloc _) ⟨w3'.heap.size,0,none⟩ 1 1 [a.ptr] (by rfl) rfl (Yi (cs:=#[a.ptr]) (t:=22) (fr:=(0,0)) (heap_alloc_new w3' _)) (by simp [ATree.ptr,Value.oneCell']) (by decide) (by unfold maxLen; omega) (by omega) (by simp; have:=F3'.out.size; have:=HP.out.le; omega) (w3'.heap.size + 1) (by simp) ?_;intro gg cap w4 hown4 hgrow4 hat4 hlt4
        have m4:w4.cell? ⟨nb,3,none⟩=some (.slice p kids.length cp):=(hgrow4.cell_far ⟨nb,3,none⟩ (by simp; omega) (fun e=>NE.out e.symm)).trans ((Z8 hnb3).trans m3);have mz4:w4.frozen? ⟨nb,3,none⟩=false:=(hgrow4.frozen_far ⟨nb,3,none⟩ (by simp; omega) (fun e=>NE.out e.symm)).trans ((Z0m hnb3).trans mz);refine hK _ _ m4 ?_;clear hK K;simp only [Act.put,zA,zB,zC]
        have hfin:=Got.push hlt HP.out.le N3.out (wA:=wa) NA.out A3.out F3'.out R3.out ((Y8 _ _).alloc (Y5 _) _) hgrow4 hown4 (by rcases hat4 with h | h; (exact .inl h); (exact .inr (by omega))) hlt4;have FIN:=lh hfin;clear hgrow4 hown4 hat4 hlt4 hfin;refine Z6 ?_;go_wp2;go_roundw
        case rel=>
         refine ⟨g,acc ++ [.mk 23 (hdT us.tail).text 0 []],us.tail.tail,.slice (some ⟨gg,0,none⟩) (kids.length + 1) cap,kids ++ [a],by omega,HQ3.out,?_,FIN.out.2.2,FIN.out.2.1,by have:=HL.out; simp; omega,by rw [List.length_tail]; omega⟩;have h1:=FIN.out.1;have h2:=GQ.out.tree;simp only [ATree.tree,Tree.mk.injEq,true_and] at h2;rw [h2] at h1;exact h1
        case measure=>
         rw [FIN.out.2.2.left,RL.out];exact Ye (by have:=Z78 hk; rw [List.length_tail]; omega) PL.out
       ·refine (Z61 w4q.drew rb us.tail d PQ.out.1.rd.drew hk).mono ?_;rintro e w9 ⟨⟨b,rfl,h1,h2⟩,hB⟩;exact ⟨rfl,Z0t.err FQ.out.drew ⟨b,rfl,h1,h2⟩ hB⟩
     ·have hr : r = .error (3, (hdT us).at') := by rw [Z1e, Y9 hc] at hq1; exact (Yk hq1).symm
      subst hr;have HC:=Z3k w3 rb us d Z1b P3.out.rd (by simpa using hc);unfold Z1b at HC;have HC:=lh HC;clear hq1 hc HQ;go_wp2_with fail
      refine HC.out.mono ?_;rintro e w9 ⟨⟨b,rfl,h1,h2⟩,hB⟩;exact ⟨rfl,Z0t.err F3.out ⟨b,rfl,h1,h2⟩ hB⟩
 ·have HC := lh (Z3k w rb ts d Z0u hP.rd hs);clear hP hp hw hs;go_enter Tryz.func77, Tryz.ntmps77
  go_wp2_with fail
  refine HC.out.mono ?_;rintro e w3 ⟨⟨b,rfl,h1,h2⟩,hB⟩;exact ⟨rfl,Z0t.err (RFr.refl _ _) ⟨b,rfl,h1,h2⟩ hB⟩
theorem Zfl (F:Nat) (hS:∀ g,g < F→Says 53 rArg .stmt g) :
 Says 19 (fun rb=>#[.pointer (some ⟨rb,0,none⟩),.int .i64 1,.string ⟨#[]⟩]) (.stmts 1 []) F:=by
 intro w rb B d ts r hP hp;have HC:=lh (Z14 w rb 1 ⟨#[]⟩ none 0 0);have HP:=lh hP;have HQ:=lh hp;have HS:=lh hS;have hmf:∀ (fn:Fn) (first cap:Array Value) (w:World),(Instr.makeFunc fn first cap).run Tryz.prog w=.ok (.func fn first cap) w:=fun _ _ _ _=>rfl;obtain ⟨nb,hnb⟩:=zX w.heap.size
 have G0:=Got.leaf (k:=1) (t:=⟨#[]⟩) (n:=0) hP.le (RFr.refl w rb);have R0:=hP.rd.below ((Y8 _ _).alloc (Y5 _) (.cells #[.int .i64 1,.string ⟨#[]⟩,.int .i64 0,.slice none 0 0] 38));have F0:RFr w (w.alloc (.cells #[.int .i64 1,.string ⟨#[]⟩,.int .i64 0,.slice none 0 0] 38)) rb:=RFr.below ((Y8 _ _).alloc (Y5 _) _);rw [← hnb] at G0 HC;clear hP hp hS;simp only;go_enter Tryz.func19,Tryz.ntmps19
 go_wp2_with fail
 refine HC.out.mono ?_;rintro e w1 ⟨rfl,hw1⟩;rw [← hw1] at G0 R0 F0;have hst:∃ (g:Nat) (acc:List Tree) (us:List Tok) (v:Value) (kids:List ATree),g≤F∧Z0 g (.stmts 1 acc) d us=some r∧Got w B w1 (.mk nb v 1 ⟨#[]⟩ 0 kids) (.mk 1 ⟨#[]⟩ 0 acc)∧Rd w1 rb us d∧RFr w w1 rb∧acc.length + us.length≤ts.length∧(∀ x∈acc,x.kind=15→x.kids≠[]):=
  ⟨F,[],ts,_,[],Y5 _,HQ.out,G0,R0,F0,by simp,fun x hx=>by cases hx⟩
 have ST:=lh hst;have HNB:=lh hnb;clear hst hw1 G0 R0 F0 HC hnb;go_wp2_with fail
 go_loopw [] (fun wr=>∃ (g:Nat) (acc:List Tree) (us:List Tok) (v:Value) (kids:List ATree),g≤F∧Z0 g (.stmts 1 acc) d us=some r∧Got w B wr (.mk nb v 1 ⟨#[]⟩ 0 kids) (.mk 1 ⟨#[]⟩ 0 acc)∧Rd wr rb us d∧RFr w wr rb∧acc.length + us.length≤ts.length∧(∀ x∈acc,x.kind=15→x.kids≠[])) (fun wr=>leftOf wr rb)
 case atStart=>exact ST.out
 case round=>
  obtain ⟨g,acc,us,v,kids,hg,hq,hG,hR,hF,hl,hx⟩:=hrel;have G:=lh hG;have R:=lh hR;have FF:=lh hF;have HX:=lh hx;have RL:=lh hR.left;cases g with
  | zero=>cases hq
  | succ g=>
  rw [Z0] at hq;obtain ⟨tb,off,cpp,hh⟩:=hR;have c0:=hh.c0;have k0:=hh.hd (j:=0) (x:=.int .i64 (hdT us).kind) rfl;rw [Nat.add_zero] at k0;have hps:=hh.pos;clear hh;by_cases hb:(hdT us).kind=6
  ·have nk : ((hdT us).kind != 6) = false := by simp [hb]
   rw [Yb (by rw [Yb rfl]; simpa using hb)] at hq;have hr:=Yk hq;have HRr:=lh hr.symm;clear hG hF hq hr hb hx ST;have hB2:Below wr.heap.size wr wr:=Y8 _ _;have hlt:=HP.out.lt;have F2:=lh (FF.out.trans (RFr.below (rb:=rb) hB2));have G2:=lh (G.out.rfr hlt (RFr.below (rb:=rb) hB2));have R2:=lh (R.out.below hB2);have hblk:=G2.out.at'.blkOf;have hrow:=G2.out.at'.rowOf;simp only [ATree.b,ATree.v,ATree.kind,ATree.text,ATree.n,ATree.kids] at hblk hrow;have n3:wr.cell? ⟨nb,3,none⟩=some v:=by simp [World.cell?,hblk]
   have nz:wr.frozen? ⟨nb,1,none⟩=false:=by simp [World.frozen?,hblk]
   have nc1:wr.cell? ⟨nb,1,none⟩=some (.string ⟨#[]⟩):=by simp [World.cell?,hblk]
   have htr:=G2.out.tree;simp only [ATree.tree,Tree.mk.injEq,true_and] at htr;have fin0:Z1w acc=false→Z0t w rb B d r (.returned (.pointer (some ⟨nb,0,none⟩))) wr:=fun h=>by
    rw [HRr.out,h];exact ⟨_,rfl,G2.out,R2.out,F2.out⟩
   have FIN0:=lh fin0;have fin1:Z1w acc=true→Z0t w rb B d r (.returned (.pointer (some ⟨nb,0,none⟩))) (wr.setCell ⟨nb,1,none⟩ (.string Z1d)):=fun h=>by
    rw [HRr.out,h];obtain ⟨h1,h2,h3⟩:=Got.text (t':=Z1d) hlt HP.out.le G2.out F2.out R2.out;exact ⟨_,rfl,h1,h3,h2⟩
   have FIN1:=lh fin1;have HTR:=lh htr;have hks:∀ a∈kids,TreeAt wr B a:=fun a ha=>G2.out.at'.kid (k:=a) ha;have HKS:=lh hks;clear hB2 hblk fin0 fin1 htr hks FF G R;cases kids with
   | nil =>
     have hs0:Z1w acc=false:=by rw [← HTR.out]; rfl
     have H0:=lh (FIN0.out hs0);clear hs0;rcases Zp hrow with ⟨rfl,_⟩ | ⟨g0,cap0,rfl,_,_,_⟩
     all_goals
      clear hrow;go_wp2;go_ret;exact H0.out
   | cons a0 ks =>
     rcases Zp hrow with ⟨_,h0⟩ | ⟨g0,cap0,rfl,k1,k2,k3⟩;·simp at h0
     have p0:=Z17 hrow (g:=g0) rfl (i:=0) (x:=a0.ptr) rfl;have hT0:=HKS.out a0 (by simp);have hb0:=hT0.blkOf;have hr0:=hT0.rowOf;have hx0:=HX.out a0.tree (by rw [← HTR.out]; simp [Zr]);obtain ⟨b0,v0,kd0,t0,n0,l0⟩:=a0;simp only [ATree.b,ATree.v,ATree.kind,ATree.text,ATree.n,ATree.kids,ATree.ptr,List.length_cons] at hb0 hr0 p0 k1 n3 ⊢;unfold maxLen at k2;have d0:wr.cell? ⟨b0,0,none⟩=some (.int .i64 kd0):=by simp [World.cell?,hb0]
     have d3:wr.cell? ⟨b0,3,none⟩=some v0:=by simp [World.cell?,hb0]
     by_cases h15:kd0=15
     ·subst h15;cases l0 with
      | nil=>exact absurd rfl (hx0 rfl)
      | cons x xs=>
      rcases Zp hr0 with ⟨_,h0⟩ | ⟨g1,cap1,rfl,j1,j2,j3⟩;·simp at h0
      have p1:=Z17 hr0 (g:=g1) rfl (i:=0) (x:=x.ptr) rfl;have hb1:=(hT0.kid (k:=x) (by simp [ATree.kids])).blkOf;obtain ⟨b1,v1,kd1,t1,n1,l1⟩:=x;simp only [ATree.b,ATree.v,ATree.kind,ATree.text,ATree.n,ATree.ptr,List.length_cons] at hb1 p1 j1 d3;unfold maxLen at j2;have e0:wr.cell? ⟨b1,0,none⟩=some (.int .i64 kd1):=by simp [World.cell?,hb1]
      have e1:wr.cell? ⟨b1,1,none⟩=some (.string t1):=by simp [World.cell?,hb1]
      have hstr:Z1w acc=(decide (kd1=18) && Z15 t1 Z11):=by rw [← HTR.out]; rfl
      have HST:=lh hstr;clear hrow hr0 hT0 hb0 hb1 hx0 hstr;by_cases h18:kd1=18
      ·subst h18;by_cases hus : t1 = Z11
       ·subst hus;have H1:=lh (FIN1.out (by rw [HST.out]; simp [Z15]));unfold Z11 at e1;go_wp2;go_ret;exact H1.out
       ·have H0 := lh (FIN0.out (by rw [HST.out]; simp [Z15, hus]));have hne : ¬ t1.toList = Z11.toList := fun h => hus (Z25 h);have hne2 : (t1.toList == Z11.toList) = false := by simpa using hne
        have hl:Z11.toList=[117,115,101,32,115,116,114,105,99,116]:=by rw [Lib.toList_data]; rfl
        have hne3:¬ t1.toList=[117,115,101,32,115,116,114,105,99,116]:=by rw [← hl]; exact hne
        have hne4:(t1.toList == [117,115,101,32,115,116,114,105,99,116])=false:=by simpa using hne3
        unfold Z11 at hne hne2;clear hus hl;go_wp2;go_ret;exact H0.out
      ·have n18 : (kd1 == 18) = false := by simpa using h18
       have H0:=lh (FIN0.out (by rw [HST.out]; simp [h18]));clear h18;go_wp2;go_ret;exact H0.out
     ·have n15 : (kd0 == 15) = false := by simpa using h15
      have H0:=lh (FIN0.out (by rw [← HTR.out]; cases l0 <;> simp [Zr,ATree.tree,Z1w,h15]));clear hrow hr0 hT0 hb0 hx0 h15;go_wp2;go_ret;exact H0.out
  ·have nk : ((hdT us).kind != 6) = true := by simpa using hb
   rw [Y9 (by rw [Yb rfl]; simpa using hb)] at hq;have HQ2:=lh hq;clear hG hF hq hb hx ST;have hB2:Below wr.heap.size wr wr:=Y8 _ _;have F2:=FF.out.trans (RFr.below (rb:=rb) hB2);have G2:=G.out.rfr HP.out.lt (RFr.below (rb:=rb) hB2);have R2:=R.out.below hB2;have n3:wr.cell? ⟨nb,3,none⟩=some v:=by have:=G2.at'.blkOf; simp only [ATree.b,ATree.v,ATree.kind,ATree.text,ATree.n] at this; simp [World.cell?,this]
   have F2:=lh F2;have G2:=lh G2;have R2:=lh R2;clear hB2 FF G R;go_wp2_with fail
   refine Zf [0,2,4,6,8,10,12,14,17,19,21] [11,12,13] (fun W=>W.cell? ⟨nb,3,none⟩=some v) n3 fun _=>?_;simp only [Zh,pD,zD,zE,zF,zG,zH,zI,zJ,zK]
   iterate 8
    first | refine Za _ ?_ | refine Zb ?_
    simp only [Act.put,zA,zB,zC]
   refine Z5 (fun K hK=>?_);go_simp
   have hlt:=HP.out.lt;have hRF2:RFr wr wr.drew rb:=(RFr.refl wr rb).drew;have hus:us.length≤4000:=by have:=HP.out.few; omega
   have hle2:B≤wr.drew.heap.size:=Ya HP.out.le F2.out.size;rcases Z09 HQ2.out with ⟨⟨c,p⟩,hv,rfl⟩ | ⟨t,vs,hv,hq3⟩
   ·refine (Z10 wr.drew rb B us d _ _ R2.out.drew (by have:=HP.out.deep; omega) hlt hv fun hd h1 w1 hR1 hs=>HS.out g (by omega) w1 rb B (d + 1) us _ ⟨hR1,hd,hlt,by omega,hus⟩ h1).mono ?_;rintro e w3 ⟨⟨b,rfl,h1,h2⟩,hF3⟩;exact ⟨rfl,Z0t.pre F2.out.drew (r:=.error (c,p)) ⟨⟨b,rfl,h1,h2⟩,hF3⟩⟩
   ·have hvl:vs.length < us.length:=Leaves.within (Z24 g .stmt (d + 1) us) t vs hv;have hvx:t.kind=15→t.kids≠[]:=by
     unfold Z1a at hv;by_cases h30:30 < d + 1;·rw [Yb h30] at hv; cases hv
     ·rw [Y9 h30] at hv;cases g with
      | zero=>cases hv
      | succ g=>exact Zc2 hv
    have HVX:=lh hvx;have HQ3:=lh hq3;refine (Z10 wr.drew rb B us d _ _ R2.out.drew (by have:=HP.out.deep; omega) hlt hv fun hd h1 w1 hR1 hs=>HS.out g (by omega) w1 rb B (d + 1) us _ ⟨hR1,hd,hlt,by omega,hus⟩ h1).mono ?_;rintro e w3 ⟨a,rfl,hA,hR3,hF3⟩;have hF23:RFr wr w3 rb:=hRF2.trans hF3;have hN3:=G2.out.rfr hlt hF23;have hblk:=hN3.at'.blkOf;simp only [ATree.b,ATree.v,ATree.kind,ATree.text,ATree.n] at hblk;have m3:w3.cell? ⟨nb,3,none⟩=some v:=by simp [World.cell?,hblk]
    have mz:w3.frozen? ⟨nb,3,none⟩=false:=by simp [World.frozen?,hblk]
    have hnb3:nb < w3.heap.size:=(Y6.1 hblk).1;have hnd:=hN3.nodup;simp only [ATree.blocks,List.nodup_cons,List.mem_append,Option.mem_toList,not_or] at hnd;have hne:v.ownBlock≠some nb:=hnd.1.1;have hkl:kids.length=acc.length:=by
     have:=hN3.tree;simp only [ATree.tree,Tree.mk.injEq,true_and] at this;rw [← this,Z26,Yv]
    have hk4:kids.length≤4000:=by have:=HP.out.few; omega
    have N3:=lh hN3;have A3:=lh hA;have R3:=lh hR3;have F3:=lh (F2.out.trans hF23);have NE:=lh hne;have HKL:=lh hkl;refine hK _ _ m3 ?_;obtain ⟨i0,hi,hz0,hz1,hz2⟩:=info_parts Tryz.infoPtr;clear hK K hA hR3 hF3 hF23 hN3 hblk hnd hne hvx hq3 hv hkl n3 hRF2;refine Z5 (fun K hK=>?_);go_simp
    refine hK _ _ ((Z8 hnb3).trans m3) ?_;clear hK K;refine Z5 (fun K hK=>?_);refine step_append_lies _ (by rfl) (.tmp 37) (.tmp 42) 36 (by rfl) B 22 i0 _ 1 8 Tryz.underlying36 hi hz0 hz1 hz2 rfl (by decide) v kids.length (kids.map ATree.ptr) (by rfl) (N3.out.at'.rowOf.alloc _) ⟨w3.heap.size,0,none⟩ 1 1 [a.ptr] (by rfl) rfl (Yi (cs:=#[a.ptr]) (t:=22) (fr:=(0,0)) (heap_alloc_new w3 _)) (by simp [ATree.ptr,Value.oneCell']) (by decide) (by unfold maxLen; omega) (by omega) (by simp; have:=F3.out.size; have:=HP.out.le; omega) (w3.heap.size + 1) (by simp) ?_
    intro gg cap w4 hown4 hgrow4 hat4 hlt4;have m4:w4.cell? ⟨nb,3,none⟩=some v:=(hgrow4.cell_far ⟨nb,3,none⟩ (by simp; omega) (fun e=>NE.out e.symm)).trans ((Z8 hnb3).trans m3);have mz4:w4.frozen? ⟨nb,3,none⟩=false:=(hgrow4.frozen_far ⟨nb,3,none⟩ (by simp; omega) (fun e=>NE.out e.symm)).trans ((Z0m hnb3).trans mz);refine hK _ _ m4 ?_;clear hK K;simp only [Act.put,zA,zB,zC]
    have hfin:=Got.push hlt HP.out.le N3.out (wA:=wr.drew) (fun x hx=>(G2.out.new x hx).2) A3.out F3.out R3.out ((Y8 _ _).alloc (Y5 _) _) hgrow4 hown4 (by rcases hat4 with h | h; (exact .inl h); (exact .inr (by omega))) hlt4;have FIN:=lh hfin;clear hgrow4 hown4 hat4 hlt4 hfin;refine Z6 ?_;go_wp2;go_roundw
    case rel=>
     refine ⟨g,acc ++ [t],vs,.slice (some ⟨gg,0,none⟩) (kids.length + 1) cap,kids ++ [a],by omega,HQ3.out,?_,FIN.out.2.2,FIN.out.2.1,by simp; omega,fun x hx=>?_⟩
     ·have h1:=FIN.out.1;have h2:=G2.out.tree;simp only [ATree.tree,Tree.mk.injEq,true_and] at h2;rw [h2] at h1;exact h1
     ·rcases List.mem_append.1 hx with hx | hx;·exact HX.out x hx
      ·simp only [List.mem_singleton] at hx; subst hx; exact HVX.out
    case measure=>
     rw [FIN.out.2.2.left,RL.out];exact hvl
def Z1n (ts:List Tree):ByteArray:=if Z1w ts then Z1d else ByteArray.empty
theorem Z5a (w0 w:World) (B:Nat) (v:Value) (kids:List ATree) (ts:List Tree) (L:ListAt w0 B w v kids ts) (hx:∀ x∈ts,x.kind=15→x.kids≠[]) :
 Calls Tryz.prog 14 #[v] w fun e w'=>e=.returned (.string (Z1n ts))∧Below w.heap.size w w':=by
 have HTR:=lh L.ks.tree;have HX:=lh hx;have hrow:=L.row;have HKS:=lh L.ks.at';clear hx L;cases kids with
 | nil =>
   have hs0:Z1n ts=ByteArray.empty:=by rw [← HTR.out]; rfl
   rw [hs0];clear HTR HX HKS hs0;rcases Zp hrow with ⟨rfl,_⟩ | ⟨g0,cap0,rfl,_,_,_⟩
   all_goals
    clear hrow;go_enter Tryz.func14,Tryz.ntmps14
    go_wp2;go_ret;exact ⟨rfl,Y8 _ _⟩
 | cons a0 ks =>
   rcases Zp hrow with ⟨_,h0⟩ | ⟨g0,cap0,rfl,k1,k2,k3⟩;·simp at h0
   have p0:=Z17 hrow (g:=g0) rfl (i:=0) (x:=a0.ptr) rfl;have hT0:=HKS.out a0 (by simp);have hb0:=hT0.blkOf;have hr0:=hT0.rowOf;have hx0:=HX.out a0.tree (by rw [← HTR.out]; simp [Zr]);obtain ⟨b0,v0,kd0,t0,n0,l0⟩:=a0;simp only [ATree.b,ATree.v,ATree.kind,ATree.text,ATree.n,ATree.kids,ATree.ptr,List.length_cons] at hb0 hr0 p0 k1 ⊢;unfold maxLen at k2;have d0:w.cell? ⟨b0,0,none⟩=some (.int .i64 kd0):=by simp [World.cell?,hb0]
   have d3:w.cell? ⟨b0,3,none⟩=some v0:=by simp [World.cell?,hb0]
   by_cases h15:kd0=15
   ·subst h15;cases l0 with
    | nil=>exact absurd rfl (hx0 rfl)
    | cons x xs=>
    rcases Zp hr0 with ⟨_,h0⟩ | ⟨g1,cap1,rfl,j1,j2,j3⟩;·simp at h0
    have p1:=Z17 hr0 (g:=g1) rfl (i:=0) (x:=x.ptr) rfl;have hb1:=(hT0.kid (k:=x) (by simp [ATree.kids])).blkOf;obtain ⟨b1,v1,kd1,t1,n1,l1⟩:=x;simp only [ATree.b,ATree.v,ATree.kind,ATree.text,ATree.n,ATree.ptr,List.length_cons] at hb1 p1 j1 d3;unfold maxLen at j2;have e0:w.cell? ⟨b1,0,none⟩=some (.int .i64 kd1):=by simp [World.cell?,hb1]
    have e1:w.cell? ⟨b1,1,none⟩=some (.string t1):=by simp [World.cell?,hb1]
    have hstr:Z1w ts=(decide (kd1=18) && Z15 t1 Z11):=by rw [← HTR.out]; rfl
    have HST:=lh hstr;clear hrow hr0 hT0 hb0 hb1 hx0 hstr HTR HX HKS;by_cases h18:kd1=18
    ·subst h18;by_cases hus : t1 = Z11
     ·subst hus;rw [show Z1n ts = Z1d from by unfold Z1n; rw [HST.out]; simp [Z15]];unfold Z11 at e1;go_enter Tryz.func14, Tryz.ntmps14
      go_wp2;go_ret;exact ⟨rfl,Y8 _ _⟩
     ·rw [show Z1n ts = ByteArray.empty from by unfold Z1n; rw [HST.out]; simp [Z15, hus]];have hne : ¬ t1.toList = Z11.toList := fun h => hus (Z25 h);have hl : Z11.toList = [117, 115, 101, 32, 115, 116, 114, 105, 99, 116] := by rw [Lib.toList_data]; rfl
      have hne3:¬ t1.toList=[117,115,101,32,115,116,114,105,99,116]:=by rw [← hl]; exact hne
      have hne4:(t1.toList == [117,115,101,32,115,116,114,105,99,116])=false:=by simpa using hne3
      clear hus hl hne;go_enter Tryz.func14,Tryz.ntmps14
      go_wp2;go_ret;exact ⟨rfl,Y8 _ _⟩
    ·have n18 : (kd1 == 18) = false := by simpa using h18
     rw [show Z1n ts=ByteArray.empty from by unfold Z1n; rw [HST.out]; simp [h18]];clear h18;go_enter Tryz.func14,Tryz.ntmps14
     go_wp2;go_ret;exact ⟨rfl,Y8 _ _⟩
   ·have n15 : (kd0 == 15) = false := by simpa using h15
    rw [show Z1n ts=ByteArray.empty from by unfold Z1n; rw [← HTR.out]; cases l0 <;> simp [Zr,ATree.tree,Z1w,h15]];clear hrow hr0 hT0 hb0 hx0 h15 HTR HX HKS;go_enter Tryz.func14,Tryz.ntmps14
    go_wp2;go_ret;exact ⟨rfl,Y8 _ _⟩
end Go.Proofs.YtmeiggjboakmpaaGreatDoor
