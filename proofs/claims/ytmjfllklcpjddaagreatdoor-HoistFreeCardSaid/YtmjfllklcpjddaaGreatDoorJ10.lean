/- The document's parser: list, with any closure. -/
import Derived.Test.YtmjfllklcpjddaaGreatDoorJ09
namespace Go.Proofs.YtmjfllklcpjddaaGreatDoor
open Go Go.RowKit
set_option maxRecDepth 100000
set_option maxHeartbeats 20000000
set_option linter.unusedVariables false
theorem Z5j {P:Nat→Prop} (h:∃ g,P g):∃ m,P m∧∀ k,P k→m≤k:=by
 obtain ⟨g,hg⟩:=h;induction g using Nat.strongRecOn with
 | ind g ih =>
   by_cases h:∃ k,k < g∧P k
   ·obtain ⟨k,hk,hp⟩:=h;exact ih k hk hp
   ·exact ⟨g,hg,fun k hk=>Nat.le_of_not_lt fun hl=>h ⟨k,hl,hk⟩⟩
open Classical in
noncomputable def least (P:Nat→Prop):Nat:=if h:∃ g,P g then Classical.choose (Z5j h) else 0
theorem Z3k {P:Nat→Prop} (h:∃ g,P g):P (least P):=by
 unfold least;rw [dif_pos h];exact (Classical.choose_spec (Z5j h)).1
theorem Z32 {P:Nat→Prop} {g:Nat} (h:P g):least P≤g:=by
 unfold least;rw [dif_pos ⟨g,h⟩];exact (Classical.choose_spec (Z5j ⟨g,h⟩)).2 g h
theorem Zgp (c:Int) (σ:RS):(Z30 c σ).f.isNone=false:=by
 unfold Z30;cases h:σ.f with
 | none=>simp
 | some x=>simp [h]
def Zla (w0:World) (C:QC) (B:Nat) (ts:List Tree) (σ':RS) (e:Ending) (w':World):Prop:=
 ∃ v kids,e=.returned v∧ListAt w0 B w' v kids ts∧QS w' C σ'∧RFr w0 w' C.rb∧ts.length≤8
theorem ListAt.len {w0 w:World} {B:Nat} {v:Value} {kids:List ATree} {ts:List Tree} (L:ListAt w0 B w v kids ts):kids.length=ts.length:=by rw [← L.ks.tree,Z21,Yv]
theorem ListAt.slice {w0 w:World} {B:Nat} {v:Value} {kids:List ATree} {ts:List Tree} (L:ListAt w0 B w v kids ts):∃ p cp,v=.slice p ts.length cp:=by
 rw [← L.len];rcases Za L.row with ⟨h1,h2⟩ | ⟨g0,cap0,h1,_⟩;·exact ⟨none,0,by rw [h1,h2]⟩
 ·exact ⟨_,_,h1⟩
def LInv (w0:World) (C:QC) (B d:Nat) (J:List Tree→RJob) (t:Tree) (σ':RS) (g:Nat) (v:Value) (wr:World):Prop:=
 ∃ (acc:List Tree) (kids:List ATree) (σ:RS),refF g (J acc) d σ=some (t,σ')∧ListAt w0 B wr v kids acc∧QS wr C σ∧RFr w0 wr C.rb∧acc.length≤8
theorem Zfp (F d:Nat) (K:FuncId) (caps:Array Value) (s:ByteArray) (J:List Tree→RJob) (item:Nat→RS→RR)
 (he:∀ (args:Array Value) (w:World),(callFunc K args).run Tryz.prog w=.ok (.enter K args) w)
 (hstep:∀ g acc σ,refF (g + 1) (J acc) d σ=if (σ.f.isNone && !Zd s σ)=true then (if (Z4r (decide (acc.length=8)) (Z3f (decide (0 < acc.length)) σ)).f.isNone=true then Z03 (item g (Z4r (decide (acc.length=8)) (Z3f (decide (0 < acc.length)) σ))) fun x σ'=>refF g (J (acc ++ [x])) d σ' else refF g (J acc) d (Z4r (decide (acc.length=8)) (Z3f (decide (0 < acc.length)) σ))) else some (.mk 0 ByteArray.empty 0 acc,Z09 s σ))
 (w0:World) (C:QC) (B:Nat) (hr:C.rb < B) (hB:B≤w0.heap.size)
 (hcall:∀ g,g < F→∀ w σ x σ',RFr w0 w C.rb→QS w C σ→item g σ=some (x,σ')→Calls Tryz.prog K caps w (Z1l w C B x σ'))
 (σ:RS) (hQ:QS w0 C σ) (t:Tree) (σ':RS) (hp:refF F (J []) d σ=some (t,σ')) :
 Calls Tryz.prog 86 #[.pointer (some ⟨C.rb,0,none⟩),.string s,.func (.func K) #[] caps] w0 (Zla w0 C B t.kids σ'):=by
 have HSTEP:=lh hstep;have HE:=lh he;have HCALL:=lh hcall;have HR:=lh hr;have HB:=lh hB;have ST:=lh (show ∃ g,g≤F∧LInv w0 C B d J t σ' g (.slice none 0 0) w0 from ⟨F,Y5 _,[],[],σ,hp,ListAt.nil,hQ,RFr.refl _ _,by simp⟩);clear he hstep hcall hr hB hQ hp;go_enter Tryz.func86,Tryz.ntmps86
 go_wp2_with fail
 go_loopw [7] (fun v wr=>∃ g,g≤F∧LInv w0 C B d J t σ' g v wr) (fun v wr=>least fun g=>g≤F∧LInv w0 C B d J t σ' g v wr)
 case atStart=>exact ST.out
 case round=>
  have hI:=Z3k hrel;clear ST;obtain ⟨g,hg⟩:=zX (least fun g=>g≤F∧LInv w0 C B d J t σ' g u7 wr)
  rw [← hg] at hI;have HG:=lh hg;clear hg hrel;obtain ⟨hgF,acc,kids,σ,hp,hL,hQ,hF,h8⟩:=hI;cases g with
  | zero=>simp [refF] at hp
  | succ g=>
  rw [HSTEP.out] at hp;have HO:=Z1x hQ;have HN:=Zc hQ s;obtain ⟨p,cp,rfl⟩:=hL.slice;have HL:=lh hL;have HQ:=lh hQ;have HF:=lh hF;have H8:=lh h8;have HGF:=lh hgF;by_cases hf:σ.f.isNone=true;rotate_left
  ·have hf : σ.f.isNone = false := Bool.eq_false_iff.2 hf;rw [hf] at HO;rw [Y9 (by simp [hf])] at hp;simp only [Option.some.injEq, Prod.mk.injEq] at hp;have HO := lh HO;have HP := lh hp;clear hL hQ hF h8 hgF hf hp HN;go_wp2_with fail
   refine HO.out.mono ?_;rintro e w1 ⟨rfl,rfl⟩;go_wp2_with fail
   refine (Z06 HQ.out s B HR.out (Ya HB.out HF.out.size)).mono ?_;rintro e w2 ⟨rfl,h2,h3⟩;have Q2:=lh h2;have F2:=lh h3;clear h2 h3;go_wp2;go_ret;obtain ⟨h4,h5⟩:=HP.out;refine ⟨_,kids,rfl,?_,by rw [← h5]; exact Q2.out,HF.out.trans F2.out,by rw [← h4]; exact H8.out⟩;rw [← h4];exact HL.out.rfr HR.out F2.out
  rw [hf] at HO;by_cases hn:Zd s σ=true
  ·rw [hn] at HN;rw [Y9 (by simp [hn])] at hp;simp only [Option.some.injEq, Prod.mk.injEq] at hp;have HO := lh HO;have HN := lh HN;have HP := lh hp;clear hL hQ hF h8 hgF hf hn hp;go_wp2_with fail
   refine HO.out.mono ?_;rintro e w1 ⟨rfl,rfl⟩;go_wp2_with fail
   refine HN.out.mono ?_;rintro e w1 ⟨rfl,hb1⟩;have Q1:=lh (HQ.out.below hb1);have F1:=lh (RFr.below (rb:=C.rb) hb1);clear hb1;go_wp2_with fail
   refine (Z06 Q1.out s B HR.out (Ya HB.out (HF.out.trans F1.out).size)).mono ?_;rintro e w2 ⟨rfl,h2,h3⟩;have Q2:=lh h2;have F2:=lh (F1.out.trans h3);clear h2 h3;go_wp2;go_ret;obtain ⟨h4,h5⟩:=HP.out;refine ⟨_,kids,rfl,?_,by rw [← h5]; exact Q2.out,HF.out.trans F2.out,by rw [← h4]; exact H8.out⟩;rw [← h4];exact HL.out.rfr HR.out F2.out
  have hn:Zd s σ=false:=by simpa using hn
  rw [hn] at HN;rw [Yb (by simp [hn,hf])] at hp;have HO:=lh HO;have HN:=lh HN;have HK:=lh (hL.len);obtain ⟨i0,hi,hz0,hz1,hz2⟩:=info_parts Tryz.infoPtr;clear hL hQ hF h8 hgF hn;by_cases h0:acc.length=0
  ·have a0 : decide (0 < acc.length) = false := by simp [h0]
   have n8:((acc.length:Int) == 8)=false:=by simp [h0]
   have d8:decide (acc.length=8)=false:=by simp [h0]
   rw [a0,d8] at hp;simp only [Z4r,Z3f,Bool.false_eq_true,if_false] at hp;rw [Yb hf] at hp;obtain ⟨x,σ3,hit,hrest⟩:=Ze hp;have IT:=lh hit;have RE:=lh hrest;have H0:=lh h0;have HNE:=lh (show acc.length≠8 by omega);have HFF:=lh hf;clear hp hit hrest d8 h0 hf;go_wp2_with fail
   refine HO.out.mono ?_;rintro e w1 ⟨rfl,rfl⟩;go_wp2_with fail
   refine HN.out.mono ?_;rintro e w1 ⟨rfl,hb1⟩;have Q1:=lh (HQ.out.below hb1);have F1:=lh (HF.out.trans (RFr.below (rb:=C.rb) hb1));have L1:=lh (HL.out.rfr HR.out (RFr.below (rb:=C.rb) hb1));clear hb1 HO HN HQ HF HL;go_wp2_with fail
   have HO2:=Z1x Q1.out;rw [HFF.out] at HO2;refine HO2.mono ?_;rintro e w2 ⟨rfl,rfl⟩;go_wp2_with fail
   rw [HE.out,Oper.upon_enter];refine (HCALL.out g (by have:=HGF.out; omega) w1 σ x σ3 F1.out Q1.out IT.out).mono ?_;rintro e w2 ⟨a,rfl,h2,h3,h4⟩;have A2:=lh h2;have Q2:=lh h3;have F2:=lh h4;have L2:=lh (L1.out.rfr HR.out h4);clear h2 h3 h4 Q1
   go_wp2_with (at_builtin; go_must (refine wpList_append_lies _ rfl (.tmp 28) (.tmp 31) 44 rfl B 22 i0 _ 1 8 Tryz.underlying44 hi hz0 hz1 hz2 rfl (by decide) (.slice p acc.length cp) kids.length (kids.map ATree.ptr) rfl (L2.out.row.alloc _) ⟨w2.heap.size,0,none⟩ 1 1 [a.ptr] rfl rfl (Yi (cs:=#[a.ptr]) (t:=22) (fr:=(0,0)) (heap_alloc_new w2 _)) (by simp [ATree.ptr,Value.oneCell']) (by decide) (by have:=HK.out; have:=H8.out; unfold maxLen; omega) (by have:=HK.out; have:=H8.out; omega) (by simp; have:=F1.out.size; have:=F2.out.size; have:=HB.out; omega) (w2.heap.size + 1) (by simp) ?_); intro gg cap w4 hown2 hgrow2 hat2 hgl2)
   have hpush:=L2.out.push (wA:=w1) (fun y hy=>(L1.out.ks.new y hy).2) (fun y hy=>(L1.out.own y hy).2.1) A2.out F1.out.size F2.out.size ((Y8 _ _).alloc (Y5 _) _) hgrow2 hown2 (by rcases hat2 with h | h; (exact .inl h); (exact .inr (by omega))) hgl2 (F1.out.trans F2.out);have hinv:g≤F∧LInv w0 C B d J t σ' g (.slice (some ⟨gg,0,none⟩) (kids.length + 1) cap) w4:=
    ⟨by have:=HGF.out; omega,acc ++ [x],kids ++ [a],σ3,RE.out,hpush.1,Q2.out.keep fun k hk=>hpush.2.1 k (by have:=Q2.out.rlt; omega) (fun e=>by have h1:=(L2.out.own k e).1; have h2:=HR.out; have h3:=HB.out; omega),hpush.2.2.2,by have:=H8.out; have:=HNE.out; simp; omega⟩
   exact ⟨⟨g,hinv⟩,by rw [← HG.out]; exact Nat.lt_succ_of_le (Z32 hinv)⟩
  ·have a0 : decide (0 < acc.length) = true := by simp; omega
   rw [a0] at hp;simp only [Z3f,if_true] at hp;have H0:=lh h0;have HFF:=lh hf;have b0:acc.length > 0:=by omega
   by_cases h88:acc.length=8
   ·have n8 : ((acc.length : Int) == 8) = true := by simp [h88]
    have d8:decide (acc.length=8)=true:=by simp [h88]
    rw [d8] at hp;simp only [Z4r,if_true] at hp;rw [Y9 (by rw [Zgp]; decide)] at hp;have RE:=lh hp;clear hp d8 h0 h88 hf;go_wp2_with fail
    refine HO.out.mono ?_;rintro e w1 ⟨rfl,rfl⟩;go_wp2_with fail
    refine HN.out.mono ?_;rintro e w1 ⟨rfl,hb1⟩;have Q1:=lh (HQ.out.below hb1);have F1:=lh (HF.out.trans (RFr.below (rb:=C.rb) hb1));have L1:=lh (HL.out.rfr HR.out (RFr.below (rb:=C.rb) hb1));clear hb1 HO HN HQ HF HL;go_wp2_with fail
    refine (Z06 Q1.out Z0l B HR.out (Ya HB.out F1.out.size)).mono ?_;rintro e w2 ⟨rfl,h2,h3⟩;have Q2:=lh h2;have F2:=lh (F1.out.trans h3);have L2:=lh (L1.out.rfr HR.out h3);clear h2 h3 Q1 F1 L1;go_wp2_with fail
    refine (Z2s Q2.out 4 (by decide) B HR.out (Ya HB.out F2.out.size)).mono ?_;rintro e w3 ⟨a,rfl,_,h2,h3⟩;have Q3:=lh h2;have F3:=lh (F2.out.trans h3);have L3:=lh (L2.out.rfr HR.out h3);clear h2 h3 Q2 F2 L2;go_wp2_with fail
    have HO2:=Z1x Q3.out;rw [Zgp] at HO2;refine HO2.mono ?_;rintro e w4 ⟨rfl,rfl⟩;clear HO2;go_wp2;have hinv:g≤F∧LInv w0 C B d J t σ' g (.slice p acc.length cp) w3:=⟨by have:=HGF.out; omega,acc,kids,_,RE.out,L3.out,Q3.out,F3.out,H8.out⟩
    exact ⟨⟨g,hinv⟩,by rw [← HG.out]; exact Nat.lt_succ_of_le (Z32 hinv)⟩
   ·have n8 : ((acc.length : Int) == 8) = false := by simp; omega
    have d8:decide (acc.length=8)=false:=by simp [h88]
    rw [d8] at hp;simp only [Z4r,Bool.false_eq_true,if_false] at hp;have HNE:=lh h88;by_cases hf2:(Z09 Z0l σ).f.isNone=true
    ·rw [Yb hf2] at hp;obtain ⟨x, σ3, hit, hrest⟩ := Ze hp;have IT := lh hit;have RE := lh hrest;have HF2 := lh hf2;clear hp hit hrest d8 h0 hf h88 hf2;go_wp2_with fail
     refine HO.out.mono ?_;rintro e w1 ⟨rfl,rfl⟩;go_wp2_with fail
     refine HN.out.mono ?_;rintro e w1 ⟨rfl,hb1⟩;have Q1:=lh (HQ.out.below hb1);have F1:=lh (HF.out.trans (RFr.below (rb:=C.rb) hb1));have L1:=lh (HL.out.rfr HR.out (RFr.below (rb:=C.rb) hb1));clear hb1 HO HN HQ HF HL;go_wp2_with fail
     refine (Z06 Q1.out Z0l B HR.out (Ya HB.out F1.out.size)).mono ?_;rintro e w1' ⟨rfl,h2,h3⟩;replace Q1:=lh h2
     replace F1:=lh (F1.out.trans h3)
     replace L1:=lh (L1.out.rfr HR.out h3)
     clear h2 h3;go_wp2_with fail
     have HO2:=Z1x Q1.out;rw [HF2.out] at HO2;refine HO2.mono ?_;rintro e w2 ⟨rfl,rfl⟩;clear HO2;go_wp2_with fail
     rw [HE.out,Oper.upon_enter];refine (HCALL.out g (by have:=HGF.out; omega) w1' _ x σ3 F1.out Q1.out IT.out).mono ?_;rintro e w2 ⟨a,rfl,h2,h3,h4⟩;have A2:=lh h2;have Q2:=lh h3;have F2:=lh h4;have L2:=lh (L1.out.rfr HR.out h4);clear h2 h3 h4 Q1
     go_wp2_with (at_builtin; go_must (refine wpList_append_lies _ rfl (.tmp 28) (.tmp 31) 44 rfl B 22 i0 _ 1 8 Tryz.underlying44 hi hz0 hz1 hz2 rfl (by decide) (.slice p acc.length cp) kids.length (kids.map ATree.ptr) rfl (L2.out.row.alloc _) ⟨w2.heap.size,0,none⟩ 1 1 [a.ptr] rfl rfl (Yi (cs:=#[a.ptr]) (t:=22) (fr:=(0,0)) (heap_alloc_new w2 _)) (by simp [ATree.ptr,Value.oneCell']) (by decide) (by have:=HK.out; have:=H8.out; unfold maxLen; omega) (by have:=HK.out; have:=H8.out; omega) (by simp; have:=F1.out.size; have:=F2.out.size; have:=HB.out; omega) (w2.heap.size + 1) (by simp) ?_); intro gg cap w4 hown2 hgrow2 hat2 hgl2)
     have hpush:=L2.out.push (wA:=w1') (fun y hy=>(L1.out.ks.new y hy).2) (fun y hy=>(L1.out.own y hy).2.1) A2.out F1.out.size F2.out.size ((Y8 _ _).alloc (Y5 _) _) hgrow2 hown2 (by rcases hat2 with h | h; (exact .inl h); (exact .inr (by omega))) hgl2 (F1.out.trans F2.out);have hinv:g≤F∧LInv w0 C B d J t σ' g (.slice (some ⟨gg,0,none⟩) (kids.length + 1) cap) w4:=
      ⟨by have:=HGF.out; omega,acc ++ [x],kids ++ [a],σ3,RE.out,hpush.1,Q2.out.keep fun k hk=>hpush.2.1 k (by have:=Q2.out.rlt; omega) (fun e=>by have h1:=(L2.out.own k e).1; have h2:=HR.out; have h3:=HB.out; omega),hpush.2.2.2,by have:=H8.out; have:=HNE.out; simp; omega⟩
     exact ⟨⟨g,hinv⟩,by rw [← HG.out]; exact Nat.lt_succ_of_le (Z32 hinv)⟩
    ·have hf2 : (Z09 Z0l σ).f.isNone = false := Bool.eq_false_iff.2 hf2;rw [Y9 (by simp [hf2])] at hp;have RE := lh hp;have HF2 := lh hf2;clear hp d8 h0 hf h88 hf2;go_wp2_with fail
     refine HO.out.mono ?_;rintro e w1 ⟨rfl,rfl⟩;go_wp2_with fail
     refine HN.out.mono ?_;rintro e w1 ⟨rfl,hb1⟩;have Q1:=lh (HQ.out.below hb1);have F1:=lh (HF.out.trans (RFr.below (rb:=C.rb) hb1));have L1:=lh (HL.out.rfr HR.out (RFr.below (rb:=C.rb) hb1));clear hb1 HO HN HQ HF HL;go_wp2_with fail
     refine (Z06 Q1.out Z0l B HR.out (Ya HB.out F1.out.size)).mono ?_;rintro e w3 ⟨rfl,h2,h3⟩;have Q3:=lh h2;have F3:=lh (F1.out.trans h3);have L3:=lh (L1.out.rfr HR.out h3);clear h2 h3 Q1 F1 L1;go_wp2_with fail
     have HO2:=Z1x Q3.out;rw [HF2.out] at HO2;refine HO2.mono ?_;rintro e w2 ⟨rfl,rfl⟩;clear HO2;go_wp2;have hinv:g≤F∧LInv w0 C B d J t σ' g (.slice p acc.length cp) w3:=⟨by have:=HGF.out; omega,acc,kids,_,RE.out,L3.out,Q3.out,F3.out,H8.out⟩
     exact ⟨⟨g,hinv⟩,by rw [← HG.out]; exact Nat.lt_succ_of_le (Z32 hinv)⟩
theorem Zkq (args:Array Value) (w:World):(callFunc 87 args).run Tryz.prog w=.ok (.enter 87 args) w:=by go_simp
theorem Zkv (args:Array Value) (w:World):(callFunc 127 args).run Tryz.prog w=.ok (.enter 127 args) w:=by go_simp
theorem Zkk (args:Array Value) (w:World):(callFunc 133 args).run Tryz.prog w=.ok (.enter 133 args) w:=by go_simp
theorem Zkg (w:World) (C:QC) (B bx:Nat) (σ:RS) (hQ:QS w C σ) (hr:C.rb < B) (hB:B≤w.heap.size) (hc:w.cell? ⟨bx,0,none⟩=some (.pointer (some ⟨C.rb,0,none⟩))) :
 Calls Tryz.prog 87 #[.pointer (some ⟨bx,0,none⟩)] w (Z1l w C B (.mk 23 (Zj σ).1 0 []) (Zj σ).2):=by
 have HI:=lh (Z2t hQ B hr hB);have HB:=lh hB;clear hQ hB hr;go_enter Tryz.func87,Tryz.ntmps87
 go_wp2_with fail
 refine HI.out.mono ?_;rintro e w1 ⟨rfl,h1,h2⟩;have H1:=lh h1;have H2:=lh h2;clear h1 h2;go_wp2;go_ret;exact ⟨_,rfl,Got.leaf HB.out H2.out,H1.out.below ((Y8 _ _).alloc (Y5 _) _),H2.out.trans (RFr.below ((Y8 _ _).alloc (Y5 _) _))⟩
theorem Zl8 (f:Nat) (hV:Z14 54 qd .value f) (w:World) (C:QC) (B bx dx d:Nat) (σ σ':RS) (t:Tree) (hd:d + (f + 1)≤1000000000000) (hp:refF f .value (d + 1) σ=some (t,σ')) (hQ:QS w C σ) (hr:C.rb < B) (hB:B≤w.heap.size) (hc:w.cell? ⟨bx,0,none⟩=some (.pointer (some ⟨C.rb,0,none⟩))) (hc2:w.cell? ⟨dx,0,none⟩=some (.int .i64 d)) :
 Calls Tryz.prog 127 #[.pointer (some ⟨bx,0,none⟩),.pointer (some ⟨dx,0,none⟩)] w (Z1l w C B t σ'):=by
 have HI:=lh (hV w C B (d + 1) σ t σ' hQ hr hB (by omega) hp);clear hQ hB hr hp hV;go_enter Tryz.func127,Tryz.ntmps127
 go_wp2_with fail
 refine HI.out.mono ?_;rintro e w1 ⟨a,rfl,h1⟩;have H1:=lh h1;clear h1;go_wp2;go_ret;exact ⟨a,rfl,H1.out⟩
theorem Zku (f:Nat) (hV:Z14 54 qd .value f) (w:World) (C:QC) (B bx dx d:Nat) (σ σ':RS) (t:Tree) (hd:d + (f + 1)≤1000000000000) (hp:refF f .value (d + 1) (Z09 Z2m (Zj σ).2)=some (t,σ')) (hQ:QS w C σ) (hr:C.rb < B) (hB:B≤w.heap.size) (hc:w.cell? ⟨bx,0,none⟩=some (.pointer (some ⟨C.rb,0,none⟩))) (hc2:w.cell? ⟨dx,0,none⟩=some (.int .i64 d)) (hb:bx < w.heap.size) (hb2:dx < w.heap.size) (hn:bx≠C.rb) (hn2:dx≠C.rb) :
 Calls Tryz.prog 133 #[.pointer (some ⟨bx,0,none⟩),.pointer (some ⟨dx,0,none⟩)] w (Z1l w C B (.mk 39 (Zj σ).1 0 [t]) σ'):=by
 have HI:=lh (Z2t hQ B hr hB);have HV:=lh hV;have HP:=lh hp;have HR:=lh hr;have HB:=lh hB;have HD:=lh hd;clear hQ hB hr hp hV hd;go_enter Tryz.func133,Tryz.ntmps133
 go_wp2_with fail
 refine HI.out.mono ?_;rintro e w1 ⟨rfl,h1,h2⟩;have q1:w1.cell? ⟨bx,0,none⟩=some (.pointer (some ⟨C.rb,0,none⟩)):=(h2.cell hb hn).trans hc;have q2:w1.cell? ⟨dx,0,none⟩=some (.int .i64 d):=(h2.cell hb2 hn2).trans hc2;have Q1:=lh h1;have F1:=lh h2;clear h1 h2;go_wp2_with fail
 refine (Z06 Q1.out Z2m B HR.out (Ya HB.out F1.out.size)).mono ?_;rintro e w2 ⟨rfl,h1,h2⟩;have r1:w2.cell? ⟨bx,0,none⟩=some (.pointer (some ⟨C.rb,0,none⟩)):=(h2.cell (Ye hb F1.out.size) hn).trans q1;have r2:w2.cell? ⟨dx,0,none⟩=some (.int .i64 d):=(h2.cell (Ye hb2 F1.out.size) hn2).trans q2;have Q2:=lh h1;have F2:=lh (F1.out.trans h2);have hd2:=HD.out;clear h1 h2 q1 q2;go_wp2_with fail
 refine (HV.out w2 C B (d + 1) _ _ _ Q2.out HR.out (Ya HB.out F2.out.size) (by omega) HP.out).mono ?_;rintro e w3 ⟨a,rfl,h1,h2,h3⟩;have G3:=lh h1;have Q3:=lh h2;have F3:=lh h3;clear h1 h2 h3 r1 r2;go_wp2;go_ret;have hal:=(Y8 w3.heap.size w3).alloc (Y5 _) (.cells #[.pointer (some ⟨a.b,0,none⟩)] 22)
 refine ⟨_,?_,Got.one (k:=39) (t:=(Zj σ).1) HB.out (F2.out.trans F3.out) (G3.out.pre F2.out),(Q3.out.below hal).below ((Y8 _ _).alloc (Y5 _) _),((F2.out.trans F3.out).trans (RFr.below hal)).trans (RFr.below ((Y8 _ _).alloc (Y5 _) _))⟩;simp [ATree.b]
def fArg (kind:Int) (text:ByteArray) (rb d:Nat):Array Value:=#[.pointer (some ⟨rb,0,none⟩),.int .i64 kind,.string text,.int .i64 d]
def Zaq (b:Bool) (rb d:Nat):Array Value:=#[.pointer (some ⟨rb,0,none⟩),.int .i64 d,.bool b]
theorem Zks (f:Nat) (kind:Int) (text:ByteArray) (hBr:Z14 47 (Zaq true) (.braces true) f):Z14 50 (fArg kind text) (.func kind text) (f + 1):=by
 intro w C B d σ t σ' hQ hr hB hd hp;rw [refF] at hp;obtain ⟨l,σ1,hl,hp⟩:=Ze hp;obtain ⟨b,σ2,hb,hp⟩:=Ze hp;obtain ⟨rfl,rfl⟩:Tree.mk kind text 0 [.mk 40 ByteArray.empty 0 l.kids,b]=t∧σ2=σ':=by simpa using hp
 have HR:=lh hr;have HB:=lh hB;have HD:=lh hd;have HL:=lh hl;have HBR:=lh hBr;have HBB:=lh hb;have hrw:=hQ.rlt;have HQ:=lh hQ;obtain ⟨bx,hbx⟩:=zX w.heap.size
 have hne:bx≠C.rb:=by omega
 have hal:Below w.heap.size w (w.alloc (.cells #[.pointer (some ⟨C.rb,0,none⟩)] 53)):=(Y8 _ _).alloc (Y5 _) _;have q0:(w.alloc (.cells #[.pointer (some ⟨C.rb,0,none⟩)] 53)).cell? ⟨bx,0,none⟩=some (.pointer (some ⟨C.rb,0,none⟩)):=by rw [hbx]; simp only [World.cell?,heap_alloc_new]; rfl
 have hbz:bx < (w.alloc (.cells #[.pointer (some ⟨C.rb,0,none⟩)] 53)).heap.size:=by rw [hbx]; simp
 have Q0:=lh (hQ.below hal);have F0:=lh (RFr.below (rb:=C.rb) hal);clear hQ hB hr hp hd hl hBr hb hal hrw;unfold fArg;go_enter Tryz.func50,Tryz.ntmps50
 go_wp2_with fail
 refine (Z06 Q0.out Z08 B HR.out (Ya HB.out F0.out.size)).mono ?_;rintro e w1 ⟨rfl,h1,h2⟩;rw [← hbx];have q1:=(h2.cell hbz hne).trans q0;have hb1:bx < w1.heap.size:=Ye hbz h2.size;have Q1:=lh h1;have F1:=lh (F0.out.trans h2);have HBX:=lh hbx;clear h1 h2 q0 Q0 F0 hbz hbx;go_wp2_with fail
 refine (Zfp f d 87 #[.pointer (some ⟨bx,0,none⟩)] Z07 .params (fun g σ=>some (.mk 23 (Zj σ).1 0 [],(Zj σ).2)) Zkq (fun g acc σ=>by rw [refF]; rfl) w1 C B HR.out (Ya HB.out F1.out.size) (fun g hg w2 σ x σ' hF hQ hi=>?_) _ Q1.out l σ1 HL.out).mono ?_
 ·obtain ⟨rfl, rfl⟩ : Tree.mk 23 (Zj σ).1 0 [] = x ∧ (Zj σ).2 = σ' := by simpa using hi
  exact Zkg w2 C B bx σ hQ HR.out (Ya HB.out (F1.out.trans hF).size) ((hF.cell hb1 hne).trans q1)
 rintro e w2 ⟨v,kids,rfl,h1,h2,h3,_⟩;obtain ⟨p,cp,rfl⟩:=h1.slice;have q2:=(h3.cell hb1 hne).trans q1;have hb2:bx < w2.heap.size:=Ye hb1 h3.size;have N2:=lh ((h1.pre (w0:=w) F1.out.size).node (k:=40) (tx:=⟨#[]⟩) (n:=0) (Ya HB.out (F1.out.trans h3).size) (F1.out.trans h3).size);have hal:Below w2.heap.size w2 (w2.alloc (.cells #[.int .i64 40,.string ⟨#[]⟩,.int .i64 0,.slice p l.kids.length cp] 46)):=(Y8 _ _).alloc (Y5 _) _;have Q2:=lh (h2.below hal);have F2:=lh ((F1.out.trans h3).trans (RFr.below hal))
 have q3:(w2.alloc (.cells #[.int .i64 40,.string ⟨#[]⟩,.int .i64 0,.slice p l.kids.length cp] 46)).cell? ⟨bx,0,none⟩=some (.pointer (some ⟨C.rb,0,none⟩)):=(Z4 hb2).trans q2;clear h1 h2 h3 q1 hb1 hal;go_wp2_with fail
 refine (HBR.out _ C B d _ _ _ Q2.out HR.out (Ya HB.out F2.out.size) (by have:=HD.out; omega) HBB.out).mono ?_;rintro e w4 ⟨a,rfl,h1,h2,h3⟩;have G4:=lh h1;have Q4:=lh h2;have F4:=lh h3;clear h1 h2 h3 q2 q3;go_wp2;go_ret;have hal:=(Y8 w4.heap.size w4).alloc (Y5 _) (.cells #[.pointer (some ⟨w2.heap.size,0,none⟩),.pointer (some ⟨a.b,0,none⟩)] 22)
 refine ⟨_,?_,Got.two (k:=kind) (t:=text) HB.out (F2.out.trans F4.out) (N2.out.rfr HR.out F4.out) (fun x hx=>(N2.out.new x hx).2) F2.out.size G4.out,(Q4.out.below hal).below ((Y8 _ _).alloc (Y5 _) _),((F2.out.trans F4.out).trans (RFr.below hal)).trans (RFr.below ((Y8 _ _).alloc (Y5 _) _))⟩;simp [ATree.b]
theorem Ze2:∀ {f d:Nat} {k:Int} {acc:List Tree} {us ts:List Tok} {t:Tree},Z0 f (.stmts k acc) d us=some (.ok (t,ts))→∃ tx l,t=.mk k tx 0 l:=by
 intro f;induction f with
 | zero=>intro d k acc us ts t h; cases h
 | succ f ih =>
   intro d k acc us ts t h;rw [Z0] at h;generalize (if k=1 then decide ((hdT us).kind=6) else isT Zk us)=c at h;cases c
   ·obtain ⟨x,vs,_,h⟩:=Z16 h;exact ih h
   ·obtain ⟨rfl,_⟩:=Z3c h; exact ⟨_,_,rfl⟩
theorem Zeq (f:Nat) (body:Bool) (hS:Says 27 (fun rb=>#[.pointer (some ⟨rb,0,none⟩),.int .i64 6,.string Zk]) (.stmts 6 []) f) :
 Says 94 (fun rb=>#[.pointer (some ⟨rb,0,none⟩),.bool body]) (.block body) (f + 1):=by
 intro w rb B d ts r hP hp;have hw:Z0p Zb ts (fun ts=>Zx (Z0 f (.stmts 6 []) d ts) fun x ts=>Z0p Zk ts fun ts=>okT (if body then x else .mk 6 ByteArray.empty 0 x.kids) ts)=some r:=hp;have HP:=lh hP;simp only;rcases Z1q hw with ⟨hs,h1⟩ | ⟨hs,rfl⟩
 ·have HC := lh (Z1v w rb ts d Zb hP.rd hs);have H1 := lh h1;clear hP hp hw hs h1;go_enter Tryz.func94, Tryz.ntmps94
  go_wp2_with fail
  refine HC.out.mono ?_;rintro e w1 ⟨rfl,hR1,hF1⟩;have P1:=lh (HP.out.tail hR1 hF1);have F1:=lh hF1;clear hR1 hF1 HC;rcases Zr H1.out with ⟨⟨c,p⟩,hv,rfl⟩ | ⟨t,ts2,hv,h2⟩
  ·have HV := hS w1 rb B d _ _ P1.out hv;simp only at HV;unfold Zk at HV;have HV := lh HV;clear hv;go_wp2_with fail
   refine HV.out.mono ?_;rintro e w2 ⟨⟨b,rfl,h1,h2⟩,hF⟩;exact ⟨rfl,Z05.pre F1.out (r:=.error (c,p)) ⟨⟨b,rfl,h1,h2⟩,hF⟩⟩
  ·have HV := hS w1 rb B d _ _ P1.out hv;simp only at HV;unfold Zk at HV;have HV := lh HV;have hl := Z0t hv;obtain ⟨tx, l, rfl⟩ := Ze2 hv;have H2 := lh h2;clear hv h2;go_wp2_with fail
   refine HV.out.mono ?_;rintro e w2 ⟨a,rfl,hG,hR2,hF2⟩;obtain ⟨b,v,k,tx',n,kids⟩:=a;have htr:=hG.tree;simp only [ATree.tree,Tree.mk.injEq] at htr;obtain ⟨rfl,rfl,rfl,rfl⟩:=htr;have G2:=hG.pre F1.out;have F2:=F1.out.trans hF2;have hblk:=G2.at'.blkOf;simp only [ATree.b,ATree.v,ATree.kind,ATree.text,ATree.n] at hblk ⊢;have c1:w2.cell? ⟨b,1,none⟩=some (.string tx'):=by simp [World.cell?,hblk]
   have z1:w2.frozen? ⟨b,1,none⟩=false:=by simp [World.frozen?,hblk]
   have P2:=P1.out.next hR2 hF2 hl;have H3:=lh (Got.text (t':=ByteArray.empty) HP.out.lt HP.out.le G2 F2 hR2);have P2':Pre (w2.setCell ⟨b,1,none⟩ (.string ByteArray.empty)) rb B d ts2:=⟨H3.out.2.2,P2.deep,P2.lt,by rw [Yn]; exact P2.le,P2.few⟩
   have P2:=lh P2;have P2':=lh P2';have F2:=lh F2;have G2:=lh G2;clear hG hR2 hF2 HV hl hblk;rcases Z1q H2.out with ⟨hs,h3⟩ | ⟨hs,rfl⟩
   ·have h3 := Yk h3;have HR := lh h3.symm;cases body
    ·have HC := Z1v _ rb ts2 d Zk P2'.out.rd hs;unfold Zk at HC;have HC := lh HC;clear hs h3;go_wp2_with fail
     refine HC.out.mono ?_;rintro e w3 ⟨rfl,hR3,hF3⟩;have R3:=lh hR3;have F3:=lh hF3;clear hR3 hF3;go_wp2;go_ret;rw [HR.out];exact ⟨_,rfl,H3.out.1.rfr HP.out.lt F3.out,R3.out,H3.out.2.1.trans F3.out⟩
    ·have HC := Z1v _ rb ts2 d Zk P2.out.rd hs;unfold Zk at HC;have HC := lh HC;clear hs h3;go_wp2_with fail
     refine HC.out.mono ?_;rintro e w3 ⟨rfl,hR3,hF3⟩;have R3:=lh hR3;have F3:=lh hF3;clear hR3 hF3;go_wp2;go_ret;rw [HR.out];exact ⟨_,rfl,G2.out.rfr HP.out.lt F3.out,R3.out,F2.out.trans F3.out⟩
   ·cases body
    ·have HC := Z3d _ rb ts2 d Zk P2'.out.rd hs;unfold Zk at HC;have HC := lh HC;clear hs;go_wp2_with fail
     refine HC.out.mono ?_;rintro e w3 ⟨⟨b,rfl,h1,h2⟩,hB⟩;exact ⟨rfl,Z05.err H3.out.2.1 ⟨b,rfl,h1,h2⟩ hB⟩
    ·have HC := Z3d _ rb ts2 d Zk P2.out.rd hs;unfold Zk at HC;have HC := lh HC;clear hs;go_wp2_with fail
     refine HC.out.mono ?_;rintro e w3 ⟨⟨b,rfl,h1,h2⟩,hB⟩;exact ⟨rfl,Z05.err F2.out ⟨b,rfl,h1,h2⟩ hB⟩
 ·have HC := lh (Z3d w rb ts d Zb hP.rd hs);clear hP hp hw hs;go_enter Tryz.func94, Tryz.ntmps94
  go_wp2_with fail
  refine HC.out.mono ?_;rintro e w3 ⟨⟨b,rfl,h1,h2⟩,hB⟩;exact ⟨rfl,Z05.err (RFr.refl _ _) ⟨b,rfl,h1,h2⟩ hB⟩
theorem Zfi (f:Nat) (kind:Int) (must:Bool) (hV:Says 101 rArg .value f) :
 Says 97 (fun rb=>#[.pointer (some ⟨rb,0,none⟩),.int .i64 kind,.bool must]) (.decl kind must) (f + 1):=by
 intro w rb B d ts r hP hp;have hw:Z2w ts (fun s ts=>if must && !isT s_eq ts then Z2c 3 ts else if isT s_eq ts then Zx (Z0 f .value d ts.tail) fun x ts=>okT (.mk kind s 0 [x]) ts else okT (.mk kind s 0 []) ts)=some r:=hp;have HP:=lh hP;simp only;rcases Z3l hw with ⟨hk,h1⟩ | ⟨hk,rfl⟩
 ·have HC := lh (Z3o w rb ts d hP.rd hk);obtain ⟨s, hs⟩ := zX ((hdT ts).text)
  rw [← hs] at HC h1;have H1:=lh h1;clear hP hp hw hk h1 hs;go_enter Tryz.func97,Tryz.ntmps97
  go_wp2_with fail
  refine HC.out.mono ?_;rintro e w1 ⟨rfl,hR1,hF1⟩;have P1:=HP.out.tail hR1 hF1;have HN:=lh (Z0g w1 rb kind s none 0 0);have hal:Below w1.heap.size w1 (w1.alloc (.cells #[.int .i64 kind,.string s,.int .i64 0,.slice none 0 0] 46)):=(Y8 _ _).alloc (Y5 _) _;obtain ⟨nb,hnb⟩:=zX w1.heap.size
  have G2:=Got.leaf (k:=kind) (t:=s) (n:=0) HP.out.le hF1;have P2:=P1.below hal;have F2:=hF1.trans (RFr.below (rb:=rb) hal);rw [← hnb] at G2 HN;go_wp2_with fail
  refine HN.out.mono ?_;rintro e w2 ⟨rfl,hw2⟩;rw [← hw2] at G2 P2 F2;have HNB:=lh hnb;have G2:=lh G2;have P2:=lh P2;have F2:=lh F2;clear hR1 hF1 HC P1 HN hal hnb hw2;obtain ⟨us,hus⟩:=zX ts.tail
  rw [← hus] at P2 H1;have HUS:=lh hus;clear hus;by_cases he:isT s_eq us=true
  ·have h1 := H1.out;rw [Y9 (by rw [he]; simp), Yb he] at h1;have HI := Z3x w2 rb us d s_eq P2.out.rd;rw [he] at HI;unfold s_eq at HI;have HI := lh HI;have HE := lh he;have H2 := lh h1;clear h1 he;have key : ∀ w3, Below w2.heap.size w2 w3 → Hid (Pre w3 rb B d us ∧ Got w B w3 (.mk nb (.slice none 0 0) kind s 0 []) (.mk kind s 0 []) ∧ RFr w w3 rb) := fun w3 hB => lh ⟨P2.out.below hB, G2.out.rfr HP.out.lt (RFr.below (rb := rb) hB), F2.out.trans (RFr.below hB)⟩;have KEY := lh key;clear key;cases must
   ·have PX := lh P2.out;have GX := lh G2.out;have FX := lh F2.out;clear KEY HI;have HX := HP.out.lt;have hlt := HP.out.lt;have HT := Z0s w2 rb us d s_eq PX.out.rd HE.out;unfold s_eq at HT;have HT := lh HT;go_wp2_with fail
    refine HT.out.mono ?_;rintro e w5 ⟨rfl,hR5,hF5⟩;have P5:=PX.out.tail hR5 hF5;have G5:=GX.out.rfr hlt hF5;have F5:=FX.out.trans hF5;have hblk5:=G5.at'.blkOf;simp only [ATree.b,ATree.v,ATree.kind,ATree.text,ATree.n] at hblk5;have n3:w5.cell? ⟨nb,3,none⟩=some (.slice none 0 0):=by simp [World.cell?,hblk5]
    have P5:=lh P5;have G5:=lh G5;have F5:=lh F5;clear hR5 hF5 hblk5 HT PX GX FX;go_wp2_with fail
    refine Z1 [(true,0),(true,1),(true,2),(true,3),(true,4),(true,5),(false,6),(false,7),(false,8)] [9,10,11] (fun W=>W.cell? ⟨nb,3,none⟩=some (.slice none 0 0)) (by kernel_rfl) (by kernel_rfl) (fun _ _ d _ _ h=>by cases d <;> exact h) n3 (fun hS0=>?_);simp only [Zf,zD,zE,zF,zG,zH,zI]
    iterate 6
     first
      | (refine Z2 ?_ (by rfl) (fun w' hS'=>?_) ?_; rotate_left; (have s0:=hS'; go_simp; first | done | with_reducible rfl); simp only [Act.put,zA,zB,zC])
      | (refine Z3 (by rfl) ?_; simp only [Act.put,zA,zB,zC])
    refine Z5 (fun K hK=>?_);go_simp
    have P6:Pre w5.drew rb B d us.tail:=P5.out.below (Y8 _ _).drew;rcases Zr H2.out with ⟨⟨c,p⟩,hv,rfl⟩ | ⟨t,vs,hv,hq3⟩
    ·refine (hV w5.drew rb B d _ _ P6 hv).mono ?_;rintro e w3 ⟨⟨b,rfl,h1,h2⟩,hF3⟩;exact ⟨rfl,Z05.pre F5.out.drew (r:=.error (c,p)) ⟨⟨b,rfl,h1,h2⟩,hF3⟩⟩
    ·obtain rfl := Yk hq3;refine (hV w5.drew rb B d _ _ P6 hv).mono ?_;rintro e w3 ⟨a, rfl, hA, hR3, hF3⟩;have hF53 : RFr w5 w3 rb := (RFr.refl w5 rb).drew.trans hF3;have hN3 := G5.out.rfr hlt hF53;have hblk := hN3.at'.blkOf;simp only [ATree.b, ATree.v, ATree.kind, ATree.text, ATree.n] at hblk;have m3 : w3.cell? ⟨nb, 3, none⟩ = some (.slice none 0 0) := by simp [World.cell?, hblk]
     have mz:w3.frozen? ⟨nb,3,none⟩=false:=by simp [World.frozen?,hblk]
     have hnb3:nb < w3.heap.size:=(Y6.1 hblk).1;have hk4:([]:List ATree).length≤4000:=by simp
     have NE:Hid ((Value.slice none 0 0).ownBlock≠some nb):=lh (by simp [Value.ownBlock]);have N3:=lh hN3;have A3:=lh hA;have R3:=lh hR3;have F3:=lh (F5.out.trans hF53);refine hK _ _ m3 ?_;obtain ⟨i0,hi,hz0,hz1,hz2⟩:=info_parts Tryz.infoPtr;clear hK K hA hR3 hF3 hF53 hN3 hblk hv hq3 n3;refine Z5 (fun K hK=>?_);go_simp
     refine hK _ _ ((Z4 hnb3).trans m3) ?_;clear hK K;refine Z5 (fun K hK=>?_)
     refine step_append_lies _ (by rfl) (.tmp 27) (.tmp 30) 44 (by rfl) B 22 i0 _ 1 8 Tryz.underlying44 hi hz0 hz1 hz2 rfl (by decide) (.slice none 0 0) (([]:List ATree)).length ((([]:List ATree)).map ATree.ptr) (by rfl) (N3.out.at'.rowOf.alloc _) ⟨w3.heap.size,0,none⟩ 1 1 [a.ptr] (by rfl) rfl (Yi (cs:=#[a.ptr]) (t:=22) (fr:=(0,0)) (heap_alloc_new w3 _)) (by simp [ATree.ptr,Value.oneCell']) (by decide) (by unfold maxLen; omega) (by omega) (by simp; have:=F3.out.size; have:=HP.out.le; omega) (w3.heap.size + 1) (by simp) ?_;intro gg cap w4 hown4 hgrow4 hat4 hlt4
     have m4:w4.cell? ⟨nb,3,none⟩=some (.slice none 0 0):=(hgrow4.cell_far ⟨nb,3,none⟩ (by simp; omega) (fun e=>NE.out e.symm)).trans ((Z4 hnb3).trans m3);have mz4:w4.frozen? ⟨nb,3,none⟩=false:=(hgrow4.frozen_far ⟨nb,3,none⟩ (by simp; omega) (fun e=>NE.out e.symm)).trans ((Z01 hnb3).trans mz);refine hK _ _ m4 ?_;clear hK K;simp only [Act.put,zA,zB,zC]
     have hfin:=Got.push hlt HP.out.le N3.out (wA:=w5.drew) (fun x hx=>(G5.out.new x hx).2) A3.out F3.out R3.out ((Y8 _ _).alloc (Y5 _) _) hgrow4 hown4 (by rcases hat4 with h | h; (exact .inl h); (exact .inr (by omega))) hlt4;have FIN:=lh hfin;clear hgrow4 hown4 hat4 hlt4 hfin;refine Z6 ?_;go_wp2;go_ret;exact ⟨_,rfl,FIN.out.1,FIN.out.2.2,FIN.out.2.1⟩
   ·go_wp2_with fail
    refine HI.out.mono ?_;rintro e wq ⟨rfl,hBq⟩;have hk:=KEY.out wq hBq;have PX:=lh hk.out.1;have GX:=lh hk.out.2.1;have FX:=lh hk.out.2.2;clear KEY HI hBq hk P2 G2 F2;have HX:=HP.out.lt;have hlt:=HP.out.lt;have HT:=Z0s wq rb us d s_eq PX.out.rd HE.out;unfold s_eq at HT;have HT:=lh HT;go_wp2_with fail
    refine HT.out.mono ?_;rintro e w5 ⟨rfl,hR5,hF5⟩;have P5:=PX.out.tail hR5 hF5;have G5:=GX.out.rfr hlt hF5;have F5:=FX.out.trans hF5;have hblk5:=G5.at'.blkOf;simp only [ATree.b,ATree.v,ATree.kind,ATree.text,ATree.n] at hblk5;have n3:w5.cell? ⟨nb,3,none⟩=some (.slice none 0 0):=by simp [World.cell?,hblk5]
    have P5:=lh P5;have G5:=lh G5;have F5:=lh F5;clear hR5 hF5 hblk5 HT PX GX FX;go_wp2_with fail
    refine Z1 [(true,0),(true,1),(true,2),(true,3),(true,4),(true,5),(false,6),(false,7),(false,8)] [9,10,11] (fun W=>W.cell? ⟨nb,3,none⟩=some (.slice none 0 0)) (by kernel_rfl) (by kernel_rfl) (fun _ _ d _ _ h=>by cases d <;> exact h) n3 (fun hS0=>?_);simp only [Zf,zD,zE,zF,zG,zH,zI]
    iterate 6
     first
      | (refine Z2 ?_ (by rfl) (fun w' hS'=>?_) ?_; rotate_left; (have s0:=hS'; go_simp; first | done | with_reducible rfl); simp only [Act.put,zA,zB,zC])
      | (refine Z3 (by rfl) ?_; simp only [Act.put,zA,zB,zC])
    refine Z5 (fun K hK=>?_);go_simp
    have P6:Pre w5.drew rb B d us.tail:=P5.out.below (Y8 _ _).drew;rcases Zr H2.out with ⟨⟨c,p⟩,hv,rfl⟩ | ⟨t,vs,hv,hq3⟩
    ·refine (hV w5.drew rb B d _ _ P6 hv).mono ?_;rintro e w3 ⟨⟨b,rfl,h1,h2⟩,hF3⟩;exact ⟨rfl,Z05.pre F5.out.drew (r:=.error (c,p)) ⟨⟨b,rfl,h1,h2⟩,hF3⟩⟩
    ·obtain rfl := Yk hq3;refine (hV w5.drew rb B d _ _ P6 hv).mono ?_;rintro e w3 ⟨a, rfl, hA, hR3, hF3⟩;have hF53 : RFr w5 w3 rb := (RFr.refl w5 rb).drew.trans hF3;have hN3 := G5.out.rfr hlt hF53;have hblk := hN3.at'.blkOf;simp only [ATree.b, ATree.v, ATree.kind, ATree.text, ATree.n] at hblk;have m3 : w3.cell? ⟨nb, 3, none⟩ = some (.slice none 0 0) := by simp [World.cell?, hblk]
     have mz:w3.frozen? ⟨nb,3,none⟩=false:=by simp [World.frozen?,hblk]
     have hnb3:nb < w3.heap.size:=(Y6.1 hblk).1;have hk4:([]:List ATree).length≤4000:=by simp
     have NE:Hid ((Value.slice none 0 0).ownBlock≠some nb):=lh (by simp [Value.ownBlock]);have N3:=lh hN3;have A3:=lh hA;have R3:=lh hR3;have F3:=lh (F5.out.trans hF53);refine hK _ _ m3 ?_;obtain ⟨i0,hi,hz0,hz1,hz2⟩:=info_parts Tryz.infoPtr;clear hK K hA hR3 hF3 hF53 hN3 hblk hv hq3 n3;refine Z5 (fun K hK=>?_);go_simp
     refine hK _ _ ((Z4 hnb3).trans m3) ?_;clear hK K;refine Z5 (fun K hK=>?_)
     refine step_append_lies _ (by rfl) (.tmp 27) (.tmp 30) 44 (by rfl) B 22 i0 _ 1 8 Tryz.underlying44 hi hz0 hz1 hz2 rfl (by decide) (.slice none 0 0) (([]:List ATree)).length ((([]:List ATree)).map ATree.ptr) (by rfl) (N3.out.at'.rowOf.alloc _) ⟨w3.heap.size,0,none⟩ 1 1 [a.ptr] (by rfl) rfl (Yi (cs:=#[a.ptr]) (t:=22) (fr:=(0,0)) (heap_alloc_new w3 _)) (by simp [ATree.ptr,Value.oneCell']) (by decide) (by unfold maxLen; omega) (by omega) (by simp; have:=F3.out.size; have:=HP.out.le; omega) (w3.heap.size + 1) (by simp) ?_;intro gg cap w4 hown4 hgrow4 hat4 hlt4
     have m4:w4.cell? ⟨nb,3,none⟩=some (.slice none 0 0):=(hgrow4.cell_far ⟨nb,3,none⟩ (by simp; omega) (fun e=>NE.out e.symm)).trans ((Z4 hnb3).trans m3);have mz4:w4.frozen? ⟨nb,3,none⟩=false:=(hgrow4.frozen_far ⟨nb,3,none⟩ (by simp; omega) (fun e=>NE.out e.symm)).trans ((Z01 hnb3).trans mz);refine hK _ _ m4 ?_;clear hK K;simp only [Act.put,zA,zB,zC]
     have hfin:=Got.push hlt HP.out.le N3.out (wA:=w5.drew) (fun x hx=>(G5.out.new x hx).2) A3.out F3.out R3.out ((Y8 _ _).alloc (Y5 _) _) hgrow4 hown4 (by rcases hat4 with h | h; (exact .inl h); (exact .inr (by omega))) hlt4;have FIN:=lh hfin;clear hgrow4 hown4 hat4 hlt4 hfin;refine Z6 ?_;go_wp2;go_ret;exact ⟨_,rfl,FIN.out.1,FIN.out.2.2,FIN.out.2.1⟩
  ·have he' : isT s_eq us = false := by simpa using he
   have h1:=H1.out;cases must
   ·rw [Y9 (by simp), Y9 he] at h1;obtain rfl := Yk h1;have HT := Z1i w2 rb us d s_eq P2.out.rd he';unfold s_eq at HT;have HT := lh HT;clear h1 he he' H1;go_wp2_with fail
    refine HT.out.mono ?_;rintro e w3 ⟨rfl,hB3⟩;have R3:=lh (P2.out.rd.below hB3);have G3:=lh (G2.out.rfr HP.out.lt (RFr.below (rb:=rb) hB3));have F3:=lh (F2.out.trans (RFr.below (rb:=rb) hB3));clear hB3;go_wp2;go_ret;exact ⟨_,rfl,G3.out,R3.out,F3.out⟩
   ·rw [Yb (by rw [he']; rfl)] at h1;obtain rfl := Yk h1;have HI := Z3x w2 rb us d s_eq P2.out.rd;rw [he'] at HI;unfold s_eq at HI;have HI := lh HI;clear h1 he he' H1;go_wp2_with fail
    refine HI.out.mono ?_;rintro e w3 ⟨rfl,hB3⟩;have HF:=lh (Z2u w3 rb us d 3 (P2.out.rd.below hB3));have F3:=lh (F2.out.trans (RFr.below (rb:=rb) hB3));clear hB3;go_wp2_with fail
    refine HF.out.mono ?_;rintro e w4 ⟨⟨b,rfl,h1,h2⟩,hB⟩;exact ⟨rfl,Z05.err F3.out ⟨b,rfl,h1,h2⟩ hB⟩
 ·have HC := lh (Z5k w rb ts d hP.rd hk);clear hP hp hw hk;go_enter Tryz.func97, Tryz.ntmps97
  go_wp2_with fail
  refine HC.out.mono ?_;rintro e w3 ⟨⟨b,rfl,h1,h2⟩,hB⟩;exact ⟨rfl,Z05.err (RFr.refl _ _) ⟨b,rfl,h1,h2⟩ hB⟩
theorem Zd0 (f:Nat) (hBn:Says 129 (fun rb=>#[.pointer (some ⟨rb,0,none⟩),.int .i64 0]) (.bin 0) f) (hV:Says 101 rArg .value f) :
 Says 120 rArg .assign (f + 1):=by
 intro w rb B d ts r hP hp;have hw:Zx (Z0 f (.bin 0) d ts) (fun x ts'=>if isT s_eq ts' then (if x.kind=23∨x.kind=36 then Zx (Z0 f .value d ts'.tail) fun y ts=>okT (.mk 24 ByteArray.empty 0 [x,y]) ts else some (.error (1,(hdT ts).at'))) else okT x ts')=some r:=hp;have HP:=lh hP;obtain ⟨tb,off,cap,h⟩:=hP.rd;have c0:=h.c0;have t3:=h.hd (j:=3) rfl;have hpos:=h.pos;have hm:=h.most;have hle:=h.le;unfold maxLen at hm;obtain ⟨n,hn⟩:=zX ts.length
 rw [← hn] at c0 hpos hle;have H1:=lh hw;unfold rArg;obtain ⟨pl,hpl⟩:=zX ((hdT ts).at')
 rw [← hpl] at t3;have HPL:=lh hpl;clear hP hp hw h hn hpl;have hlt:=HP.out.lt;rcases Zr H1.out with ⟨⟨c,p⟩,hv,rfl⟩ | ⟨t,us,hv,h2⟩
 ·have HV := lh (hBn w rb B d _ _ HP.out hv);clear hv;go_enter Tryz.func120, Tryz.ntmps120
  go_wp2_with fail
  refine HV.out.mono ?_;rintro e w2 ⟨⟨b,rfl,h1,h2⟩,hF⟩;exact ⟨rfl,⟨b,rfl,h1,h2⟩,hF⟩
 ·have HV := lh (hBn w rb B d _ _ HP.out hv);have hl := Z0t hv;have H2 := lh h2;clear hv h2;go_enter Tryz.func120, Tryz.ntmps120
  go_wp2_with fail
  refine HV.out.mono ?_;rintro e w2 ⟨a,rfl,hG,hR2,hF2⟩;have hblk:=hG.at'.blkOf;have d0:w2.cell? ⟨a.b,0,none⟩=some (.int .i64 a.kind):=by simp [World.cell?,hblk]
  have hka:a.kind=t.kind:=by rw [← hG.tree]; cases a; rfl
  have HKA:=lh hka;have P2:=lh (HP.out.next hR2 hF2 hl);have G2:=lh hG;have F2:=lh hF2;obtain ⟨ab,hab⟩:=zX a.b
  obtain ⟨ak,hak⟩:=zX a.kind
  have hal:=G2.out.at'.lt;rw [← hab] at d0 hal ⊢;rw [← hak] at d0;have HAB:=lh hab;have HAK:=lh hak;clear hR2 hF2 hG HV hl hblk hka hab hak c0 t3;by_cases he:isT s_eq us=true
  ·have h3 := H2.out;rw [Yb he] at h3;have HI := Z3x w2 rb us d s_eq P2.out.rd;rw [he] at HI;unfold s_eq at HI;have HI := lh HI;have HE := lh he;clear he;go_wp2_with fail
   refine HI.out.mono ?_;rintro e w3 ⟨rfl,hB3⟩;have P3:=lh (P2.out.below hB3);have G3:=lh (G2.out.rfr hlt (RFr.below (rb:=rb) hB3));have F3:=lh (F2.out.trans (RFr.below (rb:=rb) hB3));have d0':=(hB3.cell (p:=⟨ab,0,none⟩) hal).trans d0;clear hB3 HI;by_cases hk:t.kind=23∨t.kind=36
   ·rw [Yb hk] at h3;have H3 := lh h3;clear h3;have HT := Z0s w3 rb us d s_eq P3.out.rd HE.out;unfold s_eq at HT;have HT := lh HT;have hak2 : ak = 23 ∨ ak = 36 := by rw [HAK.out, HKA.out]; exact hk
    clear hk;rcases hak2 with rfl | rfl
    all_goals
     go_wp2_with fail
     refine HT.out.mono ?_;rintro e w5 ⟨rfl,hR5,hF5⟩;have P5:=P3.out.tail hR5 hF5;have G5:=lh (G3.out.rfr hlt hF5);have F5:=lh (F3.out.trans hF5);rcases Zr H3.out with ⟨⟨c,p⟩,hv,rfl⟩ | ⟨y,vs,hv,h4⟩
     ·have HV := lh (hV w5 rb B d _ _ P5 hv);clear hv hR5 hF5;go_wp2_with fail
      refine HV.out.mono ?_;rintro e w6 ⟨⟨b,rfl,h1,h2⟩,hF⟩;exact ⟨rfl,Z05.pre F5.out (r:=.error (c,p)) ⟨⟨b,rfl,h1,h2⟩,hF⟩⟩
     ·obtain rfl := Yk h4;have HV := lh (hV w5 rb B d _ _ P5 hv);clear hv hR5 hF5 h4;go_wp2_with fail
      refine HV.out.mono ?_;rintro e w6 ⟨c,rfl,hC,hR6,hF6⟩;have G6:=G5.out.rfr hlt hF6;have FIN:=lh (Got.two (k:=24) (t:=⟨#[]⟩) HP.out.le (F5.out.trans hF6) G6 (wA:=w5) (fun x hx=>(G5.out.new x hx).2) F5.out.size hC);have hb1:Below w6.heap.size w6 (w6.alloc (.cells #[.pointer (some ⟨ab,0,none⟩),.pointer (some ⟨c.b,0,none⟩)] 22)):=(Y8 _ _).alloc (Y5 _) _
      have hb2:Below w6.heap.size w6 ((w6.alloc (.cells #[.pointer (some ⟨ab,0,none⟩),.pointer (some ⟨c.b,0,none⟩)] 22)).alloc (.cells #[.int .i64 24,.string ⟨#[]⟩,.int .i64 0,.slice (some ⟨w6.heap.size,0,none⟩) 2 2] 46)):=hb1.alloc (by simp) _;have R6:=lh (hR6.below hb2);have F6:=lh ((F5.out.trans hF6).trans (RFr.below (rb:=rb) hb2));clear hC hR6 hF6 G6 HV hb1 hb2;go_wp2_with fail
      refine (Z0g _ rb 24 ⟨#[]⟩ _ 2 2).mono ?_;rintro e w7 ⟨rfl,rfl⟩;go_wp2;go_ret;refine ⟨.mk (w6.heap.size + 1) (.slice (some ⟨w6.heap.size,0,none⟩) 2 2) 24 ⟨#[]⟩ 0 [a,c],rfl,?_,R6.out,F6.out⟩;rw [HAB.out];exact FIN.out
   ·rw [Y9 hk] at h3;obtain rfl := Yk h3;have n23 : (ak != 23) = true := by rw [HAK.out, HKA.out]; simp; omega
    have n36:(ak != 36)=true:=by rw [HAK.out,HKA.out]; simp; omega
    clear h3 hk;go_wp2;refine ⟨rfl,?_⟩;rw [← HPL.out];exact Z05.err F3.out (Z9z (Y5 _)) ((Y8 _ _).alloc (Y5 _) _)
  ·have he' : isT s_eq us = false := by simpa using he
   have h3:=H2.out;rw [Y9 he] at h3;obtain rfl:=Yk h3;have HI:=Z3x w2 rb us d s_eq P2.out.rd;rw [he'] at HI;unfold s_eq at HI;have HI:=lh HI;clear h3 he he';go_wp2_with fail
   refine HI.out.mono ?_;rintro e w3 ⟨rfl,hB3⟩;have R3:=lh (P2.out.rd.below hB3);have G3:=lh (G2.out.rfr hlt (RFr.below (rb:=rb) hB3));have F3:=lh (F2.out.trans (RFr.below (rb:=rb) hB3));clear hB3;go_wp2;go_ret;rw [HAB.out];exact ⟨a,rfl,G3.out,R3.out,F3.out⟩
theorem Z6e (w0 w:World) (rb B d:Nat) (ts:List Tok) (a:ATree) (t:Tree) (r:Except (Int×Nat) (Tree×List Tok)) (hP:Pre w rb B d ts) (hG:Got w0 B w a t) (hF:RFr w0 w rb) (hr:endT t ts=some r) :
 Calls Tryz.prog 96 #[.pointer (some ⟨rb,0,none⟩),.pointer (some ⟨a.b,0,none⟩)] w (Z05 w0 rb B d r):=by
 have HP:=lh hP;have HG:=lh hG;have HF:=lh hF;rcases Z1q hr with ⟨hs,h1⟩ | ⟨hs,rfl⟩
 ·obtain rfl := Yk h1;have HC := lh (Z1v w rb ts d Zg hP.rd hs);clear hP hG hF hr hs h1;go_enter Tryz.func96, Tryz.ntmps96
  go_wp2_with fail
  refine HC.out.mono ?_;rintro e w3 ⟨rfl,hR3,hF3⟩;have R3:=lh hR3;have F3:=lh hF3;clear hR3 hF3 HC;go_wp2;go_ret;exact ⟨a,rfl,HG.out.rfr HP.out.lt F3.out,R3.out,HF.out.trans F3.out⟩
 ·have HC := lh (Z3d w rb ts d Zg hP.rd hs);clear hP hG hF hr hs;go_enter Tryz.func96, Tryz.ntmps96
  go_wp2_with fail
  refine HC.out.mono ?_;rintro e w3 ⟨⟨b,rfl,h1,h2⟩,hB⟩;exact ⟨rfl,Z05.err HF.out ⟨b,rfl,h1,h2⟩ hB⟩
end Go.Proofs.YtmjfllklcpjddaaGreatDoor
