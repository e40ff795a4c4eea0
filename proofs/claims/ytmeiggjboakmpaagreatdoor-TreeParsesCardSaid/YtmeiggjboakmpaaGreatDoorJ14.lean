/- The document's parser: a statement that is a value has one; braces. -/
import Derived.Test.YtmeiggjboakmpaaGreatDoorJ13
import Derived.LaidEql
namespace Go.Proofs.YtmeiggjboakmpaaGreatDoor
open Go Go.RowKit
set_option maxRecDepth 100000
set_option maxHeartbeats 20000000
set_option linter.unusedVariables false
theorem Zbe {f d:Nat} {b:Bool} {σ σ':RS} {t:Tree} (h:refF f (.braces b) d σ=some (t,σ')):t.kind=6:=by
 cases f with
 | zero=>simp [refF] at h
 | succ f =>
   rw [refF] at h;obtain ⟨l,σ1,_,h⟩:=Zn h;simp only [Option.some.injEq,Prod.mk.injEq] at h;rw [← h.1]; rfl
theorem Zff {f d:Nat} {k:Int} {s:ByteArray} {σ σ':RS} {t:Tree} (h:refF f (.func k s) d σ=some (t,σ')):t.kind=k:=by
 cases f with
 | zero=>simp [refF] at h
 | succ f =>
   rw [refF] at h;obtain ⟨l,σ1,_,h⟩:=Zn h;obtain ⟨l,σ1,_,h⟩:=Zn h;simp only [Option.some.injEq,Prod.mk.injEq] at h;rw [← h.1]; rfl
theorem Zjj (σ:RS):Z45 σ≠15:=by
 unfold Z45;split;·decide
 ·split;·decide
  ·split <;> decide
theorem Z7w {a t:Tree} {σ σ':RS} (h:some (a,σ)=some (t,σ')):a=t:=by simp only [Option.some.injEq,Prod.mk.injEq] at h; exact h.1
theorem Z7s {f d:Nat} {σ σ':RS} {t:Tree} (h:refF f .stmt d σ=some (t,σ')) (hk:t.kind=15):t.kids≠[]:=by
 cases f with
 | zero=>simp [refF] at h
 | succ f=>
 rw [refF] at h;by_cases c:30 < d
 ·rw [Yb c] at h;rw [← Z7w h] at hk; cases hk
 rw [Y9 c] at h;by_cases c:Zl Zi σ=true;·rw [Yb c] at h; have:=Zbe h; omega
 rw [Y9 c] at h;by_cases c:Zl Zs σ=true;·rw [Yb c] at h; rw [← Z7w h] at hk; cases hk
 rw [Y9 c] at h;by_cases c:Zl Ze σ=true;·rw [Yb c] at h; have:=Zff h; omega
 rw [Y9 c] at h;by_cases c:Zl s_if σ=true
 ·rw [Yb c] at h;obtain ⟨_, _, _, h⟩ := Zn h;obtain ⟨_, σ2, _, h⟩ := Zn h;try simp only at h
  split at h
  ·obtain ⟨_,_,_,h⟩:=Zn h;rw [← Z7w h] at hk; cases hk
  ·rw [← Z7w h] at hk; cases hk
 rw [Y9 c] at h;by_cases c:(Zl Zz σ || Zl Z0d σ)=true
 ·rw [Yb c] at h;obtain ⟨_,_,_,h⟩:=Zn h;obtain ⟨_,_,_,h⟩:=Zn h;rw [← Z7w h] at hk;simp only [Tree.kind] at hk;split at hk <;> cases hk
 rw [Y9 c] at h;by_cases c:Zl Z1j σ=true
 ·rw [Yb c] at h;obtain ⟨_,_,_,h⟩:=Zn h;have key:∀ (l:List Tree) (σ1:RS),(if Zl Zt σ1=true then Z0n (refF f (.braces false) d (advR σ1)) fun c σ=>tryF (l ++ [.mk 14 ByteArray.empty 0 [c]]) σ else tryF l σ1)=some (t,σ')→t.kind=12:=by
   intro l σ1 h;split at h
   ·obtain ⟨_,_,_,h⟩:=Zn h;unfold tryF at h;rw [← Z7w h]; rfl
   ·unfold tryF at h;rw [← Z7w h]; rfl
  try simp only at h
  split at h
  ·obtain ⟨_,_,_,h⟩:=Zn h;have:=key _ _ h; omega
  ·have:=key _ _ h; omega
 rw [Y9 c] at h;by_cases c:Z45 σ≠0
 ·rw [Yb c] at h;have hd := Zjj σ;split at h
  ·obtain ⟨_,_,_,h⟩:=Zn h;rw [← Z7w h] at hk; exact absurd hk hd
  ·rw [← Z7w h] at hk; exact absurd hk hd
 rw [Y9 c] at h;by_cases c:Zl Z08 σ=true
 ·rw [Yb c] at h;split at h;·rw [← Z7w h] at hk; cases hk
  ·obtain ⟨_,_,_,h⟩:=Zn h;rw [← Z7w h] at hk; cases hk
 rw [Y9 c] at h;by_cases c:Zl Z0s σ=true
 ·rw [Yb c] at h;obtain ⟨_,_,_,h⟩:=Zn h;rw [← Z7w h] at hk; cases hk
 rw [Y9 c] at h;obtain ⟨_,_,_,h⟩:=Zn h;rw [← Z7w h];simp [Tree.kids]
def BInv (w0:World) (C:QC) (B d f:Nat) (t:Tree) (σ':RS) (g:Nat) (v:Value) (wr:World):Prop:=
 ∃ (acc:List Tree) (kids:List ATree) (σ:RS),refF g (.bracesL acc) d σ=some (t,σ')∧ListAt w0 B wr v kids acc∧QS wr C σ∧RFr w0 wr C.rb∧acc.length + g≤f∧∀ x∈acc,x.kind=15→x.kids≠[]
theorem Z9m (f:Nat) (hS:∀ g,g < f→Z1s 13 qd .stmt g):Z1s 34 (Zaa false) (.braces false) (f + 1):=by
 intro w C B d σ t σ' hQ hr hB hd hp;rw [refF] at hp;obtain ⟨l,σ1,hl,hp⟩:=Zn hp;simp only [Option.some.injEq,Prod.mk.injEq] at hp;have HP:=lh hp;have HM:=lh (Z0w hQ Zi B hr hB);have HR:=lh hr;have HB:=lh hB;have HD:=lh hd;have HS:=lh hS;have HL:=lh hl;clear hQ hB hr hp hd hS hl;unfold Zaa;go_enter Tryz.func34,Tryz.ntmps34
 go_wp2_with fail
 refine HM.out.mono ?_;rintro e w0 ⟨rfl,h1,h2⟩;have ST:=lh (show ∃ g,g≤f∧BInv w0 C B d f l σ1 g (.slice none 0 0) w0 from ⟨f,Y5 _,[],[],_,HL.out,ListAt.nil,h1,RFr.refl _ _,by simp,fun x hx=>by cases hx⟩);have F0:=lh h2;clear h1 h2 HM;go_wp2_with fail
 go_loopw [7] (fun v wr=>∃ g,g≤f∧BInv w0 C B d f l σ1 g v wr) (fun v wr=>least fun g=>g≤f∧BInv w0 C B d f l σ1 g v wr)
 case atStart=>exact ST.out
 case round=>
  have hI:=Z3y hrel;clear ST;obtain ⟨g,hg⟩:=zX (least fun g=>g≤f∧BInv w0 C B d f l σ1 g u7 wr)
  rw [← hg] at hI;have HG:=lh hg;clear hg hrel;obtain ⟨hgF,acc,kids,σ,hp,hL,hQ,hF,h8,hx⟩:=hI;cases g with
  | zero=>simp [refF] at hp
  | succ g=>
  rw [refF] at hp;have HO:=Z2f hQ;have HN:=Zk hQ Z01;obtain ⟨p,cp,rfl⟩:=hL.slice;have HL:=lh hL;have HQ:=lh hQ;have HF:=lh hF;have H8:=lh h8;have HX:=lh hx;have HGF:=lh hgF;by_cases hf:σ.f.isNone=true;rotate_left
  ·have hf : σ.f.isNone = false := Bool.eq_false_iff.2 hf;rw [hf] at HO;rw [Y9 (by simp [hf])] at hp;simp only [Option.some.injEq, Prod.mk.injEq] at hp;have HO := lh HO;have HE := lh hp;have F1 := HF;have Q1 := HQ;clear hL hQ hF h8 hgF hf hp HN hx;go_wp2_with fail
   refine HO.out.mono ?_;rintro e w1 ⟨rfl,rfl⟩;go_wp2_with fail
   refine (Z0w Q1.out Z01 B HR.out (Ya HB.out (F0.out.trans F1.out).size)).mono ?_;rintro e w2 ⟨rfl,h2,h3⟩;have F2:=lh ((F0.out.trans F1.out).trans h3);have L2:=lh (HL.out.rfr HR.out h3);have hal:Below w2.heap.size w2 (w2.alloc (.cells #[.int .i64 6,.string ⟨#[]⟩,.int .i64 0,.slice p acc.length cp] 38)):=(Y8 _ _).alloc (Y5 _) _;have N3:=lh ((L2.out.pre F0.out.size).node (k:=6) (tx:=⟨#[]⟩) (n:=0) (Ya HB.out F2.out.size) F2.out.size);have Q3:=lh (h2.below hal);have F3:=lh (F2.out.trans (RFr.below (rb:=C.rb) hal))
   have L3:=lh (L2.out.rfr HR.out (RFr.below (rb:=C.rb) hal));clear h2 h3 hal;go_wp2;go_ret;obtain ⟨h4,h5⟩:=HE.out;obtain ⟨h6,h7⟩:=HP.out;refine ⟨.mk w2.heap.size (.slice p acc.length cp) 6 ⟨#[]⟩ 0 kids,rfl,?_,by rw [← h7,← h5]; exact Q3.out,F3.out⟩;rw [← h6,← h4];exact N3.out
  rw [hf] at HO;by_cases hn:Zl Z01 σ=true
  ·rw [hn] at HN;rw [Y9 (by simp [hn])] at hp;simp only [Option.some.injEq, Prod.mk.injEq] at hp;have HO := lh HO;have HN := lh HN;have HE := lh hp;clear hL hQ hF h8 hgF hf hn hp hx;go_wp2_with fail
   refine HO.out.mono ?_;rintro e w1 ⟨rfl,rfl⟩;go_wp2_with fail
   refine HN.out.mono ?_;rintro e w1 ⟨rfl,hb1⟩;have Q1:=lh (HQ.out.below hb1);have F1:=lh (HF.out.trans (RFr.below (rb:=C.rb) hb1));replace HL:=lh (HL.out.rfr HR.out (RFr.below (rb:=C.rb) hb1))
   clear hb1;go_wp2_with fail
   refine (Z0w Q1.out Z01 B HR.out (Ya HB.out (F0.out.trans F1.out).size)).mono ?_;rintro e w2 ⟨rfl,h2,h3⟩;have F2:=lh ((F0.out.trans F1.out).trans h3);have L2:=lh (HL.out.rfr HR.out h3);have hal:Below w2.heap.size w2 (w2.alloc (.cells #[.int .i64 6,.string ⟨#[]⟩,.int .i64 0,.slice p acc.length cp] 38)):=(Y8 _ _).alloc (Y5 _) _;have N3:=lh ((L2.out.pre F0.out.size).node (k:=6) (tx:=⟨#[]⟩) (n:=0) (Ya HB.out F2.out.size) F2.out.size);have Q3:=lh (h2.below hal);have F3:=lh (F2.out.trans (RFr.below (rb:=C.rb) hal))
   have L3:=lh (L2.out.rfr HR.out (RFr.below (rb:=C.rb) hal));clear h2 h3 hal;go_wp2;go_ret;obtain ⟨h4,h5⟩:=HE.out;obtain ⟨h6,h7⟩:=HP.out;refine ⟨.mk w2.heap.size (.slice p acc.length cp) 6 ⟨#[]⟩ 0 kids,rfl,?_,by rw [← h7,← h5]; exact Q3.out,F3.out⟩;rw [← h6,← h4];exact N3.out
  have hn:Zl Z01 σ=false:=by simpa using hn
  rw [hn] at HN;rw [Yb (by simp [hn,hf])] at hp;obtain ⟨x,σ3,hit,hrest⟩:=Zn hp;have IT:=lh hit;have RE:=lh hrest;have HO:=lh HO;have HN:=lh HN;have HK:=lh (hL.len);have XX:=lh (fun hk=>Z7s hit hk);obtain ⟨i0,hi,hz0,hz1,hz2⟩:=info_parts Tryz.infoPtr;clear hL hQ hF h8 hgF hn hp hit hrest hx hf;go_wp2_with fail
  refine HO.out.mono ?_;rintro e w1 ⟨rfl,rfl⟩;go_wp2_with fail
  refine HN.out.mono ?_;rintro e w1 ⟨rfl,hb1⟩;have Q1:=lh (HQ.out.below hb1);have F1:=lh (HF.out.trans (RFr.below (rb:=C.rb) hb1));have L1:=lh (HL.out.rfr HR.out (RFr.below (rb:=C.rb) hb1));have hdd:=HD.out;clear hb1 HO HN HQ HF HL;go_wp2_with fail
  refine (HS.out g (by have:=HGF.out; omega) w1 C B (d + 1) _ _ _ Q1.out HR.out (Ya HB.out (F0.out.trans F1.out).size) (by have:=HGF.out; omega) IT.out).mono ?_;rintro e w2 ⟨a,rfl,h2,h3,h4⟩;have A2:=lh h2;have Q2:=lh h3;have F2:=lh h4;have L2:=lh (L1.out.rfr HR.out h4);clear h2 h3 h4 Q1
  go_wp2_with (at_builtin; go_must (refine wpList_append_lies _ rfl (.tmp 18) (.tmp 23) 36 rfl B 22 i0 _ 1 8 Tryz.underlying36 hi hz0 hz1 hz2 rfl (by decide) (.slice p acc.length cp) kids.length (kids.map ATree.ptr) rfl (L2.out.row.alloc _) ⟨w2.heap.size,0,none⟩ 1 1 [a.ptr] rfl rfl (Yi (cs:=#[a.ptr]) (t:=22) (fr:=(0,0)) (heap_alloc_new w2 _)) (by simp [ATree.ptr,Value.oneCell']) (by decide) (by have:=HK.out; have:=H8.out; unfold maxLen; omega) (by have:=HK.out; have:=H8.out; omega) (by simp; have:=F0.out.size; have:=F1.out.size; have:=F2.out.size; have:=HB.out; omega) (w2.heap.size + 1) (by simp) ?_); intro gg cap w4 hown2 hgrow2 hat2 hgl2)
  have hpush:=L2.out.push (wA:=w1) (fun y hy=>(L1.out.ks.new y hy).2) (fun y hy=>(L1.out.own y hy).2.1) A2.out F1.out.size F2.out.size ((Y8 _ _).alloc (Y5 _) _) hgrow2 hown2 (by rcases hat2 with h | h; (exact .inl h); (exact .inr (by omega))) hgl2 (F1.out.trans F2.out);have hinv:g≤f∧BInv w0 C B d f l σ1 g (.slice (some ⟨gg,0,none⟩) (kids.length + 1) cap) w4:=
   ⟨by have := HGF.out; omega, acc ++ [x], kids ++ [a], σ3, RE.out, hpush.1, Q2.out.keep fun k hk => hpush.2.1 k (by have := Q2.out.rlt; omega) (fun e => by have h1 := (L2.out.own k e).1; have h2 := HR.out; have h3 := HB.out; have h4 := F0.out.size; omega), hpush.2.2.2, by have := H8.out; simp; omega, fun y hy => by
    rcases List.mem_append.1 hy with hy | hy;·exact HX.out y hy
    ·simp only [List.mem_singleton] at hy; subst hy; exact XX.out⟩
  exact ⟨⟨g,hinv⟩,by rw [← HG.out]; exact Nat.lt_succ_of_le (Z3c hinv)⟩
theorem Zat (f:Nat) (hS:∀ g,g < f→Z1s 13 qd .stmt g):Z1s 34 (Zaa true) (.braces true) (f + 1):=by
 intro w C B d σ t σ' hQ hr hB hd hp;rw [refF] at hp;obtain ⟨l,σ1,hl,hp⟩:=Zn hp;simp only [Option.some.injEq,Prod.mk.injEq] at hp;have HP:=lh hp;have HM:=lh (Z0w hQ Zi B hr hB);have HR:=lh hr;have HB:=lh hB;have HD:=lh hd;have HS:=lh hS;have HL:=lh hl;clear hQ hB hr hp hd hS hl;unfold Zaa;go_enter Tryz.func34,Tryz.ntmps34
 go_wp2_with fail
 refine HM.out.mono ?_;rintro e w0 ⟨rfl,h1,h2⟩;have ST:=lh (show ∃ g,g≤f∧BInv w0 C B d f l σ1 g (.slice none 0 0) w0 from ⟨f,Y5 _,[],[],_,HL.out,ListAt.nil,h1,RFr.refl _ _,by simp,fun x hx=>by cases hx⟩);have F0:=lh h2;clear h1 h2 HM;go_wp2_with fail
 go_loopw [7] (fun v wr=>∃ g,g≤f∧BInv w0 C B d f l σ1 g v wr) (fun v wr=>least fun g=>g≤f∧BInv w0 C B d f l σ1 g v wr)
 case atStart=>exact ST.out
 case round=>
  have hI:=Z3y hrel;clear ST;obtain ⟨g,hg⟩:=zX (least fun g=>g≤f∧BInv w0 C B d f l σ1 g u7 wr)
  rw [← hg] at hI;have HG:=lh hg;clear hg hrel;obtain ⟨hgF,acc,kids,σ,hp,hL,hQ,hF,h8,hx⟩:=hI;cases g with
  | zero=>simp [refF] at hp
  | succ g=>
  rw [refF] at hp;have HO:=Z2f hQ;have HN:=Zk hQ Z01;obtain ⟨p,cp,rfl⟩:=hL.slice;have HL:=lh hL;have HQ:=lh hQ;have HF:=lh hF;have H8:=lh h8;have HX:=lh hx;have HGF:=lh hgF;by_cases hf:σ.f.isNone=true;rotate_left
  ·have hf : σ.f.isNone = false := Bool.eq_false_iff.2 hf;rw [hf] at HO;rw [Y9 (by simp [hf])] at hp;simp only [Option.some.injEq, Prod.mk.injEq] at hp;have HO := lh HO;have HE := lh hp;have F1 := HF;have Q1 := HQ;clear hL hQ hF h8 hgF hf hp HN hx;go_wp2_with fail
   refine HO.out.mono ?_;rintro e w1 ⟨rfl,rfl⟩;go_wp2_with fail
   refine (Z0w Q1.out Z01 B HR.out (Ya HB.out (F0.out.trans F1.out).size)).mono ?_;rintro e w2 ⟨rfl,h2,h3⟩;have F2:=lh ((F0.out.trans F1.out).trans h3);have L2:=lh (HL.out.rfr HR.out h3);have hal:Below w2.heap.size w2 (w2.alloc (.cells #[.int .i64 6,.string ⟨#[]⟩,.int .i64 0,.slice p acc.length cp] 38)):=(Y8 _ _).alloc (Y5 _) _;have N3:=lh ((L2.out.pre F0.out.size).node (k:=6) (tx:=⟨#[]⟩) (n:=0) (Ya HB.out F2.out.size) F2.out.size);have Q3:=lh (h2.below hal);have F3:=lh (F2.out.trans (RFr.below (rb:=C.rb) hal))
   have L3:=lh (L2.out.rfr HR.out (RFr.below (rb:=C.rb) hal));clear h2 h3 hal;have HO3:=Z2f Q3.out;by_cases hok:(Z0y Z01 σ).f.isNone=true
   ·rw [hok] at HO3;have HO3 := lh HO3;have HOK := lh hok;clear hok;go_wp2_with fail
    refine HO3.out.mono ?_;rintro e w3 ⟨rfl,rfl⟩;clear HO3;go_wp2_with fail
    refine (Z5a w0 _ B _ kids acc L3.out HX.out).mono ?_;rintro e w4 ⟨rfl,hb4⟩;have N4:=N3.out.rfr HR.out (RFr.below (rb:=C.rb) hb4);have F4:=F3.out.trans (RFr.below (rb:=C.rb) hb4);have Q4:=lh (Q3.out.below hb4);have hblk:=N4.at'.blkOf;simp only [ATree.b,ATree.v,ATree.kind,ATree.text,ATree.n] at hblk;have z1:w4.cell? ⟨w2.heap.size,1,none⟩=some (.string ⟨#[]⟩):=by simp [World.cell?,hblk]
    have zz:w4.frozen? ⟨w2.heap.size,1,none⟩=false:=by simp [World.frozen?,hblk]
    have FIN:=lh (Got.text0 (t':=Z1n acc) HR.out HB.out N4 F4);clear hb4 N4 F4 hblk;go_wp2;go_ret;obtain ⟨h4,h5⟩:=HE.out;obtain ⟨h6,h7⟩:=HP.out;obtain ⟨g1,g2,g3⟩:=FIN.out;refine ⟨.mk w2.heap.size (.slice p acc.length cp) 6 (Z1n acc) 0 kids,rfl,?_,by rw [← h7,← h5]; exact Q4.out.keep fun k hk=>g3 k (by have:=HR.out; omega),g2⟩;rw [← h5,HOK.out] at h6;rw [← h6,← h4];exact g1
   ·have hok : (Z0y Z01 σ).f.isNone = false := Bool.eq_false_iff.2 hok;rw [hok] at HO3;have HO3 := lh HO3;have HOK := lh hok;clear hok;go_wp2_with fail
    refine HO3.out.mono ?_;rintro e w3 ⟨rfl,rfl⟩;clear HO3;go_wp2;go_ret;obtain ⟨h4,h5⟩:=HE.out;obtain ⟨h6,h7⟩:=HP.out;refine ⟨.mk w2.heap.size (.slice p acc.length cp) 6 ⟨#[]⟩ 0 kids,rfl,?_,by rw [← h7,← h5]; exact Q3.out,F3.out⟩;rw [← h5,HOK.out] at h6;rw [← h6,← h4];exact N3.out
  rw [hf] at HO;by_cases hn:Zl Z01 σ=true
  ·rw [hn] at HN;rw [Y9 (by simp [hn])] at hp;simp only [Option.some.injEq, Prod.mk.injEq] at hp;have HO := lh HO;have HN := lh HN;have HE := lh hp;clear hL hQ hF h8 hgF hf hn hp hx;go_wp2_with fail
   refine HO.out.mono ?_;rintro e w1 ⟨rfl,rfl⟩;go_wp2_with fail
   refine HN.out.mono ?_;rintro e w1 ⟨rfl,hb1⟩;have Q1:=lh (HQ.out.below hb1);have F1:=lh (HF.out.trans (RFr.below (rb:=C.rb) hb1));replace HL:=lh (HL.out.rfr HR.out (RFr.below (rb:=C.rb) hb1))
   clear hb1;go_wp2_with fail
   refine (Z0w Q1.out Z01 B HR.out (Ya HB.out (F0.out.trans F1.out).size)).mono ?_;rintro e w2 ⟨rfl,h2,h3⟩;have F2:=lh ((F0.out.trans F1.out).trans h3);have L2:=lh (HL.out.rfr HR.out h3);have hal:Below w2.heap.size w2 (w2.alloc (.cells #[.int .i64 6,.string ⟨#[]⟩,.int .i64 0,.slice p acc.length cp] 38)):=(Y8 _ _).alloc (Y5 _) _;have N3:=lh ((L2.out.pre F0.out.size).node (k:=6) (tx:=⟨#[]⟩) (n:=0) (Ya HB.out F2.out.size) F2.out.size);have Q3:=lh (h2.below hal);have F3:=lh (F2.out.trans (RFr.below (rb:=C.rb) hal))
   have L3:=lh (L2.out.rfr HR.out (RFr.below (rb:=C.rb) hal));clear h2 h3 hal;have HO3:=Z2f Q3.out;by_cases hok:(Z0y Z01 σ).f.isNone=true
   ·rw [hok] at HO3;have HO3 := lh HO3;have HOK := lh hok;clear hok;go_wp2_with fail
    refine HO3.out.mono ?_;rintro e w3 ⟨rfl,rfl⟩;clear HO3;go_wp2_with fail
    refine (Z5a w0 _ B _ kids acc L3.out HX.out).mono ?_;rintro e w4 ⟨rfl,hb4⟩;have N4:=N3.out.rfr HR.out (RFr.below (rb:=C.rb) hb4);have F4:=F3.out.trans (RFr.below (rb:=C.rb) hb4);have Q4:=lh (Q3.out.below hb4);have hblk:=N4.at'.blkOf;simp only [ATree.b,ATree.v,ATree.kind,ATree.text,ATree.n] at hblk;have z1:w4.cell? ⟨w2.heap.size,1,none⟩=some (.string ⟨#[]⟩):=by simp [World.cell?,hblk]
    have zz:w4.frozen? ⟨w2.heap.size,1,none⟩=false:=by simp [World.frozen?,hblk]
    have FIN:=lh (Got.text0 (t':=Z1n acc) HR.out HB.out N4 F4);clear hb4 N4 F4 hblk;go_wp2;go_ret;obtain ⟨h4,h5⟩:=HE.out;obtain ⟨h6,h7⟩:=HP.out;obtain ⟨g1,g2,g3⟩:=FIN.out;refine ⟨.mk w2.heap.size (.slice p acc.length cp) 6 (Z1n acc) 0 kids,rfl,?_,by rw [← h7,← h5]; exact Q4.out.keep fun k hk=>g3 k (by have:=HR.out; omega),g2⟩;rw [← h5,HOK.out] at h6;rw [← h6,← h4];exact g1
   ·have hok : (Z0y Z01 σ).f.isNone = false := Bool.eq_false_iff.2 hok;rw [hok] at HO3;have HO3 := lh HO3;have HOK := lh hok;clear hok;go_wp2_with fail
    refine HO3.out.mono ?_;rintro e w3 ⟨rfl,rfl⟩;clear HO3;go_wp2;go_ret;obtain ⟨h4,h5⟩:=HE.out;obtain ⟨h6,h7⟩:=HP.out;refine ⟨.mk w2.heap.size (.slice p acc.length cp) 6 ⟨#[]⟩ 0 kids,rfl,?_,by rw [← h7,← h5]; exact Q3.out,F3.out⟩;rw [← h5,HOK.out] at h6;rw [← h6,← h4];exact N3.out
  have hn:Zl Z01 σ=false:=by simpa using hn
  rw [hn] at HN;rw [Yb (by simp [hn,hf])] at hp;obtain ⟨x,σ3,hit,hrest⟩:=Zn hp;have IT:=lh hit;have RE:=lh hrest;have HO:=lh HO;have HN:=lh HN;have HK:=lh (hL.len);have XX:=lh (fun hk=>Z7s hit hk);obtain ⟨i0,hi,hz0,hz1,hz2⟩:=info_parts Tryz.infoPtr;clear hL hQ hF h8 hgF hn hp hit hrest hx hf;go_wp2_with fail
  refine HO.out.mono ?_;rintro e w1 ⟨rfl,rfl⟩;go_wp2_with fail
  refine HN.out.mono ?_;rintro e w1 ⟨rfl,hb1⟩;have Q1:=lh (HQ.out.below hb1);have F1:=lh (HF.out.trans (RFr.below (rb:=C.rb) hb1));have L1:=lh (HL.out.rfr HR.out (RFr.below (rb:=C.rb) hb1));have hdd:=HD.out;clear hb1 HO HN HQ HF HL;go_wp2_with fail
  refine (HS.out g (by have:=HGF.out; omega) w1 C B (d + 1) _ _ _ Q1.out HR.out (Ya HB.out (F0.out.trans F1.out).size) (by have:=HGF.out; omega) IT.out).mono ?_;rintro e w2 ⟨a,rfl,h2,h3,h4⟩;have A2:=lh h2;have Q2:=lh h3;have F2:=lh h4;have L2:=lh (L1.out.rfr HR.out h4);clear h2 h3 h4 Q1
  go_wp2_with (at_builtin; go_must (refine wpList_append_lies _ rfl (.tmp 18) (.tmp 23) 36 rfl B 22 i0 _ 1 8 Tryz.underlying36 hi hz0 hz1 hz2 rfl (by decide) (.slice p acc.length cp) kids.length (kids.map ATree.ptr) rfl (L2.out.row.alloc _) ⟨w2.heap.size,0,none⟩ 1 1 [a.ptr] rfl rfl (Yi (cs:=#[a.ptr]) (t:=22) (fr:=(0,0)) (heap_alloc_new w2 _)) (by simp [ATree.ptr,Value.oneCell']) (by decide) (by have:=HK.out; have:=H8.out; unfold maxLen; omega) (by have:=HK.out; have:=H8.out; omega) (by simp; have:=F0.out.size; have:=F1.out.size; have:=F2.out.size; have:=HB.out; omega) (w2.heap.size + 1) (by simp) ?_); intro gg cap w4 hown2 hgrow2 hat2 hgl2)
  have hpush:=L2.out.push (wA:=w1) (fun y hy=>(L1.out.ks.new y hy).2) (fun y hy=>(L1.out.own y hy).2.1) A2.out F1.out.size F2.out.size ((Y8 _ _).alloc (Y5 _) _) hgrow2 hown2 (by rcases hat2 with h | h; (exact .inl h); (exact .inr (by omega))) hgl2 (F1.out.trans F2.out);have hinv:g≤f∧BInv w0 C B d f l σ1 g (.slice (some ⟨gg,0,none⟩) (kids.length + 1) cap) w4:=
   ⟨by have := HGF.out; omega, acc ++ [x], kids ++ [a], σ3, RE.out, hpush.1, Q2.out.keep fun k hk => hpush.2.1 k (by have := Q2.out.rlt; omega) (fun e => by have h1 := (L2.out.own k e).1; have h2 := HR.out; have h3 := HB.out; have h4 := F0.out.size; omega), hpush.2.2.2, by have := H8.out; simp; omega, fun y hy => by
    rcases List.mem_append.1 hy with hy | hy;·exact HX.out y hy
    ·simp only [List.mem_singleton] at hy; subst hy; exact XX.out⟩
  exact ⟨⟨g,hinv⟩,by rw [← HG.out]; exact Nat.lt_succ_of_le (Z3c hinv)⟩
theorem Got.pushQ {w0 wA w w1 w2:World} {rb B b g cap:Nat} {v:Value} {k n:Int} {t:ByteArray} {kids:List ATree} {a:ATree} {tn ta:Tree} (hr:rb < B) (hB0:B≤w0.heap.size)
 (N:Got w0 B w (.mk b v k t n kids) tn) (hNA:∀ x∈(ATree.mk b v k t n kids).blocks,x < wA.heap.size) (A:Got wA B w a ta) (F:RFr w0 w rb)
 (hB1:Below w.heap.size w w1) (hg:w1.grownBy w2 v.ownBlock) (hown:w2.ownsRow B 22 1 (.slice (some ⟨g,0,none⟩) (kids.length + 1) cap) (kids.length + 1) (kids.map ATree.ptr ++ [a.ptr]))
 (hat:v.ownBlock=some g∨w.heap.size≤g) (hgl:g < w2.heap.size) :
 Got w0 B (w2.setCell ⟨b,3,none⟩ (.slice (some ⟨g,0,none⟩) (kids.length + 1) cap)) (.mk b (.slice (some ⟨g,0,none⟩) (kids.length + 1) cap) k t n (kids ++ [a])) (.mk k t n (Zr kids ++ [ta])) ∧
  RFr w0 (w2.setCell ⟨b,3,none⟩ (.slice (some ⟨g,0,none⟩) (kids.length + 1) cap)) rb∧(∀ x,x < B→(w2.setCell ⟨b,3,none⟩ (.slice (some ⟨g,0,none⟩) (kids.length + 1) cap)).heap[x]?=w.heap[x]?):=by
 have hnd:=N.nodup;simp only [ATree.blocks,List.nodup_cons,List.mem_append,List.nodup_append,Option.mem_toList,not_or] at hnd;obtain ⟨⟨hb1,hb2⟩,_,hk1,hk2⟩:=hnd;have hbw:b < w.heap.size:=N.at'.lt;have hb0:w0.heap.size≤b:=(N.new b (by simp [ATree.blocks])).1;have hv0:∀ x,v.ownBlock=some x→w0.heap.size≤x∧x < wA.heap.size∧x < w.heap.size:=fun x hx=>
  ⟨(N.new x (by simp [ATree.blocks,hx])).1,hNA x (by simp [ATree.blocks,hx]),(N.new x (by simp [ATree.blocks,hx])).2⟩
 have hbA:b < wA.heap.size:=hNA b (by simp [ATree.blocks]);have hs1:w.heap.size≤w2.heap.size:=Ya hB1.size hg.size;have hsz:(w2.setCell ⟨b,3,none⟩ (.slice (some ⟨g,0,none⟩) (kids.length + 1) cap)).heap.size=w2.heap.size:=Yn ..;have far2:∀ x,x < w.heap.size→v.ownBlock≠some x→w2.heap[x]?=w.heap[x]?:=fun x hx hn=>(hg.block x (Ye hx hB1.size) (fun e=>hn e.symm)).trans (hB1.block x hx)
 have far:∀ x,x < w.heap.size→x≠b→v.ownBlock≠some x→(w2.setCell ⟨b,3,none⟩ (.slice (some ⟨g,0,none⟩) (kids.length + 1) cap)).heap[x]?=w.heap[x]?:=fun x hx hxb hn=>(Yg _ _ _ _ hxb).trans (far2 x hx hn);have hgb:g≠b:=by
  rcases hat with h | h;·rintro rfl; exact hb1 h
  ·omega
 have hgA:∀ x∈a.blocks,g≠x:=fun x hx=>by
  have h1:=A.new x hx;rcases hat with h | h;·have:=hv0 g h; omega
  ·omega
 have hgk:∀ x∈Z0f kids,g≠x:=fun x hx=>by
  rcases hat with h | h;·exact hk2 g h x hx
  ·have:=(N.new x (by simp [ATree.blocks,hx])).2; omega
 have hg0:w0.heap.size≤g:=by
  rcases hat with h | h;·exact (hv0 g h).1
  ·have:=F.size; omega
 refine ⟨⟨?_,?_,?_,?_⟩,⟨?_,?_,?_,?_,?_⟩,?_⟩
 ·simp only [ATree.tree,Z2j,Zr];rw [A.tree]
 ·refine .mk ?_ N.at'.le ?_ fun x hx => ?_
  ·have h1:=(far2 b hbw hb1).trans N.at'.blkOf;exact Z07 (o:=3) _ h1
  ·rw [Yq,Yu];exact Zq hown fun g' hg'=>Yg _ _ _ _ (by simp only [Value.ownBlock,Option.some.injEq] at hg'; rw [← hg']; exact hgb)
  ·rcases List.mem_append.1 hx with hx | hx
   ·have hT := N.at'.kid (k := x) hx;refine hT.keepB fun y hy => ?_;have hyk : y ∈ Z0f kids := by rw [Z1k]; exact List.mem_flatMap.2 ⟨x, hx, hy⟩
    exact far y (hT.has y hy).2 (fun e=>hb2 (by rw [← e]; exact hyk)) (fun e=>hk2 y e y hyk rfl)
   ·simp only [List.mem_singleton] at hx;subst hx;refine A.at'.keepB fun y hy=>?_;have h1:=A.new y hy;exact far y h1.2 (by omega) (fun e=>by have:=hv0 y e; omega)
 ·simp only [ATree.blocks, Value.ownBlock, Z20, Z0f, List.append_nil, List.nodup_cons, List.mem_append, List.nodup_append, Option.toList, List.mem_cons, List.not_mem_nil, or_false, not_or, List.nodup_nil, not_false_eq_true, true_and];refine ⟨⟨fun e => hgb e.symm, hb2, fun hm => by have := A.new b hm; omega⟩, ⟨hk1, A.nodup, fun x hx y hy e => by have h1 := hNA x (by simp [ATree.blocks, hx]); have h2 := A.new y hy; omega⟩, ?_⟩;rintro x rfl y hy;rcases hy with hy | hy;·exact hgk y hy
  ·exact hgA y hy
 ·intro x hx;rw [hsz];simp only [ATree.blocks, Value.ownBlock, Z20, Z0f, List.append_nil, List.mem_cons, List.mem_append, Option.toList, List.not_mem_nil, or_false] at hx;rcases hx with rfl | rfl | hx | hx;·exact ⟨hb0, by omega⟩
  ·exact ⟨hg0,hgl⟩
  ·have:=N.new x (by simp [ATree.blocks,hx]); omega
  ·have:=A.new x hx; omega
 ·exact (hg.os.trans hB1.os).trans F.os
 ·exact (hg.tape.trans hB1.tape).trans F.tape
 ·exact (hg.output.trans hB1.output).trans F.output
 ·rw [hsz]; have:=F.size; omega
 ·intro x hx hn;have:=F.size;exact (far x (by omega) (by omega) (fun e=>by have:=hv0 x e; omega)).trans (F.block x hx hn)
 ·have:=F.size;exact fun x hx=>far x (by omega) (by omega) (fun e=>by have:=hv0 x e; omega)
theorem Got.cells {w0 w:World} {B b:Nat} {v:Value} {k n:Int} {tx:ByteArray} {kids:List ATree} {t:Tree} (N:Got w0 B w (.mk b v k tx n kids) t) :
 w.cell? ⟨b,0,none⟩=some (.int .i64 k)∧w.cell? ⟨b,1,none⟩=some (.string tx)∧w.cell? ⟨b,3,none⟩=some v∧(∀ j,w.frozen? ⟨b,j,none⟩=false)∧b < w.heap.size:=by
 have hb:=N.at'.blkOf;simp only [ATree.b,ATree.v,ATree.kind,ATree.text,ATree.n] at hb;exact ⟨by simp [World.cell?,hb],by simp [World.cell?,hb],by simp [World.cell?,hb],fun j=>by simp [World.frozen?,hb],(Y6.1 hb).1⟩
theorem Got.giveKids {w w1 w2:World} {rb B b:Nat} {v:Value} {k n:Int} {tx:ByteArray} {ks0 kids:List ATree} {l0 ts:List Tree} (hr:rb < B) (hB:B≤w.heap.size) (G:Got w B w1 (.mk b v k tx n ks0) (.mk k tx n l0)) (F1:RFr w w1 rb) (F12:RFr w1 w2 rb) (K:KidsAt w1 B w2 kids ts) (hl:kids.length≤1000)
 (row:Array Value) (hrow:row=(kids.map ATree.ptr).toArray) (m:Nat) (hm:m=kids.length) :
 ((w2.alloc (.cells row 22)).cell? ⟨b,3,none⟩=some v∧(w2.alloc (.cells row 22)).frozen? ⟨b,3,none⟩=false) ∧
 Got w B ((w2.alloc (.cells row 22)).setCell ⟨b,3,none⟩ (.slice (some ⟨w2.heap.size,0,none⟩) m m)) (.mk b (.slice (some ⟨w2.heap.size,0,none⟩) m m) k tx n kids) (.mk k tx n ts) ∧
 RFr w ((w2.alloc (.cells row 22)).setCell ⟨b,3,none⟩ (.slice (some ⟨w2.heap.size,0,none⟩) m m)) rb ∧
 (∀ x,x < B→((w2.alloc (.cells row 22)).setCell ⟨b,3,none⟩ (.slice (some ⟨w2.heap.size,0,none⟩) m m)).heap[x]?=w2.heap[x]?):=by
 subst hrow hm;have hal:=(Y8 w2.heap.size w2).alloc (Y5 _) (.cells (kids.map ATree.ptr).toArray 22);have hF2:=F1.trans F12;have hFF:=hF2.trans (RFr.below (rb:=rb) hal);have G2:=(G.rfr hr F12).rfr hr (RFr.below (rb:=rb) hal);obtain ⟨_,_,y3,z3,_⟩:=G2.cells;have hL:=K.lit (Ya hB hF2.size) F12.size hl;have hb1:b < w1.heap.size:=(G.new b (by simp [ATree.blocks])).2;have hap:=hL.apart hb1;obtain ⟨e1,e2,e3⟩:=Got.kids0 hr hB G2.at' (G.new b (by simp [ATree.blocks])).1 (hL.pre (w0:=w) F1.size) hap.1 hap.2 hFF
 refine ⟨⟨y3,z3 3⟩,e1,e2,fun x hx=>(e3 x hx).trans (hal.block x ?_)⟩;have:=hF2.size; omega
theorem Got.pushT {w0 wA w w1 w2:World} {rb B b g cap:Nat} {v:Value} {k n:Int} {t:ByteArray} {kids:List ATree} {a:ATree} {ts:List Tree} {ta:Tree} (hr:rb < B) (hB0:B≤w0.heap.size)
 (N:Got w0 B w (.mk b v k t n kids) (.mk k t n ts)) (hNA:∀ x∈(ATree.mk b v k t n kids).blocks,x < wA.heap.size) (A:Got wA B w a ta) (F:RFr w0 w rb)
 (hB1:Below w.heap.size w w1) (hg:w1.grownBy w2 v.ownBlock) (hown:w2.ownsRow B 22 1 (.slice (some ⟨g,0,none⟩) (kids.length + 1) cap) (kids.length + 1) (kids.map ATree.ptr ++ [a.ptr]))
 (hat:v.ownBlock=some g∨w.heap.size≤g) (hgl:g < w2.heap.size) :
 Got w0 B (w2.setCell ⟨b,3,none⟩ (.slice (some ⟨g,0,none⟩) (kids.length + 1) cap)) (.mk b (.slice (some ⟨g,0,none⟩) (kids.length + 1) cap) k t n (kids ++ [a])) (.mk k t n (ts ++ [ta])) ∧
  RFr w0 (w2.setCell ⟨b,3,none⟩ (.slice (some ⟨g,0,none⟩) (kids.length + 1) cap)) rb∧(∀ x,x < B→(w2.setCell ⟨b,3,none⟩ (.slice (some ⟨g,0,none⟩) (kids.length + 1) cap)).heap[x]?=w.heap[x]?):=by
 have e:Zr kids=ts:=by
  have:=N.tree;simp only [ATree.tree,Tree.mk.injEq,true_and] at this;exact this
 subst e;exact Got.pushQ hr hB0 N hNA A F hB1 hg hown hat hgl
theorem Zce (text:ByteArray):∀ (f i:Nat) (acc:List UInt8),(Z0o text f i acc).2.1=0→(Z0o text f i acc).1.length≤500:=by
 intro f;induction f with
 | zero=>intro i acc h; simp [Z0o] at h
 | succ f ih =>
   intro i acc h;unfold Z0o at h ⊢;by_cases c1:text.size≤i∨Zc text i=10;·rw [Yb c1] at h; simp at h
   rw [Y9 c1] at h ⊢;by_cases c2:Zc text i=39
   ·rw [Yb c2] at h ⊢;by_cases c3 : 500 < acc.length;·rw [Yb c3] at h; simp at h
    ·rw [Y9 c3]; simp only; omega
   rw [Y9 c2] at h ⊢;by_cases c4:Zc text i=92
   ·rw [Yb c4] at h ⊢;by_cases c5 : i + 1 < text.size
    ·rw [Yb c5] at h ⊢;cases he : Z64 (Zc text (i + 1)) with
     | none=>rw [he] at h; simp at h
     | some e=>rw [he] at h; simp only at h ⊢; exact ih _ _ h
    ·rw [Y9 c5] at h; simp at h
   ·rw [Y9 c4] at h ⊢;exact ih _ _ h
theorem Z8w (text:ByteArray) (a b:Nat):(text.extract a b).size≤text.size:=by
 rw [ByteArray.size_extract]; omega
theorem Zj0 {text:ByteArray} {j k:Nat} {t:Tok} (h:Z1f text j=.ok (t,k)):t.text.size≤text.size + 500:=by
 have hx:=Z8w text;unfold Z1f at h;simp only at h;split at h
 ·split at h
  ·simp only [Except.ok.injEq,Prod.mk.injEq] at h;obtain ⟨rfl,_⟩:=h;have:=hx j (Z03 Z2r text (text.size - j) j); simp only; omega
  ·split at h;·cases h
   ·simp only [Except.ok.injEq,Prod.mk.injEq] at h;obtain ⟨rfl,_⟩:=h;have:=hx j (Z03 Z2r text (text.size - j) j); simp only; omega
 ·split at h
  ·split at h;·cases h
   ·split at h;·cases h
    ·simp only [Except.ok.injEq,Prod.mk.injEq] at h;obtain ⟨rfl,_⟩:=h;exact Yp _
  ·split at h
   ·split at h;·cases h
    ·split at h;·cases h
     ·rename_i _ h2;simp only [Except.ok.injEq,Prod.mk.injEq] at h;obtain ⟨rfl,_⟩:=h;have h3:=Zce text (text.size + 1 - (j + 1)) (j + 1) [] (by simpa [Z0z] using h2);have h4:(⟨(Z0z text (j + 1)).1.toArray⟩:ByteArray).size=(Z0z text (j + 1)).1.length:=by
       show (Z0z text (j + 1)).1.toArray.size=_;simp
      simp only;rw [h4];have h5:(Z0z text (j + 1)).1.length≤500:=h3;omega
   ·split at h;·cases h
    ·simp only [Except.ok.injEq,Prod.mk.injEq] at h;obtain ⟨rfl,_⟩:=h;have:=hx j (j + Z0a text j); simp only; omega
theorem Zj9 {text:ByteArray} {j k:Nat} {t:Tok} (hj:j < text.size) (h:Z1f text j=.ok (t,k)):t.kind=5→t.text≠⟨#[43,45]⟩:=by
 intro hk he;obtain ⟨_,_,h5⟩:=Z85 h;obtain ⟨ht,hl⟩:=h5 hk;have hle:(text.extract j (j + Z0a text j)).size≤Z0a text j:=by rw [ByteArray.size_extract]; omega
 have hsz:t.text.size=2:=by rw [he]; rfl
 have h2:2≤Z0a text j:=by rw [← ht] at hle; omega
 have hp:Zc t.text 0=Zc text j:=by
  rw [ht];by_cases hk:j + Z0a text j≤text.size;·rw [Z05 text (by omega) hk]; rfl
  ·have e:text.extract j (j + Z0a text j)=text.extract j text.size:=by
    apply ByteArray.ext;simp only [ByteArray.data_extract];apply Array.ext
    ·simp only [Array.size_extract];have:text.size=text.data.size:=rfl;omega
    ·intro i h1 h2; simp only [Array.getElem_extract]
   rw [e,Z05 text (by omega) (Y5 _)]; rfl
 have h43:Zc text j=43:=by rw [← hp,he]; decide
 have h1:Z0a text j=1:=by
  unfold Z0a;rw [Y9 (by rw [h43]; intro h; exact absurd h.1 (by decide)),Y9 (by rw [h43]; intro h; exact absurd h.1 (by decide)),Y9 (by rw [h43]; intro h; exact absurd h.1 (by decide))]
 omega
theorem Zfe {text:ByteArray}:∀ (r:List Tok) (i:Nat),i≤text.size→Z6u text i r→(∀ t∈r,t.kind=5→t.text≠⟨#[43,45]⟩)∧∀ t∈r,t.text.size≤text.size + 500:=by
 intro r;induction r with
 | nil=>intro i _ h; exact h.elim
 | cons t r ih =>
   intro i hi h;cases r with
   | nil =>
     obtain ⟨h1,h2⟩:=h;refine ⟨fun x hx=>?_,fun x hx=>?_⟩
     ·simp only [List.mem_singleton] at hx;subst hx;rw [h2];exact fun h=>by simp at h
     ·simp only [List.mem_singleton] at hx;subst hx;rw [h2];exact Yp _
   | cons u r =>
     obtain ⟨k,h1,h2,h3⟩:=h;obtain ⟨c1,c2,_⟩:=Z2k text h1 h2;obtain ⟨h7,h8⟩:=ih k c2 h3;refine ⟨fun x hx=>?_,fun x hx=>?_⟩
     ·rcases List.mem_cons.1 hx with rfl | hx;·exact Zj9 h1 h2
      ·exact h7 x hx
     ·rcases List.mem_cons.1 hx with rfl | hx;·exact Zj0 h2
      ·exact h8 x hx
theorem Z1x.mk {t:Tree} {ts:List Tok} {e:Int×Nat}:Z1x (some (t,⟨ts,some e⟩)) e:=⟨t,ts,rfl⟩
theorem Z4o {t:Tree} {ts:List Tok} (hg:Z0c ts):Agree (endT t ts) (some (t,Z0y Zs ⟨ts,none⟩)):=
 Agree.want (m:=fun σ=>some (t,σ)) hg (fun hg=>Agree.ok hg) fun _ _=>Z1x.mk
theorem Z8j {t:Tree} {ts:List Tok} {e:Int×Nat}:Z1x (some (t,Z0y Zs ⟨ts,some e⟩)) e:=Z1x.mk
theorem Ze2 {s:ByteArray} {ts:List Tok} (h:isT s ts=true):(hdT ts).text=s:=by
 simp only [isT,Bool.and_eq_true,Z3m] at h;exact h.2
theorem Zht {s s':ByteArray} {ts:List Tok} (h:isT s ts=true) (hn:s≠s'):isT s' ts=false:=by
 have:=Ze2 h;simp only [isT,this];have:Z15 s s'=false:=by simp [Z15,hn]
 simp [this]
theorem Z6t {c1 c2:Prop} [Decidable c1] [Decidable c2] {b1 b2:Bool} {ts:List Tok} {k:List Tok→PR} {m:RS→RR} (hg:Z0c ts) (h1:c1↔b1=true) (h2:c2↔b2=true)
 (hk:∀ ts,¬ c2→Z0c ts→Agree (k ts) (m ⟨ts,none⟩)) (he:∀ ts e,Z1x (m ⟨ts,some e⟩) e) :
 Agree ((if c1 then Z1e Z1b ts else fun k=>k ts) fun ts=>if c2 then Z30 4 ts else k ts) (m (Z5i b2 (Z3t b1 ⟨ts,none⟩))):=by
 have key:∀ ts,Z0c ts→Agree (if c2 then Z30 4 ts else k ts) (m (Z5i b2 ⟨ts,none⟩)):=by
  intro ts hg;unfold Z5i;by_cases hc:c2;·rw [Yb hc,h2.1 hc]; exact he _ _
  ·rw [Y9 hc];have : b2 = false := by cases b2; rfl; exact absurd (h2.2 rfl) hc
   rw [this]; exact hk ts hc hg
 by_cases hc:c1
 ·rw [Yb hc,Z3t,h1.1 hc];exact Agree.want (m:=fun σ=>m (Z5i b2 σ)) hg (fun hg=>key _ hg) fun ts e=>by
   cases b2 <;> exact he _ _
 ·rw [Y9 hc];have : b1 = false := by cases b1; rfl; exact absurd (h1.2 rfl) hc
  rw [this];exact key ts hg
theorem Zes {level:Nat} {ts:List Tok} (hg:Z0c ts):Z2i level ts=if decide ((hdT ts).kind=5) && Z5c level (hdT ts).text then Z37 (hdT ts).text else 0:=by
 have hG:=hg.hd.1;have h2:∀ {s:ByteArray},Z37 s≠0→isT s ts=(decide ((hdT ts).kind=5) && Z15 (hdT ts).text s):=by
  intro s hs;unfold isT;by_cases ht:(hdT ts).text=s
  ·by_cases h : (hdT ts).kind = 2;·exact absurd (by rw [← ht]; exact hG h) hs
   ·simp [h]
  ·have : Z15 (hdT ts).text s = false := by simp [Z15, ht]
   simp [this]
 have one:∀ {s:ByteArray},Z37 s≠0→(if isT s ts=true then Z37 s else 0)=if (decide ((hdT ts).kind=5) && Z15 (hdT ts).text s)=true then Z37 (hdT ts).text else 0:=by
  intro s hs;rw [h2 hs];by_cases h:(decide ((hdT ts).kind=5) && Z15 (hdT ts).text s)=true
  ·rw [Yb h,Yb h];have:=(Bool.and_eq_true _ _ ▸ h:_∧_).2;rw [Z3m.1 this]
  ·rw [Y9 h,Y9 h]
 match level with
 | 0=>exact one (s:=s_or) (by decide)
 | 1=>exact one (s:=Z5n) (by decide)
 | 2=>exact one (s:=Z3j) (by decide)
 | 3=>exact one (s:=Z4i) (by decide)
 | 4 =>
   have e1:=one (s:=Z51) (by decide);have e2:=one (s:=Z5p) (by decide);show (if isT Z51 ts=true then Z37 Z51 else if isT Z5p ts=true then Z37 Z5p else 0)=if (decide ((hdT ts).kind=5) && (Z15 (hdT ts).text Z51 || Z15 (hdT ts).text Z5p))=true then Z37 (hdT ts).text else 0;by_cases h:(decide ((hdT ts).kind=5) && Z15 (hdT ts).text Z51)=true
   ·rw [Yb (by rw [h2 (by decide)]; exact h),Yb (by simp only [Bool.and_eq_true,Bool.or_eq_true] at h ⊢; exact ⟨h.1,.inl h.2⟩)];rw [Z3m.1 (by simp only [Bool.and_eq_true] at h; exact h.2:Z15 (hdT ts).text Z51=true)]
   ·rw [Y9 (by rw [h2 (by decide)]; exact h),e2];have:(decide ((hdT ts).kind=5) && (Z15 (hdT ts).text Z51 || Z15 (hdT ts).text Z5p))=(decide ((hdT ts).kind=5) && Z15 (hdT ts).text Z5p):=by
     cases h5:decide ((hdT ts).kind=5);·rfl
     ·rw [h5] at h; simp only [Bool.true_and,Bool.not_eq_true] at h; simp [h]
    rw [this]
 | 5=>exact one (s:=Z6n) (by decide)
 | n + 6=>simp [Z2i,Z5c]
theorem Zef {level:Nat} {s:ByteArray} (h:Z5c level s=true):Z37 s≠0:=by
 match level with
 | 0=>rw [Z3m.1 h]; decide
 | 1=>rw [Z3m.1 h]; decide
 | 2=>rw [Z3m.1 h]; decide
 | 3=>rw [Z3m.1 h]; decide
 | 4 =>
   simp only [Z5c,Bool.or_eq_true] at h;rcases h with h | h <;> (rw [Z3m.1 h]; decide)
 | 5=>rw [Z3m.1 h]; decide
 | n + 6=>simp [Z5c] at h
theorem Zf1 {ts:List Tok} (hg:Z0c ts):Z3s ts=if (hdT ts).kind=2 then Z33 (hdT ts).text else 0:=by
 have hG:=hg.hd.2;unfold Z3s Z33 isT;by_cases h2:(hdT ts).kind=2;·simp [h2]
 ·rw [Y9 h2];by_cases h5 : (hdT ts).kind = 5
  ·have:=hG h5;unfold Z33 at this;simp only [h5,decide_true,Bool.true_or,Bool.true_and];exact this
  ·simp [h2,h5]
def Zlq (g:Nat) (k:Int) (d:Nat) (σ:RS):RR:=
 if Zl s_eq (Z28 k (Zw σ).2) then
  Z0n (refF g .value (d + 1) (advR (Z28 k (Zw σ).2))) fun x σ'=>some (.mk k (Zw σ).1 0 [x],Z0y Zs σ')
 else some (.mk k (Zw σ).1 0 [],Z0y Zs (Z28 k (Zw σ).2))
def finR (g d:Nat) (l:List Tree) (σ:RS):RR:=
 if Zl Zt σ then Z0n (refF g (.braces false) d (advR σ)) fun c σ=>tryF (l ++ [.mk 14 ByteArray.empty 0 [c]]) σ
 else tryF l σ
def Zdo (g d:Nat) (b:Tree) (σ:RS):RR:=
 if Zl Z0r σ then
  Z0n (refF g (.braces false) d (Z0y Z0v (Zw (Z0y Z0u (advR σ))).2)) fun c σ'=>finR g d [b,.mk 13 (Zw (Z0y Z0u (advR σ))).1 0 [c]] σ'
 else finR g d [b] σ
def tryR (g d:Nat) (σ:RS):RR:=Z0n (refF g (.braces false) d σ) fun b σ=>Zdo g d b σ
structure AG (f:Nat) (d:Nat) (ts:List Tok) (g:Nat):Prop where
 prog:∀ acc,d=0→Agree (Z0 f (.stmts 1 acc) d ts) (Z0n (refF g (.prog acc) 0 ⟨ts,none⟩) fun l σ=>some (.mk 1 (if Z1w l.kids then Z1d else ByteArray.empty) 0 l.kids,σ))
 stmts:∀ acc,Agree (Z0 f (.stmts 6 acc) d ts) (Z0n (refF g (.bracesL acc) d ⟨ts,none⟩) fun l σ=>some (.mk 6 (if Z1w l.kids then Z1d else ByteArray.empty) 0 l.kids,σ))
 block:∀ b,Agree (Z0 f (.block b) d ts) (refF g (.braces b) d ⟨ts,none⟩)
 func:∀ k s,Agree (Z0 f (.func k s) d ts) (refF g (.func k s) d ⟨ts,none⟩)
 params:∀ acc,Agree (Z0g (Z0 f (.params acc) d ts) fun p ts=>Z1e Z0v ts fun ts=>okT p ts) (Z0n (refF g (.params acc) d ⟨ts,none⟩) fun l σ=>some (.mk 40 ByteArray.empty 0 l.kids,σ))
 around:Agree (Z0 f .around d ts) (refF g .head d ⟨ts,none⟩)
 stmt:d≤30→Agree (Z0 f .stmt d ts) (refF g .stmt d ⟨ts,none⟩)
 decl:∀ k,Agree (Z0g (Z0 f (.decl k (decide (k=4))) d ts) endT) (Zlq g k d ⟨ts,none⟩)
 try_:Agree (Z0 f .try_ d ts) (tryR g d ⟨ts,none⟩)
 value:Agree (Z0 f .value d ts) (refF g .value (d + 1) ⟨ts,none⟩)
 assign:d≤30→Agree (Z0 f .assign d ts) (refF g .value d ⟨ts,none⟩)
 bin:∀ lv,Agree (Z0 f (.bin lv) d ts) (refF g (.pairs lv) d ⟨ts,none⟩)
 binLoop:∀ lv x,Agree (Z0 f (.binLoop lv x) d ts) (refF g (.pairsL lv x) d ⟨ts,none⟩)
 unary:Agree (Z0 f .unary d ts) (refF g .single d ⟨ts,none⟩)
 postfix_:Agree (Z0 f .postfix_ d ts) (Z0n (refF g .first d ⟨ts,none⟩) fun x σ=>refF g (.singleL x) d σ)
 postLoop:∀ x,Agree (Z0 f (.postLoop x) d ts) (refF g (.singleL x) d ⟨ts,none⟩)
 args:∀ x out,out.length≤8→Agree (Z0 f (.args (x :: out)) d ts) (Z0n (refF g (.args out) d ⟨ts,none⟩) fun l σ=>some (.mk 35 ByteArray.empty 0 (x :: l.kids),σ))
 primary:Agree (Z0 f .primary d ts) (refF g .first d ⟨ts,none⟩)
 object:∀ acc,Agree (Z0 f (.object acc) d ts) (Z0n (refF g (.props acc) d ⟨ts,none⟩) fun l σ=>some (.mk 38 ByteArray.empty 0 l.kids,σ))
theorem Z6x {f d:Nat} {ts:List Tok} {g:Nat} (h:d + 1≤30→Agree (Z0 f .stmt (d + 1) ts) (refF (g + 1) .stmt (d + 1) ⟨ts,none⟩)):Agree (Z1a d ts (Z0 f .stmt (d + 1) ts)) (refF (g + 1) .stmt (d + 1) ⟨ts,none⟩):=by
 unfold Z1a;by_cases hd:30 < d + 1;·rw [Yb hd,refF,Yb hd]; exact Agree.fail
 ·rw [Y9 hd]; exact h (by omega)
theorem Z53 {f d:Nat} {ts:List Tok} {g:Nat} (h:d + 1≤30→Agree (Z0 f .stmt (d + 1) ts) (refF (g + 1) .stmt (d + 1) ⟨ts,none⟩)):Agree (Z1a d ts (Z0 f .stmt (d + 1) ts)) (refF (g + 2) .stmt2 d ⟨ts,none⟩):=by
 rw [refF,Yb (show (none:Option (Int×Nat)).isNone=true from rfl)]; exact Z6x h
theorem Zcb {p:PR} {k m:Tree→List Tok→PR}:Z0g (Z0g p k) m=Z0g p fun t ts=>Z0g (k t ts) m:=by
 rcases p with _ | e | ⟨t,ts⟩ <;> rfl
theorem Z41 (q:RR) (m n:Tree→RS→RR):Z0n (Z0n q m) n=Z0n q fun t σ=>Z0n (m t σ) n:=by
 rcases q with _ | ⟨t,σ⟩ <;> rfl
theorem Zdv (l:List Tree) (ts:List Tok) (e:Int×Nat):Z1x (tryF l ⟨ts,some e⟩) e:=by
 unfold tryF;by_cases h:l.length=1;·rw [Yb h]; exact Z1x.mk
 ·rw [Y9 h]; exact Z1x.mk
theorem Z7n (g d:Nat) (l:List Tree) (ts:List Tok) (e:Int×Nat):Z1x (finR g d l ⟨ts,some e⟩) e:=by
 unfold finR; rw [Y9 (by simp [Z58])]; exact Zdv ..
theorem Zf4 (g d:Nat) (b:Tree) (ts:List Tok) (e:Int×Nat):Z1x (Zdo g d b ⟨ts,some e⟩) e:=by
 unfold Zdo; rw [Y9 (by simp [Z58])]; exact Z7n ..
theorem Zld {s:ByteArray} {ts:List Tok}:(isT s ts=true)↔Zl s ⟨ts,none⟩=true:=by rw [Z16]
theorem Agree.isT {s:ByteArray} {ts:List Tok} {p1 p2:PR} {q1 q2:RR} (h1:isT s ts=true→Agree p1 q1) (h2:isT s ts=false→Agree p2 q2):Agree (if isT s ts=true then p1 else p2) (if Zl s ⟨ts,none⟩=true then q1 else q2):=
 Agree.ite Zld h1 fun h=>h2 (by simpa using h)
theorem Za7 {ts:List Tok} {k:ByteArray→List Tok→PR} {m:Tree→List Tok→PR}:Z0g (Z3f ts k) m=Z3f ts fun s ts=>Z0g (k s ts) m:=by
 unfold Z3f;by_cases h:(hdT ts).kind=1;·rw [Yb h,Yb h]
 ·rw [Y9 h,Y9 h]; rfl
theorem Zf3 {s:ByteArray} {ts:List Tok} {k:List Tok→PR} {m:Tree→List Tok→PR}:Z0g (Z1e s ts k) m=Z1e s ts fun ts=>Z0g (k ts) m:=by
 unfold Z1e;by_cases h:isT s ts=true;·rw [Yb h,Yb h]
 ·rw [Y9 h,Y9 h]; rfl
theorem Zem {c1 c2:Prop} [Decidable c1] [Decidable c2] {ts:List Tok} {k:List Tok→PR} {m:Tree→List Tok→PR} :
 Z0g ((if c1 then Z1e Z1b ts else fun k=>k ts) fun ts=>if c2 then Z30 4 ts else k ts) m=(if c1 then Z1e Z1b ts else fun k=>k ts) fun ts=>if c2 then Z30 4 ts else Z0g (k ts) m:=by
 have key:∀ ts,Z0g (if c2 then Z30 4 ts else k ts) m=if c2 then Z30 4 ts else Z0g (k ts) m:=by
  intro ts;by_cases h:c2;·rw [Yb h,Yb h]; rfl
  ·rw [Y9 h,Y9 h]
 by_cases h:c1
 ·simp only [if_pos h];rw [Zf3];simp only [key]
 ·simp only [if_neg h]; exact key ts
theorem Zkk {f d:Nat} {ts:List Tok} {g:Nat} (hg:Z0c ts) (I:∀ {d:Nat} {ts:List Tok},Z0c ts→AG f d ts (g + 3)) (I4:∀ {d:Nat} {ts:List Tok},Z0c ts→AG f d ts (g + 4)):∀ acc,d=0→Agree (Z0 (f + 1) (.stmts 1 acc) d ts) (Z0n (refF (g + 4) (.prog acc) 0 ⟨ts,none⟩) fun l σ=>some (.mk 1 (if Z1w l.kids then Z1d else ByteArray.empty) 0 l.kids,σ)):=by
 have HD:=hg.tail;rintro acc rfl;rw [Z0,refF];by_cases h6:(hdT ts).kind=6
 ·simp only [h6,if_true,decide_true,Option.isNone_none,Bool.not_true,Bool.and_false,Bool.false_eq_true,if_false,Z0n];exact Agree.ok hg
 ·simp only [h6,if_true,decide_false,Option.isNone_none,Bool.not_false,Bool.and_true,Bool.false_eq_true,if_false];rw [Z41];exact Agree.bind (Z6x fun h=>(I (d:=0 + 1) hg).stmt h) (fun t ts hg=>(I hg).prog (acc ++ [t]) rfl) fun t ts e=>by rw [Zif]; exact Z1x.mk
theorem Zig {f d:Nat} {ts:List Tok} {g:Nat} (hg:Z0c ts) (I:∀ {d:Nat} {ts:List Tok},Z0c ts→AG f d ts (g + 3)) (I4:∀ {d:Nat} {ts:List Tok},Z0c ts→AG f d ts (g + 4)):∀ acc,Agree (Z0 (f + 1) (.stmts 6 acc) d ts) (Z0n (refF (g + 4) (.bracesL acc) d ⟨ts,none⟩) fun l σ=>some (.mk 6 (if Z1w l.kids then Z1d else ByteArray.empty) 0 l.kids,σ)):=by
 have HD:=hg.tail;intro acc;rw [Z0,refF];cases hb:isT Z01 ts
 ·rw [Y9 (by simp)];simp only [Option.isNone_none,Z16,hb,Bool.not_false,Bool.and_true,if_true];rw [Z41];exact Agree.bind (Z6x fun h=>(I (d:=d + 1) hg).stmt h) (fun t ts hg=>(I hg).stmts (acc ++ [t])) fun t ts e=>by rw [Z72]; exact Z1x.mk
 ·rw [Yb (by simp)];simp only [Option.isNone_none,Z16,hb,Bool.not_true,Bool.and_false,Bool.false_eq_true,if_false,Z0n,Tree.kids];exact Agree.ok hg
theorem Zi5 {f d:Nat} {ts:List Tok} {g:Nat} (hg:Z0c ts) (I:∀ {d:Nat} {ts:List Tok},Z0c ts→AG f d ts (g + 3)) (I4:∀ {d:Nat} {ts:List Tok},Z0c ts→AG f d ts (g + 4)):∀ b,Agree (Z0 (f + 1) (.block b) d ts) (refF (g + 4) (.braces b) d ⟨ts,none⟩):=by
 have HD:=hg.tail;intro b;rw [Z0,refF];refine Agree.want (m:=fun σ=>Z0n (refF (g + 3) (.bracesL []) d σ) fun l σ=>some (.mk 6 (if b && (Z0y Z01 σ).f.isNone && Z1w l.kids then Z1d else ByteArray.empty) 0 l.kids,Z0y Z01 σ)) hg (fun hg=>?_) fun ts e=>by rw [Z72]; exact Z1x.mk
 have h:=(I (d:=d) hg).stmts [];revert h;generalize Z0 f (.stmts 6 []) d ts.tail=p;generalize refF (g + 3) (.bracesL []) d ⟨ts.tail,none⟩=q;intro h;rcases p with _ | e | ⟨t,us⟩;·trivial
 ·obtain ⟨t', ts', h⟩ := h;rcases q with _ | ⟨l, σ⟩;·simp [Z0n] at h
  ·simp only [Z0n,Option.some.injEq,Prod.mk.injEq] at h;obtain ⟨_,rfl⟩:=h;exact Z1x.mk
 ·obtain ⟨h, hg⟩ := h;rcases q with _ | ⟨l, σ⟩;·simp [Z0n] at h
  ·simp only [Z0n, Option.some.injEq, Prod.mk.injEq] at h;obtain ⟨rfl, rfl⟩ := h;show Agree (Z1e Z01 us fun ts => okT (if b = true then _ else _) ts) (some (.mk 6 (if (b && (Z0y Z01 ⟨us, none⟩).f.isNone && Z1w l.kids) = true then Z1d else ByteArray.empty) 0 l.kids, Z0y Z01 ⟨us, none⟩));refine Agree.want (m := fun σ => some (.mk 6 (if (b && σ.f.isNone && Z1w l.kids) = true then Z1d else ByteArray.empty) 0 l.kids, σ)) hg (fun hg => ?_) fun ts e => Z1x.mk;cases b;·exact Agree.ok hg
   ·simp only [Option.isNone_none,Bool.true_and,if_true];exact Agree.ok hg
theorem Zln {f d:Nat} {ts:List Tok} {g:Nat} (hg:Z0c ts) (I:∀ {d:Nat} {ts:List Tok},Z0c ts→AG f d ts (g + 3)) (I4:∀ {d:Nat} {ts:List Tok},Z0c ts→AG f d ts (g + 4)):∀ k s,Agree (Z0 (f + 1) (.func k s) d ts) (refF (g + 4) (.func k s) d ⟨ts,none⟩):=by
 have HD:=hg.tail;intro k s;rw [Z0,refF];refine Agree.want (m:=fun σ=>Z0n (refF (g + 3) (.params []) d σ) fun l σ=>Z0n (refF (g + 3) (.braces true) d σ) fun b σ=>some (.mk k s 0 [.mk 40 ByteArray.empty 0 l.kids,b],σ)) hg (fun hg=>?_) fun ts e=>by rw [Z6m]; simp only [Z0n]; rw [Z4l]; exact Z1x.mk
 have h:=(I (d:=d) hg).params [];revert h;generalize Z0 f (.params []) d ts.tail=p;generalize refF (g + 3) (.params []) d ⟨ts.tail,none⟩=q;intro h;have e0:(fun (p:Tree) (ts:List Tok)=>Z1e Z0v ts fun ts=>Z0g (Z0 f (.block true) d ts) fun b ts=>okT (.mk k s 0 [p,b]) ts)=fun p ts=>Z0g (Z1e Z0v ts fun ts=>okT p ts) fun p ts=>Z0g (Z0 f (.block true) d ts) fun b ts=>okT (.mk k s 0 [p,b]) ts:=by
  funext p ts
  unfold Z1e;by_cases hh:isT Z0v ts=true;·rw [Yb hh,Yb hh]; rfl
  ·rw [Y9 hh,Y9 hh]; rfl
 have e1:Z0g p (fun (p:Tree) (ts:List Tok)=>Z1e Z0v ts fun ts=>Z0g (Z0 f (.block true) d ts) fun b ts=>okT (.mk k s 0 [p,b]) ts)=Z0g (Z0g p fun p ts=>Z1e Z0v ts fun ts=>okT p ts) fun p ts=>Z0g (Z0 f (.block true) d ts) fun b ts=>okT (.mk k s 0 [p,b]) ts:=by
  rw [e0];rcases p with _ | e | ⟨t,us⟩ <;> rfl
 have e2:Z0n q (fun l σ=>Z0n (refF (g + 3) (.braces true) d σ) fun b σ=>some (.mk k s 0 [.mk 40 ByteArray.empty 0 l.kids,b],σ))=Z0n (Z0n q fun l σ=>some (.mk 40 ByteArray.empty 0 l.kids,σ)) fun p σ=>Z0n (refF (g + 3) (.braces true) d σ) fun b σ=>some (.mk k s 0 [p,b],σ):=by
  rw [Z41]; rfl
 rw [e1,e2];exact h.bind (fun t ts hg=>Agree.bind ((I hg).block true) (fun b ts hg=>Agree.ok hg) fun b ts e=>Z1x.mk) fun t ts e=>by rw [Z4l]; exact Z1x.mk
theorem Zfy {f d:Nat} {ts:List Tok} {g:Nat} (hg:Z0c ts) (I:∀ {d:Nat} {ts:List Tok},Z0c ts→AG f d ts (g + 3)) (I4:∀ {d:Nat} {ts:List Tok},Z0c ts→AG f d ts (g + 4)):∀ acc,Agree (Z0g (Z0 (f + 1) (.params acc) d ts) fun p ts=>Z1e Z0v ts fun ts=>okT p ts) (Z0n (refF (g + 4) (.params acc) d ⟨ts,none⟩) fun l σ=>some (.mk 40 ByteArray.empty 0 l.kids,σ)):=by
 have HD:=hg.tail;intro acc;rw [Z0,refF];cases hb:isT Z0v ts
 ·simp only [Option.isNone_none, Z16, hb, Bool.not_false, Bool.and_true, if_true, Bool.false_eq_true, if_false];rw [Zem];refine Z6t (m := fun σ => Z0n (if σ.f.isNone = true then refF (g + 3) (.params (acc ++ [.mk 23 (Zw σ).1 0 []])) d (Zw σ).2 else refF (g + 3) (.params acc) d σ) fun l σ => some (.mk 40 ByteArray.empty 0 l.kids, σ)) (c1 := 0 < acc.length) (c2 := acc.length = 8) hg decide_eq_true_iff.symm decide_eq_true_iff.symm (fun us _ hg => ?_) fun us e => ?_
  ·rw [Yb (show (none:Option (Int×Nat)).isNone=true from rfl),Za7];exact Agree.name (k:=fun s ts=>Z0g (Z0 f (.params (acc ++ [.mk 23 s 0 []])) d ts) fun p ts=>Z1e Z0v ts fun ts=>okT p ts) (m:=fun s σ=>Z0n (refF (g + 3) (.params (acc ++ [.mk 23 s 0 []])) d σ) fun l σ=>some (.mk 40 ByteArray.empty 0 l.kids,σ)) hg (fun s hg=>(I hg).params (acc ++ [.mk 23 s 0 []])) fun s ts e=>by rw [Z6m]; exact Z1x.mk
  ·rw [Y9 (show ¬ (some e:Option (Int×Nat)).isNone=true by simp),Z6m]; exact Z1x.mk
 ·simp only [Option.isNone_none,Z16,hb,Bool.not_true,Bool.and_false,if_true,Bool.false_eq_true,if_false];exact Agree.want (m:=fun σ=>some (.mk 40 ByteArray.empty 0 acc,σ)) hg (fun hg=>Agree.ok hg) fun _ _=>Z1x.mk
theorem Zfu {f d:Nat} {ts:List Tok} {g:Nat} (hg:Z0c ts) (I:∀ {d:Nat} {ts:List Tok},Z0c ts→AG f d ts (g + 3)) (I4:∀ {d:Nat} {ts:List Tok},Z0c ts→AG f d ts (g + 4)):Agree (Z0 (f + 1) .around d ts) (refF (g + 4) .head d ⟨ts,none⟩):=by
 have HD:=hg.tail;rw [Z0,refF];refine Agree.want (m:=fun σ=>Z0n (refF (g + 3) .value (d + 1) σ) fun x σ=>some (x,Z0y Z0v σ)) hg (fun hg=>?_) fun ts e=>by rw [Z8n]; exact Z1x.mk
 exact (I hg).value.bind (fun t ts hg=>Agree.want (m:=fun σ=>some (t,σ)) hg (fun hg=>Agree.ok hg) fun _ _=>Z1x.mk) fun t ts e=>Z1x.mk
theorem Zlj {f d:Nat} {ts:List Tok} {g:Nat} (hg:Z0c ts) (I:∀ {d:Nat} {ts:List Tok},Z0c ts→AG f d ts (g + 3)) (I4:∀ {d:Nat} {ts:List Tok},Z0c ts→AG f d ts (g + 4)):∀ k,Agree (Z0g (Z0 (f + 1) (.decl k (decide (k=4))) d ts) endT) (Zlq (g + 4) k d ⟨ts,none⟩):=by
 have HD:=hg.tail;intro k;rw [Z0,Zlq];rw [Za7];refine Agree.name (m:=fun s σ=>if Zl s_eq (Z28 k σ)=true then Z0n (refF (g + 4) .value (d + 1) (advR (Z28 k σ))) fun x σ'=>some (.mk k s 0 [x],Z0y Zs σ') else some (.mk k s 0 [],Z0y Zs (Z28 k σ))) hg (fun s hg=>?_) fun s ts e=>?_
 ·generalize ts.tail = us at hg;cases he : isT s_eq us
  ·by_cases hk : k = 4
   ·subst hk;have e1 : Z28 4 ⟨us, none⟩ = ⟨us, some (3, (hdT us).at')⟩ := by simp [Z28, Z16, he, Z39]
    rw [Yb (by simp),e1,Y9 (by simp [Z58])];exact Z1x.mk
   ·have e1 : Z28 k ⟨us, none⟩ = ⟨us, none⟩ := by simp [Z28, hk]
    rw [Y9 (by simp [hk]),Y9 (by simp),e1,Y9 (by rw [Z16,he]; simp)];exact Z4o hg
  ·have e1 : Z28 k ⟨us, none⟩ = ⟨us, none⟩ := by simp [Z28, Z16, he]
   rw [Y9 (by simp),Yb rfl,e1,Yb (by rw [Z16,he])];have:=(I4 hg.tail).value (d:=d);rw [Zcb];exact this.bind (fun x us hg=>Z4o hg) fun t ts e=>Z8j
 ·have e1 : Z28 k ⟨ts, some e⟩ = ⟨ts, some e⟩ := by simp [Z28]
  rw [e1,Y9 (by simp [Z58])]; exact Z1x.mk
theorem Zla {f d:Nat} {ts:List Tok} {g:Nat} (hg:Z0c ts) (I:∀ {d:Nat} {ts:List Tok},Z0c ts→AG f d ts (g + 3)) (I4:∀ {d:Nat} {ts:List Tok},Z0c ts→AG f d ts (g + 4)):Agree (Z0 (f + 1) .try_ d ts) (tryR (g + 4) d ⟨ts,none⟩):=by
 have HD:=hg.tail;rw [Z0,tryR];refine ((I4 hg).block false).bind (fun b us hg=>?_) fun b ts e=>Zf4 ..;have fin:∀ (l:List Tree) us,1≤l.length→Z0c us→Agree (if isT Zt us=true then Z0g (Z0 f (.block false) d us.tail) fun c ts=>okT (.mk 12 ByteArray.empty 0 (l ++ [.mk 14 ByteArray.empty 0 [c]])) ts else if l.length=1 then Z30 3 us else okT (.mk 12 ByteArray.empty 0 l) us) (finR (g + 4) d l ⟨us,none⟩):=by
  intro l us hl hg;unfold finR;refine Agree.isT (fun h=>?_) fun h=>?_;·exact ((I4 hg.tail).block false).bind (fun c us hg=>by unfold tryF; rw [Y9 (by rw [Yq,List.length_singleton]; omega)]; exact Agree.ok hg) fun b ts e=>Zdv ..
  ·unfold tryF;by_cases hl : l.length = 1;·rw [Yb hl, Yb hl]; exact Agree.fail
   ·rw [Y9 hl,Y9 hl]; exact Agree.ok hg
 unfold Zdo;refine Agree.isT (fun h=>?_) fun h=>fin _ _ (by simp) hg;refine Agree.want (m:=fun σ=>Z0n (refF (g + 4) (.braces false) d (Z0y Z0v (Zw σ).2)) fun c σ'=>finR (g + 4) d [b,.mk 13 (Zw σ).1 0 [c]] σ') hg.tail (fun hg=>?_) fun us e=>by rw [Zg8,Z4k,Z4l]; exact Z7n ..
 refine Agree.name (m:=fun s σ=>Z0n (refF (g + 4) (.braces false) d (Z0y Z0v σ)) fun c σ'=>finR (g + 4) d [b,.mk 13 s 0 [c]] σ') hg (fun s hg=>?_) fun s us e=>by rw [Z4k,Z4l]; exact Z7n ..
 refine Agree.want (m:=fun σ=>Z0n (refF (g + 4) (.braces false) d σ) fun c σ'=>finR (g + 4) d [b,.mk 13 s 0 [c]] σ') hg (fun hg=>?_) fun us e=>by rw [Z4l]; exact Z7n ..
 exact ((I4 hg).block false).bind (fun c us hg=>fin _ _ (by simp) hg) fun b ts e=>Z7n ..
theorem Zil {f d:Nat} {ts:List Tok} {g:Nat} (hg:Z0c ts) (I:∀ {d:Nat} {ts:List Tok},Z0c ts→AG f d ts (g + 3)) (I4:∀ {d:Nat} {ts:List Tok},Z0c ts→AG f d ts (g + 4)):Agree (Z0 (f + 1) .value d ts) (refF (g + 4) .value (d + 1) ⟨ts,none⟩):=by
 have HD:=hg.tail;rw [Z0];unfold Z1a;by_cases hd:30 < d + 1;·rw [Yb hd,refF,Yb (show (none:Option (Int×Nat)).isNone=true from rfl),Yb hd]; exact Agree.fail
 ·rw [Y9 hd]; exact (I4 hg).assign (by omega)
theorem Zft {f d:Nat} {ts:List Tok} {g:Nat} (hg:Z0c ts) (I:∀ {d:Nat} {ts:List Tok},Z0c ts→AG f d ts (g + 3)) (I4:∀ {d:Nat} {ts:List Tok},Z0c ts→AG f d ts (g + 4)):d≤30→Agree (Z0 (f + 1) .assign d ts) (refF (g + 4) .value d ⟨ts,none⟩):=by
 have HD:=hg.tail;intro hd;rw [Z0,refF,Yb (show (none:Option (Int×Nat)).isNone=true from rfl),Y9 (by omega)];refine ((I hg).bin 0).bind (fun t us hg=>?_) fun t ts e=>by rw [Y9 (by simp [Z58])]; exact Z1x.mk
 refine Agree.isT (fun h=>?_) fun h=>Agree.ok hg;by_cases hk:t.kind=23∨t.kind=36
 ·rw [Yb hk,Yb hk];exact (I hg.tail).value.bind (fun y us hg=>Agree.ok hg) fun t ts e=>Z1x.mk
 ·rw [Y9 hk,Y9 hk];exact Z1x.mk
theorem Zmn {f d:Nat} {ts:List Tok} {g:Nat} (hg:Z0c ts) (I:∀ {d:Nat} {ts:List Tok},Z0c ts→AG f d ts (g + 3)) (I4:∀ {d:Nat} {ts:List Tok},Z0c ts→AG f d ts (g + 4)):∀ lv,Agree (Z0 (f + 1) (.bin lv) d ts) (refF (g + 4) (.pairs lv) d ⟨ts,none⟩):=by
 have HD:=hg.tail;intro lv;rw [Z0,refF];by_cases h:6≤lv;·rw [Yb h,Yb h]; exact (I hg).unary
 ·rw [Y9 h,Y9 h];exact ((I hg).bin (lv + 1)).bind (fun x us hg=>(I hg).binLoop lv x) fun t ts e=>by rw [Z9x]; exact Z1x.mk
theorem Zf7 {f d:Nat} {ts:List Tok} {g:Nat} (hg:Z0c ts) (I:∀ {d:Nat} {ts:List Tok},Z0c ts→AG f d ts (g + 3)) (I4:∀ {d:Nat} {ts:List Tok},Z0c ts→AG f d ts (g + 4)):∀ lv x,Agree (Z0 (f + 1) (.binLoop lv x) d ts) (refF (g + 4) (.pairsL lv x) d ⟨ts,none⟩):=by
 have HD:=hg.tail;intro lv x;rw [Z0,refF,Zes hg];simp only;cases hb:decide ((hdT ts).kind=5) && Z5c lv (hdT ts).text
 ·rw [Y9 Bool.false_ne_true,Yb rfl,Y9 (by rw [show ((none:Option (Int×Nat)).isNone && decide ((hdT ts).kind=5) && Z5c lv (hdT ts).text)=(decide ((hdT ts).kind=5) && Z5c lv (hdT ts).text) by simp,hb]; simp)];exact Agree.ok hg
 ·rw [Yb rfl,Y9 (Zef (level:=lv) (by simp only [Bool.and_eq_true] at hb; exact hb.2)),Yb (by rw [show ((none:Option (Int×Nat)).isNone && decide ((hdT ts).kind=5) && Z5c lv (hdT ts).text)=(decide ((hdT ts).kind=5) && Z5c lv (hdT ts).text) by simp,hb])];exact ((I hg.tail).bin (lv + 1)).bind (fun y us hg=>(I hg).binLoop lv _) fun t ts e=>by rw [Z9x]; exact Z1x.mk
theorem Zic {f d:Nat} {ts:List Tok} {g:Nat} (hg:Z0c ts) (I:∀ {d:Nat} {ts:List Tok},Z0c ts→AG f d ts (g + 3)) (I4:∀ {d:Nat} {ts:List Tok},Z0c ts→AG f d ts (g + 4)):Agree (Z0 (f + 1) .unary d ts) (refF (g + 4) .single d ⟨ts,none⟩):=by
 have HD:=hg.tail;have hu:Z68 ⟨ts,none⟩=Z3g ts:=by unfold Z68 Z3g; rw [Z16,Z16,Z16]
 rw [Z0,refF,hu];by_cases h:Z3g ts=0
 ·rw [Yb h,Y9 (fun h'=>h' h)];exact (I hg).postfix_
 ·rw [Y9 h, Yb h];unfold Z1a;by_cases hd : 30 < d + 1;·rw [Yb hd, Yb hd]; exact Agree.fail
  ·rw [Y9 hd,Y9 hd];exact ((I HD).unary (d:=d + 1)).bind (fun x us hg=>Agree.ok hg) fun t ts e=>Z1x.mk
theorem Zcv {f d:Nat} {ts:List Tok} {g:Nat} (hg:Z0c ts) (I:∀ {d:Nat} {ts:List Tok},Z0c ts→AG f d ts (g + 3)) (I4:∀ {d:Nat} {ts:List Tok},Z0c ts→AG f d ts (g + 4)):Agree (Z0 (f + 1) .postfix_ d ts) (Z0n (refF (g + 4) .first d ⟨ts,none⟩) fun x σ=>refF (g + 4) (.singleL x) d σ):=by
 have HD:=hg.tail;rw [Z0];exact (I4 hg).primary.bind (fun x us hg=>(I4 hg).postLoop x) fun t ts e=>by rw [Z6z]; exact Z1x.mk
theorem Zct {f d:Nat} {ts:List Tok} {g:Nat} (hg:Z0c ts) (I:∀ {d:Nat} {ts:List Tok},Z0c ts→AG f d ts (g + 3)) (I4:∀ {d:Nat} {ts:List Tok},Z0c ts→AG f d ts (g + 4)):∀ x,Agree (Z0 (f + 1) (.postLoop x) d ts) (refF (g + 4) (.singleL x) d ⟨ts,none⟩):=by
 have HD:=hg.tail;intro x;rw [Z0,refF];refine Agree.isT (fun h=>?_) fun h=>Agree.isT (fun h=>?_) fun h=>Agree.ok hg;·exact Agree.name (m:=fun s σ=>refF (g + 3) (.singleL (.mk 36 s 0 [x])) d σ) hg.tail (fun s hg=>(I hg).postLoop _) fun s ts e=>by rw [Z6z]; exact Z1x.mk
 ·have := ((I (d := d) hg.tail).args x [] (by simp)).bind (m := fun n σ => refF (g + 3) (.singleL n) d σ) (fun n us hg => (I hg).postLoop n) fun t ts e => by rw [Z6z]; exact Z1x.mk
  rw [Z41] at this;exact this
theorem Zki {f d:Nat} {ts:List Tok} {g:Nat} (hg:Z0c ts) (I:∀ {d:Nat} {ts:List Tok},Z0c ts→AG f d ts (g + 3)) (I4:∀ {d:Nat} {ts:List Tok},Z0c ts→AG f d ts (g + 4)):∀ x out,out.length≤8→Agree (Z0 (f + 1) (.args (x :: out)) d ts) (Z0n (refF (g + 4) (.args out) d ⟨ts,none⟩) fun l σ=>some (.mk 35 ByteArray.empty 0 (x :: l.kids),σ)):=by
 have HD:=hg.tail;intro x out h8;rw [Z0,refF];cases hb:isT Z0v ts
 ·simp only [Option.isNone_none, Z16, hb, Bool.not_false, Bool.and_true, if_true, Bool.false_eq_true, if_false]
  refine Z6t (c1:=1 < (x :: out).length) (c2:=8 < (x :: out).length) (b2:=decide (out.length=8)) (k:=fun ts=>Z0g (Z0 f .value d ts) fun v ts=>Z0 f (.args (x :: (out ++ [v]))) d ts) (m:=fun σ=>Z0n (if σ.f.isNone=true then Z0n (refF (g + 3) .value (d + 1) σ) fun v σ=>refF (g + 3) (.args (out ++ [v])) d σ else refF (g + 3) (.args out) d σ) fun l σ=>some (.mk 35 ByteArray.empty 0 (x :: l.kids),σ)) hg (by simp) (by rw [decide_eq_true_eq,List.length_cons]; omega) (fun us hn hg=>?_) fun us e=>?_
  ·rw [Yb (show (none:Option (Int×Nat)).isNone=true from rfl),Z41];exact ((I hg).value (d:=d)).bind (fun v us hg=>(I hg).args x (out ++ [v]) (by rw [Yq,List.length_singleton]; rw [List.length_cons] at hn; omega)) fun v us e=>by rw [Ze0]; exact Z1x.mk
  ·rw [Y9 (show ¬ (some e:Option (Int×Nat)).isNone=true by simp),Ze0]; exact Z1x.mk
 ·simp only [Option.isNone_none,Z16,hb,Bool.not_true,Bool.and_false,if_true,Bool.false_eq_true,if_false];unfold Z0y;simp only [Option.isNone_none,hb,if_true];exact Agree.ok HD
theorem Zez {f d:Nat} {ts:List Tok} {g:Nat} (hg:Z0c ts) (I:∀ {d:Nat} {ts:List Tok},Z0c ts→AG f d ts (g + 3)) (I4:∀ {d:Nat} {ts:List Tok},Z0c ts→AG f d ts (g + 4)):Agree (Z0 (f + 1) .primary d ts) (refF (g + 4) .first d ⟨ts,none⟩):=by
 have HD:=hg.tail;rw [Z0,refF,Yb (show (none:Option (Int×Nat)).isNone=true from rfl),Zf1 hg];simp only;by_cases h1:(hdT ts).kind=1;·rw [Yb h1,Yb h1]; exact Agree.ok HD
 rw [Y9 h1,Y9 h1];by_cases h3:(hdT ts).kind=3;·rw [Yb h3,Yb h3]; exact Agree.ok HD
 rw [Y9 h3,Y9 h3];by_cases h4:(hdT ts).kind=4;·rw [Yb h4,Yb h4]; exact Agree.ok HD
 rw [Y9 h4,Y9 h4];by_cases hc:(hdT ts).kind=2∧Z33 (hdT ts).text≠0
 ·have nt:∀ s,Z33 s=0→Zl s ⟨ts,none⟩=false:=fun s hs=>by
   rw [Z16];cases hb:isT s ts;·rfl
   ·exact absurd (by rw [Ze2 hb]; exact hs) hc.2
  rw [Yb hc.1,Yb hc.2,nt _ (by decide),nt _ (by decide),nt _ (by decide)];simp only [Bool.false_eq_true,if_false];rw [Yb hc];exact Agree.ok HD
 ·have e0:(if (hdT ts).kind=2 then Z33 (hdT ts).text else 0)=0:=by
   by_cases h2:(hdT ts).kind=2
   ·rw [Yb h2];exact Decidable.byContradiction fun h=>hc ⟨h2,h⟩
   ·rw [Y9 h2]
  rw [e0,Y9 (fun h=>h rfl),Y9 hc];refine Agree.isT (fun h=>(I hg).around) fun _=>?_;refine Agree.isT (fun h=>?_) fun _=>?_
  ·show Agree (if (hdT ts.tail).kind = 1 then _ else _) (if (hdT ts.tail).kind = 1 then refF (g + 3) (.func 37 (Zw ⟨ts.tail, none⟩).1) d (Zw ⟨ts.tail, none⟩).2 else refF (g + 3) (.func 37 ByteArray.empty) d ⟨ts.tail, none⟩);by_cases hk : (hdT ts.tail).kind = 1
   ·have ei : Zw ⟨ts.tail, none⟩ = ((hdT ts.tail).text, ⟨ts.tail.tail, none⟩) := by simp [Zw, hk, advR]
    rw [Yb hk,Yb hk,ei];exact (I HD.tail).func 37 _
   ·rw [Y9 hk,Y9 hk];exact (I HD).func 37 _
  refine Agree.isT (fun h=>(I HD).object []) fun _=>Agree.fail
theorem Zhd {f d:Nat} {ts:List Tok} {g:Nat} (hg:Z0c ts) (I:∀ {d:Nat} {ts:List Tok},Z0c ts→AG f d ts (g + 3)) (I4:∀ {d:Nat} {ts:List Tok},Z0c ts→AG f d ts (g + 4)):∀ acc,Agree (Z0 (f + 1) (.object acc) d ts) (Z0n (refF (g + 4) (.props acc) d ⟨ts,none⟩) fun l σ=>some (.mk 38 ByteArray.empty 0 l.kids,σ)):=by
 have HD:=hg.tail;intro acc;rw [Z0,refF];cases hb:isT Z01 ts
 ·simp only [Option.isNone_none, Z16, hb, Bool.not_false, Bool.and_true, if_true, Bool.false_eq_true, if_false]
  refine Z6t (c1:=0 < acc.length) (c2:=acc.length=8) (k:=fun ts=>Z3f ts fun s ts=>Z1e Z2s ts fun ts=>Z0g (Z0 f .value d ts) fun v ts=>Z0 f (.object (acc ++ [.mk 39 s 0 [v]])) d ts)
   (m:=fun σ=>Z0n (if σ.f.isNone=true then Z0n (refF (g + 3) .value (d + 1) (Z0y Z2s (Zw σ).2)) fun v σ'=>refF (g + 3) (.props (acc ++ [.mk 39 (Zw σ).1 0 [v]])) d σ' else refF (g + 3) (.props acc) d σ) fun l σ=>some (.mk 38 ByteArray.empty 0 l.kids,σ)) hg decide_eq_true_iff.symm decide_eq_true_iff.symm (fun us _ hg=>?_) fun us e=>?_
  ·rw [Yb (show (none : Option (Int × Nat)).isNone = true from rfl)];refine Agree.name (m := fun s σ => Z0n (Z0n (refF (g + 3) .value (d + 1) (Z0y Z2s σ)) fun v σ' => refF (g + 3) (.props (acc ++ [.mk 39 s 0 [v]])) d σ') fun l σ => some (.mk 38 ByteArray.empty 0 l.kids, σ)) hg (fun s hg => ?_) fun s us e => by rw [Z4k, Z8n]; simp only [Z0n]; rw [Z79]; exact Z1x.mk
   refine Agree.want (m:=fun σ=>Z0n (Z0n (refF (g + 3) .value (d + 1) σ) fun v σ'=>refF (g + 3) (.props (acc ++ [.mk 39 s 0 [v]])) d σ') fun l σ=>some (.mk 38 ByteArray.empty 0 l.kids,σ)) hg (fun hg=>?_) fun us e=>by rw [Z8n]; simp only [Z0n]; rw [Z79]; exact Z1x.mk
   rw [Z41];exact ((I hg).value (d:=d)).bind (fun v us hg=>(I hg).object _) fun v us e=>by rw [Z79]; exact Z1x.mk
  ·rw [Y9 (show ¬ (some e:Option (Int×Nat)).isNone=true by simp),Z79]; exact Z1x.mk
 ·simp only [Option.isNone_none,Z16,hb,Bool.not_true,Bool.and_false,if_true,Bool.false_eq_true,if_false];unfold Z0y;simp only [Option.isNone_none,hb,if_true];exact Agree.ok HD
theorem Z3d {s:ByteArray} {ts:List Tok} (h:isT s ts=true):(∀ s',s≠s'→¬ isT s' ts=true)∧(∀ s',s≠s'→¬ Zl s' ⟨ts,none⟩=true):=
 ⟨fun s' hn=>by rw [Zht h hn]; simp,fun s' hn=>by rw [Z16,Zht h hn]; simp⟩
theorem Z43 {s:ByteArray} {ts:List Tok} (h:isT s ts=true):Z45 ⟨ts,none⟩=if s=Z18 then 2 else if s=Z1c then 3 else if s=Z06 then 4 else 0:=by
 have e:∀ s',isT s' ts=decide (s=s'):=fun s'=>by
  by_cases hs:s=s';·rw [← hs,h]; simp
  ·rw [Zht h hs]; simp [hs]
 unfold Z45;rw [Z16,Z16,Z16,e,e,e];simp only [decide_eq_true_eq]
theorem Zgy {f d:Nat} {ts:List Tok} {g:Nat} (hg:Z0c ts) (hd:d≤30) (I:∀ {d:Nat} {ts:List Tok},Z0c ts→AG f d ts (g + 3)) (I2:∀ {d:Nat} {ts:List Tok},Z0c ts→AG f d ts (g + 2)) (h:isT Zi ts=true):Agree (Z0 (f + 1) .stmt d ts) (refF (g + 4) .stmt d ⟨ts,none⟩):=by
 have HD:=hg.tail;obtain ⟨n,m⟩:=Z3d h;have y:Zl Zi ⟨ts,none⟩=true:=by rw [Z16]; exact h
 rw [Z0,refF];simp only [];rw [Yb h];rw [Y9 (show ¬ 30 < d by omega),Yb y];exact (I hg).block false
theorem Zlk {f d:Nat} {ts:List Tok} {g:Nat} (hg:Z0c ts) (hd:d≤30) (I:∀ {d:Nat} {ts:List Tok},Z0c ts→AG f d ts (g + 3)) (I2:∀ {d:Nat} {ts:List Tok},Z0c ts→AG f d ts (g + 2)) (h:isT Zs ts=true):Agree (Z0 (f + 1) .stmt d ts) (refF (g + 4) .stmt d ⟨ts,none⟩):=by
 have HD:=hg.tail;obtain ⟨n,m⟩:=Z3d h;have y:Zl Zs ⟨ts,none⟩=true:=by rw [Z16]; exact h
 rw [Z0,refF];simp only [];rw [Y9 (n Zi (by decide)),Yb h];rw [Y9 (show ¬ 30 < d by omega),Y9 (m Zi (by decide)),Yb y];exact Agree.ok HD
theorem Zlt {f d:Nat} {ts:List Tok} {g:Nat} (hg:Z0c ts) (hd:d≤30) (I:∀ {d:Nat} {ts:List Tok},Z0c ts→AG f d ts (g + 3)) (I2:∀ {d:Nat} {ts:List Tok},Z0c ts→AG f d ts (g + 2)) (h:isT Z18 ts=true):Agree (Z0 (f + 1) .stmt d ts) (refF (g + 4) .stmt d ⟨ts,none⟩):=by
 have HD:=hg.tail;obtain ⟨n,m⟩:=Z3d h;have y:Zl Z18 ⟨ts,none⟩=true:=by rw [Z16]; exact h
 have dk:=Z43 h;rw [show (if Z18=Z18 then (2:Int) else if Z18=Z1c then 3 else if Z18=Z06 then 4 else 0)=2 from by decide] at dk;rw [Z0,refF];simp only [];rw [Y9 (n Zi (by decide)),Y9 (n Zs (by decide)),Yb h];rw [Y9 (show ¬ 30 < d by omega),Y9 (m Zi (by decide)),Y9 (m Zs (by decide)),Y9 (m Ze (by decide)),Y9 (m s_if (by decide)),Y9 (show ¬ (Zl Zz ⟨ts,none⟩ || Zl Z0d ⟨ts,none⟩)=true by rw [Bool.or_eq_true,not_or]; exact ⟨(m Zz (by decide)),(m Z0d (by decide))⟩),Y9 (m Z1j (by decide)),dk,Yb (by decide)];exact (I HD).decl 2
theorem Zls {f d:Nat} {ts:List Tok} {g:Nat} (hg:Z0c ts) (hd:d≤30) (I:∀ {d:Nat} {ts:List Tok},Z0c ts→AG f d ts (g + 3)) (I2:∀ {d:Nat} {ts:List Tok},Z0c ts→AG f d ts (g + 2)) (h:isT Z1c ts=true):Agree (Z0 (f + 1) .stmt d ts) (refF (g + 4) .stmt d ⟨ts,none⟩):=by
 have HD:=hg.tail;obtain ⟨n,m⟩:=Z3d h;have y:Zl Z1c ⟨ts,none⟩=true:=by rw [Z16]; exact h
 have dk:=Z43 h;rw [show (if Z1c=Z18 then (2:Int) else if Z1c=Z1c then 3 else if Z1c=Z06 then 4 else 0)=3 from by decide] at dk;rw [Z0,refF];simp only [];rw [Y9 (n Zi (by decide)),Y9 (n Zs (by decide)),Y9 (n Z18 (by decide)),Yb h]
 rw [Y9 (show ¬ 30 < d by omega),Y9 (m Zi (by decide)),Y9 (m Zs (by decide)),Y9 (m Ze (by decide)),Y9 (m s_if (by decide)),Y9 (show ¬ (Zl Zz ⟨ts,none⟩ || Zl Z0d ⟨ts,none⟩)=true by rw [Bool.or_eq_true,not_or]; exact ⟨(m Zz (by decide)),(m Z0d (by decide))⟩),Y9 (m Z1j (by decide)),dk,Yb (by decide)];exact (I HD).decl 3
theorem Zjn {f d:Nat} {ts:List Tok} {g:Nat} (hg:Z0c ts) (hd:d≤30) (I:∀ {d:Nat} {ts:List Tok},Z0c ts→AG f d ts (g + 3)) (I2:∀ {d:Nat} {ts:List Tok},Z0c ts→AG f d ts (g + 2)) (h:isT Z06 ts=true):Agree (Z0 (f + 1) .stmt d ts) (refF (g + 4) .stmt d ⟨ts,none⟩):=by
 have HD:=hg.tail;obtain ⟨n,m⟩:=Z3d h;have y:Zl Z06 ⟨ts,none⟩=true:=by rw [Z16]; exact h
 have dk:=Z43 h;rw [show (if Z06=Z18 then (2:Int) else if Z06=Z1c then 3 else if Z06=Z06 then 4 else 0)=4 from by decide] at dk;rw [Z0,refF];simp only [];rw [Y9 (n Zi (by decide)),Y9 (n Zs (by decide)),Y9 (n Z18 (by decide)),Y9 (n Z1c (by decide)),Yb h]
 rw [Y9 (show ¬ 30 < d by omega),Y9 (m Zi (by decide)),Y9 (m Zs (by decide)),Y9 (m Ze (by decide)),Y9 (m s_if (by decide)),Y9 (show ¬ (Zl Zz ⟨ts,none⟩ || Zl Z0d ⟨ts,none⟩)=true by rw [Bool.or_eq_true,not_or]; exact ⟨(m Zz (by decide)),(m Z0d (by decide))⟩),Y9 (m Z1j (by decide)),dk,Yb (by decide)];exact (I HD).decl 4
theorem Zcd {f d:Nat} {ts:List Tok} {g:Nat} (hg:Z0c ts) (hd:d≤30) (I:∀ {d:Nat} {ts:List Tok},Z0c ts→AG f d ts (g + 3)) (I2:∀ {d:Nat} {ts:List Tok},Z0c ts→AG f d ts (g + 2)) (h:isT Ze ts=true):Agree (Z0 (f + 1) .stmt d ts) (refF (g + 4) .stmt d ⟨ts,none⟩):=by
 have HD:=hg.tail;obtain ⟨n,m⟩:=Z3d h;have y:Zl Ze ⟨ts,none⟩=true:=by rw [Z16]; exact h
 have dk:=Z43 h;rw [show (if Ze=Z18 then (2:Int) else if Ze=Z1c then 3 else if Ze=Z06 then 4 else 0)=0 from by decide] at dk;rw [Z0,refF];simp only [];rw [Y9 (n Zi (by decide)),Y9 (n Zs (by decide)),Y9 (n Z18 (by decide)),Y9 (n Z1c (by decide)),Y9 (n Z06 (by decide)),Yb h];rw [Y9 (show ¬ 30 < d by omega),Y9 (m Zi (by decide)),Y9 (m Zs (by decide)),Yb y];exact Agree.name (m:=fun s σ=>refF (g + 3) (.func 5 s) d σ) HD (fun s hg=>(I hg).func 5 s) fun s ts e=>Zjs ..
theorem Zn3 {f d:Nat} {ts:List Tok} {g:Nat} (hg:Z0c ts) (hd:d≤30) (I:∀ {d:Nat} {ts:List Tok},Z0c ts→AG f d ts (g + 3)) (I2:∀ {d:Nat} {ts:List Tok},Z0c ts→AG f d ts (g + 2)) (h:isT s_if ts=true):Agree (Z0 (f + 1) .stmt d ts) (refF (g + 4) .stmt d ⟨ts,none⟩):=by
 have HD:=hg.tail;obtain ⟨n,m⟩:=Z3d h;have y:Zl s_if ⟨ts,none⟩=true:=by rw [Z16]; exact h
 have dk:=Z43 h;rw [show (if s_if=Z18 then (2:Int) else if s_if=Z1c then 3 else if s_if=Z06 then 4 else 0)=0 from by decide] at dk;rw [Z0,refF];simp only [];rw [Y9 (n Zi (by decide)),Y9 (n Zs (by decide)),Y9 (n Z18 (by decide)),Y9 (n Z1c (by decide)),Y9 (n Z06 (by decide)),Y9 (n Ze (by decide)),Yb h];rw [Y9 (show ¬ 30 < d by omega),Y9 (m Zi (by decide)),Y9 (m Zs (by decide)),Y9 (m Ze (by decide)),Yb y]
 refine ((I HD).around (d:=d)).bind (fun x us hg=>?_) fun t ts e=>by rw [Z8r]; simp only [Z0n]; rw [Y9 (by simp [Z58])]; exact Z1x.mk
 refine (Z53 fun h=>(I2 hg).stmt h).bind (fun y us hg=>?_) fun t ts e=>by rw [Y9 (by simp [Z58])]; exact Z1x.mk
 refine Agree.isT (fun h=>?_) fun _=>Agree.ok hg;exact (Z53 fun h=>(I2 hg.tail).stmt h).bind (fun z us hg=>Agree.ok hg) fun t ts e=>Z1x.mk
theorem Zip {f d:Nat} {ts:List Tok} {g:Nat} (hg:Z0c ts) (hd:d≤30) (I:∀ {d:Nat} {ts:List Tok},Z0c ts→AG f d ts (g + 3)) (I2:∀ {d:Nat} {ts:List Tok},Z0c ts→AG f d ts (g + 2)) (h:isT Zz ts=true):Agree (Z0 (f + 1) .stmt d ts) (refF (g + 4) .stmt d ⟨ts,none⟩):=by
 have HD:=hg.tail;obtain ⟨n,m⟩:=Z3d h;have y:Zl Zz ⟨ts,none⟩=true:=by rw [Z16]; exact h
 have dk:=Z43 h;rw [show (if Zz=Z18 then (2:Int) else if Zz=Z1c then 3 else if Zz=Z06 then 4 else 0)=0 from by decide] at dk;rw [Z0,refF];simp only [];rw [Y9 (n Zi (by decide)),Y9 (n Zs (by decide)),Y9 (n Z18 (by decide)),Y9 (n Z1c (by decide)),Y9 (n Z06 (by decide)),Y9 (n Ze (by decide)),Y9 (n s_if (by decide)),Yb h];rw [Y9 (show ¬ 30 < d by omega),Y9 (m Zi (by decide)),Y9 (m Zs (by decide)),Y9 (m Ze (by decide)),Y9 (m s_if (by decide)),Yb (by rw [Bool.or_eq_true]; exact .inl y)]
 refine ((I HD).around (d:=d)).bind (fun x us hg=>?_) fun t ts e=>by rw [Z8r]; exact Z1x.mk
 rw [Y9 (m Z0d (by decide))];exact (Z53 fun h=>(I2 hg).stmt h).bind (fun y us hg=>Agree.ok hg) fun t ts e=>Z1x.mk
theorem Zko {f d:Nat} {ts:List Tok} {g:Nat} (hg:Z0c ts) (hd:d≤30) (I:∀ {d:Nat} {ts:List Tok},Z0c ts→AG f d ts (g + 3)) (I2:∀ {d:Nat} {ts:List Tok},Z0c ts→AG f d ts (g + 2)) (h:isT Z0d ts=true):Agree (Z0 (f + 1) .stmt d ts) (refF (g + 4) .stmt d ⟨ts,none⟩):=by
 have HD:=hg.tail;obtain ⟨n,m⟩:=Z3d h;have y:Zl Z0d ⟨ts,none⟩=true:=by rw [Z16]; exact h
 have dk:=Z43 h;rw [show (if Z0d=Z18 then (2:Int) else if Z0d=Z1c then 3 else if Z0d=Z06 then 4 else 0)=0 from by decide] at dk;rw [Z0,refF];simp only [];rw [Y9 (n Zi (by decide)),Y9 (n Zs (by decide)),Y9 (n Z18 (by decide)),Y9 (n Z1c (by decide)),Y9 (n Z06 (by decide)),Y9 (n Ze (by decide)),Y9 (n s_if (by decide)),Y9 (n Zz (by decide)),Yb h];rw [Y9 (show ¬ 30 < d by omega),Y9 (m Zi (by decide)),Y9 (m Zs (by decide)),Y9 (m Ze (by decide)),Y9 (m s_if (by decide)),Yb (by rw [Bool.or_eq_true]; exact .inr y)]
 refine ((I HD).around (d:=d)).bind (fun x us hg=>?_) fun t ts e=>by rw [Z8r]; exact Z1x.mk
 rw [Yb y];exact (Z53 fun h=>(I2 hg).stmt h).bind (fun y us hg=>Agree.ok hg) fun t ts e=>Z1x.mk
theorem Zg3 {f d:Nat} {ts:List Tok} {g:Nat} (hg:Z0c ts) (hd:d≤30) (I:∀ {d:Nat} {ts:List Tok},Z0c ts→AG f d ts (g + 3)) (I2:∀ {d:Nat} {ts:List Tok},Z0c ts→AG f d ts (g + 2)) (h:isT Z08 ts=true):Agree (Z0 (f + 1) .stmt d ts) (refF (g + 4) .stmt d ⟨ts,none⟩):=by
 have HD:=hg.tail;obtain ⟨n,m⟩:=Z3d h;have y:Zl Z08 ⟨ts,none⟩=true:=by rw [Z16]; exact h
 have dk:=Z43 h;rw [show (if Z08=Z18 then (2:Int) else if Z08=Z1c then 3 else if Z08=Z06 then 4 else 0)=0 from by decide] at dk;rw [Z0,refF];simp only [];rw [Y9 (n Zi (by decide)),Y9 (n Zs (by decide)),Y9 (n Z18 (by decide)),Y9 (n Z1c (by decide)),Y9 (n Z06 (by decide)),Y9 (n Ze (by decide)),Y9 (n s_if (by decide)),Y9 (n Zz (by decide)),Y9 (n Z0d (by decide)),Yb h]
 rw [Y9 (show ¬ 30 < d by omega),Y9 (m Zi (by decide)),Y9 (m Zs (by decide)),Y9 (m Ze (by decide)),Y9 (m s_if (by decide)),Y9 (show ¬ (Zl Zz ⟨ts,none⟩ || Zl Z0d ⟨ts,none⟩)=true by rw [Bool.or_eq_true,not_or]; exact ⟨(m Zz (by decide)),(m Z0d (by decide))⟩),Y9 (m Z1j (by decide)),Y9 (show ¬ Z45 ⟨ts,none⟩≠0 from fun e=>e dk),Yb y];refine Agree.isT (fun h=>Z4o HD) fun _=>?_;exact ((I HD).value (d:=d)).bind (fun x us hg=>Z4o hg) fun t ts e=>Z8j
theorem Zjm {f d:Nat} {ts:List Tok} {g:Nat} (hg:Z0c ts) (hd:d≤30) (I:∀ {d:Nat} {ts:List Tok},Z0c ts→AG f d ts (g + 3)) (I2:∀ {d:Nat} {ts:List Tok},Z0c ts→AG f d ts (g + 2)) (h:isT Z0s ts=true):Agree (Z0 (f + 1) .stmt d ts) (refF (g + 4) .stmt d ⟨ts,none⟩):=by
 have HD:=hg.tail;obtain ⟨n,m⟩:=Z3d h;have y:Zl Z0s ⟨ts,none⟩=true:=by rw [Z16]; exact h
 have dk:=Z43 h;rw [show (if Z0s=Z18 then (2:Int) else if Z0s=Z1c then 3 else if Z0s=Z06 then 4 else 0)=0 from by decide] at dk;rw [Z0,refF];simp only [];rw [Y9 (n Zi (by decide)),Y9 (n Zs (by decide)),Y9 (n Z18 (by decide)),Y9 (n Z1c (by decide)),Y9 (n Z06 (by decide)),Y9 (n Ze (by decide)),Y9 (n s_if (by decide)),Y9 (n Zz (by decide)),Y9 (n Z0d (by decide)),Y9 (n Z08 (by decide)),Yb h]
 rw [Y9 (show ¬ 30 < d by omega),Y9 (m Zi (by decide)),Y9 (m Zs (by decide)),Y9 (m Ze (by decide)),Y9 (m s_if (by decide)),Y9 (show ¬ (Zl Zz ⟨ts,none⟩ || Zl Z0d ⟨ts,none⟩)=true by rw [Bool.or_eq_true,not_or]; exact ⟨(m Zz (by decide)),(m Z0d (by decide))⟩),Y9 (m Z1j (by decide)),Y9 (show ¬ Z45 ⟨ts,none⟩≠0 from fun e=>e dk),Y9 (m Z08 (by decide)),Yb y];exact ((I HD).value (d:=d)).bind (fun x us hg=>Z4o hg) fun t ts e=>Z8j
theorem Zmc {f d:Nat} {ts:List Tok} {g:Nat} (hg:Z0c ts) (hd:d≤30) (I:∀ {d:Nat} {ts:List Tok},Z0c ts→AG f d ts (g + 3)) (I2:∀ {d:Nat} {ts:List Tok},Z0c ts→AG f d ts (g + 2)) (h:isT Z1j ts=true):Agree (Z0 (f + 1) .stmt d ts) (refF (g + 4) .stmt d ⟨ts,none⟩):=by
 have HD:=hg.tail;obtain ⟨n,m⟩:=Z3d h;have y:Zl Z1j ⟨ts,none⟩=true:=by rw [Z16]; exact h
 have dk:=Z43 h;rw [show (if Z1j=Z18 then (2:Int) else if Z1j=Z1c then 3 else if Z1j=Z06 then 4 else 0)=0 from by decide] at dk;rw [Z0,refF];simp only [];rw [Y9 (n Zi (by decide)),Y9 (n Zs (by decide)),Y9 (n Z18 (by decide)),Y9 (n Z1c (by decide)),Y9 (n Z06 (by decide)),Y9 (n Ze (by decide)),Y9 (n s_if (by decide)),Y9 (n Zz (by decide)),Y9 (n Z0d (by decide)),Y9 (n Z08 (by decide)),Y9 (n Z0s (by decide)),Yb h]
 rw [Y9 (show ¬ 30 < d by omega),Y9 (m Zi (by decide)),Y9 (m Zs (by decide)),Y9 (m Ze (by decide)),Y9 (m s_if (by decide)),Y9 (show ¬ (Zl Zz ⟨ts,none⟩ || Zl Z0d ⟨ts,none⟩)=true by rw [Bool.or_eq_true,not_or]; exact ⟨(m Zz (by decide)),(m Z0d (by decide))⟩),Yb y];exact (I HD).try_
theorem Zk9 {f d:Nat} {ts:List Tok} {g:Nat} (hg:Z0c ts) (hd:d≤30) (I:∀ {d:Nat} {ts:List Tok},Z0c ts→AG f d ts (g + 3)) (I2:∀ {d:Nat} {ts:List Tok},Z0c ts→AG f d ts (g + 2)):Agree (Z0 (f + 1) .stmt d ts) (refF (g + 4) .stmt d ⟨ts,none⟩):=by
 by_cases h_lbrace:isT Zi ts=true;·exact Zgy hg hd I I2 h_lbrace
 by_cases h_semi:isT Zs ts=true;·exact Zlk hg hd I I2 h_semi
 by_cases h_var:isT Z18 ts=true;·exact Zlt hg hd I I2 h_var
 by_cases h_let:isT Z1c ts=true;·exact Zls hg hd I I2 h_let
 by_cases h_const:isT Z06 ts=true;·exact Zjn hg hd I I2 h_const
 by_cases h_function:isT Ze ts=true;·exact Zcd hg hd I I2 h_function
 by_cases h_if:isT s_if ts=true;·exact Zn3 hg hd I I2 h_if
 by_cases h_while:isT Zz ts=true;·exact Zip hg hd I I2 h_while
 by_cases h_with:isT Z0d ts=true;·exact Zko hg hd I I2 h_with
 by_cases h_return:isT Z08 ts=true;·exact Zg3 hg hd I I2 h_return
 by_cases h_throw:isT Z0s ts=true;·exact Zjm hg hd I I2 h_throw
 by_cases h_try:isT Z1j ts=true;·exact Zmc hg hd I I2 h_try
 have m:∀ s,¬ isT s ts=true→¬ Zl s ⟨ts,none⟩=true:=fun s h=>by rw [Z16]; exact h
 have dk:Z45 ⟨ts,none⟩=0:=by unfold Z45; rw [Z16,Z16,Z16,Y9 h_var,Y9 h_let,Y9 h_const]
 rw [Z0,refF];rw [Y9 h_lbrace,Y9 h_semi,Y9 h_var,Y9 h_let,Y9 h_const,Y9 h_function,Y9 h_if,Y9 h_while,Y9 h_with,Y9 h_return,Y9 h_throw,Y9 h_try];rw [Y9 (show ¬ 30 < d by omega),Y9 (m _ h_lbrace),Y9 (m _ h_semi),Y9 (m _ h_function),Y9 (m _ h_if),Y9 (show ¬ (Zl Zz ⟨ts,none⟩ || Zl Z0d ⟨ts,none⟩)=true by rw [Bool.or_eq_true,not_or]; exact ⟨m _ h_while,m _ h_with⟩),Y9 (m _ h_try),Y9 (show ¬ Z45 ⟨ts,none⟩≠0 from fun e=>e dk),Y9 (m _ h_return),Y9 (m _ h_throw)]
 exact ((I hg).value (d:=d)).bind (fun x us hg=>Z4o hg) fun t ts e=>Z8j
theorem agree:∀ (f d:Nat) (ts:List Tok),Z0c ts→∀ g,2 * f + 8≤g→AG f d ts g:=by
 intro f;induction f with
 | zero=>intro d ts hg g hf; constructor <;> intros <;> trivial
 | succ f ih =>
   intro d ts hg g hf;obtain ⟨g,rfl⟩:∃ g',g=g' + 4:=⟨g - 4,by omega⟩
   have I:∀ {d ts},Z0c ts→AG f d ts (g + 3):=fun h=>ih _ _ h _ (by omega);have I2:∀ {d ts},Z0c ts→AG f d ts (g + 2):=fun h=>ih _ _ h _ (by omega);have I4:∀ {d ts},Z0c ts→AG f d ts (g + 4):=fun h=>ih _ _ h _ (by omega);constructor;case prog=>exact Zkk hg I I4
   case stmts=>exact Zig hg I I4
   case block=>exact Zi5 hg I I4
   case func=>exact Zln hg I I4
   case params=>exact Zfy hg I I4
   case around=>exact Zfu hg I I4
   case stmt=>exact fun hd=>Zk9 hg hd I I2
   case decl=>exact Zlj hg I I4
   case try_=>exact Zla hg I I4
   case value=>exact Zil hg I I4
   case assign=>exact Zft hg I I4
   case bin=>exact Zmn hg I I4
   case binLoop=>exact Zf7 hg I I4
   case unary=>exact Zic hg I I4
   case postfix_=>exact Zcv hg I I4
   case postLoop=>exact Zct hg I I4
   case args=>exact Zki hg I I4
   case primary=>exact Zez hg I I4
   case object=>exact Zhd hg I I4
theorem Z6c.base {w:World} {B B':Nat} {v:Value} {l:List ByteArray} (h:Z6c w B v l) (hB:B'≤B):Z6c w B' v l:=by
 refine ⟨h.1,?_⟩;rcases h.2 with hn | ⟨g,cap,cur,h1,h2,rest⟩;·exact .inl hn
 ·exact .inr ⟨g,cap,cur,h1,by omega,rest⟩
theorem Zg1 (l:List ATree):(Z48 l).length=Z4b l:=by
 have key:∀ n,∀ l:List ATree,Z4b l≤n→(Z48 l).length=Z4b l:=by
  intro n;induction n with
  | zero =>
    intro l hl;cases l with
    | nil=>rfl
    | cons a l=>exfalso; obtain ⟨b,v,k,t,m,ks⟩:=a; simp only [Z4b,ATree.many] at hl; omega
  | succ n ih =>
    intro l hl;cases l with
    | nil=>rfl
    | cons a l =>
      obtain ⟨b,v,k,t,m,ks⟩:=a;simp only [Z4b,ATree.many] at hl ⊢;have h1:=ih ks (by omega);have h2:=ih l (by omega);simp only [Z48,ATree.subs,List.length_append,List.length_cons,h1,h2]
 exact key _ l (Y5 _)
def Z8k (a:ATree):Bool:=Z15 a.text Z1d && (a.kind == 1 || a.kind == 6)
theorem Z62.far {w w':World} {B B':Nat} {v v':Value} {l:List ATree} {ks:List ByteArray} (h:Z62 w B v l) (ht:Z6c w B' v' ks) (hf:∀ k,k < w.heap.size→v'.ownBlock≠some k→w'.heap[k]?=w.heap[k]?):Z62 w' B v l:=by
 refine Zq h fun k hk=>hf k (Yh h k hk).2 fun e=>?_;obtain ⟨c1,f1,h1⟩:=Lib.ownsRow_kind h k hk;obtain ⟨c2,f2,h2⟩:=Lib.ownsRow_kind ht k e;rw [h1] at h2;simp only [Option.some.injEq,Obj.cells.injEq] at h2;exact absurd h2.2.1 (by decide)
theorem Zee (w:World) (B:Nat) (a:ATree) (hT:TreeAt w B a) :
 Calls Tryz.prog 10 #[a.ptr] w fun e w'=>e=.returned (.bool (Z8k a))∧w'=w:=by
 have c0:=hT.c0;have c1:=hT.c1;unfold Z8k ATree.ptr;obtain ⟨kd,hkd⟩:=zX a.kind
 obtain ⟨tx,htx⟩:=zX a.text
 rw [← hkd] at c0 ⊢;rw [← htx] at c1 ⊢;clear hkd htx hT;by_cases hs:tx=Z1d
 ·subst hs;have hss : Z15 Z1d Z1d = true := by simp [Z15]
  rw [hss];unfold Z1d at c1;rcases (by omega:kd=1∨kd=6∨(kd≠1∧kd≠6)) with h3 | h3 | ⟨h3,h4⟩
  ·subst h3;go_enter Tryz.func10, Tryz.ntmps10
   go_wp2;go_ret;exact ⟨rfl,rfl⟩
  ·subst h3;go_enter Tryz.func10, Tryz.ntmps10
   go_wp2;go_ret;exact ⟨rfl,rfl⟩
  ·have n3 : (kd == 1) = false := by simpa using h3
   have n4:(kd == 6)=false:=by simpa using h4
   clear h3 h4;rw [n3,n4];go_enter Tryz.func10,Tryz.ntmps10
   go_wp2;go_ret;exact ⟨rfl,rfl⟩
 ·have hne : Z15 tx Z1d = false := by simp [Z15, hs]
  rw [hne];have hne2:(tx.toList == Z1d.toList)=false:=by rw [Z3u]; exact hne
  have hne3:(tx.toList == [115,116,114,105,99,116])=false:=by
   have:Z1d.toList=[115,116,114,105,99,116]:=by kernel_rfl
   rwa [this] at hne2
  clear hne2;clear hs hne;go_enter Tryz.func10,Tryz.ntmps10
  go_wp2;go_ret;exact ⟨rfl,rfl⟩
end Go.Proofs.YtmeiggjboakmpaaGreatDoor
namespace Go.Proofs.YtmeiggjboakmpaaGreatDoor
open Go Go.RowKit Go.ChangeMaps Go.MapKept
set_option maxRecDepth 100000
set_option maxHeartbeats 20000000
set_option linter.unusedVariables false
def Zmv (b:Nat):Value:=.pointer (some ⟨b,0,none⟩)
def Zi3 (w:World) (k:Nat):Prop:=∃ c t,w.heap[k]?=some (.cells c t (0,0))
def PMap (w:World) (b:Nat) (l:List (Nat×Nat)):Prop:=
 ∃ es clock,w.heap[b]?=some (.map es clock)∧es.toList.map (fun e=>(e.key,e.val))=l.map (fun x=>(Zmv x.1,Value.int .i64 x.2))∧Go.MapKept.Stamped es clock
theorem PMap.len {w:World} {b:Nat} {l:List (Nat×Nat)} (h:PMap w b l):∃ es clock,w.heap[b]?=some (.map es clock)∧es.size=l.length:=by
 obtain ⟨es,clock,hb,he,hst⟩:=h;refine ⟨es,clock,hb,?_⟩;have:=congrArg List.length he;simpa using this
end Go.Proofs.YtmeiggjboakmpaaGreatDoor
namespace Go.Proofs.YtmeiggjboakmpaaGreatDoor
open Go Go.RowKit
set_option maxRecDepth 100000
set_option maxHeartbeats 20000000
set_option linter.unusedVariables false
theorem Zb0 (l m:List ATree):Z48 (l ++ m)=Z48 l ++ Z48 m:=by
 induction l with
 | nil=>rfl
 | cons a l ih=>simp only [List.cons_append,Z48,ih,List.append_assoc]
theorem Zd1 (a:ATree):a.subs=a :: Z48 a.kids:=by cases a; rfl
theorem Zi3.bel {w0 w:World} {k:Nat} (h:Zi3 w0 k) (g:Below w0.heap.size w0 w):Zi3 w k:=by
 obtain ⟨c,t,h⟩:=h;exact ⟨c,t,(g.block k (Y6.1 h).1).trans h⟩
theorem TreeAt.cellsOf {w:World} {B:Nat} {a:ATree} (h:TreeAt w B a):Zi3 w a.b:=⟨_,_,h.blkOf⟩
theorem Z90 (a:ATree):a.subs.length=a.many:=by
 obtain ⟨b,v,k,t,n,ks⟩:=a;simp only [ATree.subs,ATree.many,List.length_cons,Zg1]
end Go.Proofs.YtmeiggjboakmpaaGreatDoor
