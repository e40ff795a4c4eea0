/- The document's parser: a statement that is a value has one; braces. -/
import Derived.Test.YtmjfllklcpjddaaGreatDoorJ11
namespace Go.Proofs.YtmjfllklcpjddaaGreatDoor
open Go Go.RowKit
set_option maxRecDepth 100000
set_option maxHeartbeats 20000000
set_option linter.unusedVariables false
theorem Zbt {f d:Nat} {b:Bool} {σ σ':RS} {t:Tree} (h:refF f (.braces b) d σ=some (t,σ')):t.kind=6:=by
 cases f with
 | zero=>simp [refF] at h
 | succ f =>
   rw [refF] at h;obtain ⟨l,σ1,_,h⟩:=Ze h;simp only [Option.some.injEq,Prod.mk.injEq] at h;rw [← h.1]; rfl
theorem Zfg {f d:Nat} {k:Int} {s:ByteArray} {σ σ':RS} {t:Tree} (h:refF f (.func k s) d σ=some (t,σ')):t.kind=k:=by
 cases f with
 | zero=>simp [refF] at h
 | succ f =>
   rw [refF] at h;obtain ⟨l,σ1,_,h⟩:=Ze h;obtain ⟨l,σ1,_,h⟩:=Ze h;simp only [Option.some.injEq,Prod.mk.injEq] at h;rw [← h.1]; rfl
theorem Zhv (σ:RS):Z3s σ≠15:=by
 unfold Z3s;split;·decide
 ·split;·decide
  ·split <;> decide
theorem Z7g {a t:Tree} {σ σ':RS} (h:some (a,σ)=some (t,σ')):a=t:=by simp only [Option.some.injEq,Prod.mk.injEq] at h; exact h.1
theorem Z7e {f d:Nat} {σ σ':RS} {t:Tree} (h:refF f .stmt d σ=some (t,σ')) (hk:t.kind=15):t.kids≠[]:=by
 cases f with
 | zero=>simp [refF] at h
 | succ f=>
 rw [refF] at h;by_cases c:30 < d
 ·rw [Yb c] at h;rw [← Z7g h] at hk; cases hk
 rw [Y9 c] at h;by_cases c:Zd Zb σ=true;·rw [Yb c] at h; have:=Zbt h; omega
 rw [Y9 c] at h;by_cases c:Zd Zg σ=true;·rw [Yb c] at h; rw [← Z7g h] at hk; cases hk
 rw [Y9 c] at h;by_cases c:Zd Z9 σ=true;·rw [Yb c] at h; have:=Zfg h; omega
 rw [Y9 c] at h;by_cases c:Zd s_if σ=true
 ·rw [Yb c] at h;obtain ⟨_, _, _, h⟩ := Ze h;obtain ⟨_, σ2, _, h⟩ := Ze h;try simp only at h
  split at h
  ·obtain ⟨_,_,_,h⟩:=Ze h;rw [← Z7g h] at hk; cases hk
  ·rw [← Z7g h] at hk; cases hk
 rw [Y9 c] at h;by_cases c:(Zd Zv σ || Zd Z04 σ)=true
 ·rw [Yb c] at h;obtain ⟨_,_,_,h⟩:=Ze h;obtain ⟨_,_,_,h⟩:=Ze h;rw [← Z7g h] at hk;simp only [Tree.kind] at hk;split at hk <;> cases hk
 rw [Y9 c] at h;by_cases c:Zd Z23 σ=true
 ·rw [Yb c] at h;obtain ⟨_,_,_,h⟩:=Ze h;have key:∀ (l:List Tree) (σ1:RS),(if Zd Zy σ1=true then Z03 (refF f (.braces false) d (advR σ1)) fun c σ=>tryF (l ++ [.mk 14 ByteArray.empty 0 [c]]) σ else tryF l σ1)=some (t,σ')→t.kind=12:=by
   intro l σ1 h;split at h
   ·obtain ⟨_,_,_,h⟩:=Ze h;unfold tryF at h;rw [← Z7g h]; rfl
   ·unfold tryF at h;rw [← Z7g h]; rfl
  try simp only at h
  split at h
  ·obtain ⟨_,_,_,h⟩:=Ze h;have:=key _ _ h; omega
  ·have:=key _ _ h; omega
 rw [Y9 c] at h;by_cases c:Z3s σ≠0
 ·rw [Yb c] at h;have hd := Zhv σ;split at h
  ·obtain ⟨_,_,_,h⟩:=Ze h;rw [← Z7g h] at hk; exact absurd hk hd
  ·rw [← Z7g h] at hk; exact absurd hk hd
 rw [Y9 c] at h;by_cases c:Zd Z0d σ=true
 ·rw [Yb c] at h;split at h;·rw [← Z7g h] at hk; cases hk
  ·obtain ⟨_,_,_,h⟩:=Ze h;rw [← Z7g h] at hk; cases hk
 rw [Y9 c] at h;by_cases c:Zd Z1h σ=true
 ·rw [Yb c] at h;obtain ⟨_,_,_,h⟩:=Ze h;rw [← Z7g h] at hk; cases hk
 rw [Y9 c] at h;obtain ⟨_,_,_,h⟩:=Ze h;rw [← Z7g h];simp [Tree.kids]
def BInv (w0:World) (C:QC) (B d f:Nat) (t:Tree) (σ':RS) (g:Nat) (v:Value) (wr:World):Prop:=
 ∃ (acc:List Tree) (kids:List ATree) (σ:RS),refF g (.bracesL acc) d σ=some (t,σ')∧ListAt w0 B wr v kids acc∧QS wr C σ∧RFr w0 wr C.rb∧acc.length + g≤f∧∀ x∈acc,x.kind=15→x.kids≠[]
theorem Z9m (f:Nat) (hS:∀ g,g < f→Z14 21 qd .stmt g):Z14 47 (Zaq false) (.braces false) (f + 1):=by
 intro w C B d σ t σ' hQ hr hB hd hp;rw [refF] at hp;obtain ⟨l,σ1,hl,hp⟩:=Ze hp;simp only [Option.some.injEq,Prod.mk.injEq] at hp;have HP:=lh hp;have HM:=lh (Z06 hQ Zb B hr hB);have HR:=lh hr;have HB:=lh hB;have HD:=lh hd;have HS:=lh hS;have HL:=lh hl;clear hQ hB hr hp hd hS hl;unfold Zaq;go_enter Tryz.func47,Tryz.ntmps47
 go_wp2_with fail
 refine HM.out.mono ?_;rintro e w0 ⟨rfl,h1,h2⟩;have ST:=lh (show ∃ g,g≤f∧BInv w0 C B d f l σ1 g (.slice none 0 0) w0 from ⟨f,Y5 _,[],[],_,HL.out,ListAt.nil,h1,RFr.refl _ _,by simp,fun x hx=>by cases hx⟩);have F0:=lh h2;clear h1 h2 HM;go_wp2_with fail
 go_loopw [7] (fun v wr=>∃ g,g≤f∧BInv w0 C B d f l σ1 g v wr) (fun v wr=>least fun g=>g≤f∧BInv w0 C B d f l σ1 g v wr)
 case atStart=>exact ST.out
 case round=>
  have hI:=Z3k hrel;clear ST;obtain ⟨g,hg⟩:=zX (least fun g=>g≤f∧BInv w0 C B d f l σ1 g u7 wr)
  rw [← hg] at hI;have HG:=lh hg;clear hg hrel;obtain ⟨hgF,acc,kids,σ,hp,hL,hQ,hF,h8,hx⟩:=hI;cases g with
  | zero=>simp [refF] at hp
  | succ g=>
  rw [refF] at hp;have HO:=Z1x hQ;have HN:=Zc hQ Zk;obtain ⟨p,cp,rfl⟩:=hL.slice;have HL:=lh hL;have HQ:=lh hQ;have HF:=lh hF;have H8:=lh h8;have HX:=lh hx;have HGF:=lh hgF;by_cases hf:σ.f.isNone=true;rotate_left
  ·have hf : σ.f.isNone = false := Bool.eq_false_iff.2 hf;rw [hf] at HO;rw [Y9 (by simp [hf])] at hp;simp only [Option.some.injEq, Prod.mk.injEq] at hp;have HO := lh HO;have HE := lh hp;have F1 := HF;have Q1 := HQ;clear hL hQ hF h8 hgF hf hp HN hx;go_wp2_with fail
   refine HO.out.mono ?_;rintro e w1 ⟨rfl,rfl⟩;go_wp2_with fail
   refine (Z06 Q1.out Zk B HR.out (Ya HB.out (F0.out.trans F1.out).size)).mono ?_;rintro e w2 ⟨rfl,h2,h3⟩;have F2:=lh ((F0.out.trans F1.out).trans h3);have L2:=lh (HL.out.rfr HR.out h3);have hal:Below w2.heap.size w2 (w2.alloc (.cells #[.int .i64 6,.string ⟨#[]⟩,.int .i64 0,.slice p acc.length cp] 46)):=(Y8 _ _).alloc (Y5 _) _;have N3:=lh ((L2.out.pre F0.out.size).node (k:=6) (tx:=⟨#[]⟩) (n:=0) (Ya HB.out F2.out.size) F2.out.size);have Q3:=lh (h2.below hal);have F3:=lh (F2.out.trans (RFr.below (rb:=C.rb) hal))
   have L3:=lh (L2.out.rfr HR.out (RFr.below (rb:=C.rb) hal));clear h2 h3 hal;go_wp2;go_ret;obtain ⟨h4,h5⟩:=HE.out;obtain ⟨h6,h7⟩:=HP.out;refine ⟨.mk w2.heap.size (.slice p acc.length cp) 6 ⟨#[]⟩ 0 kids,rfl,?_,by rw [← h7,← h5]; exact Q3.out,F3.out⟩;rw [← h6,← h4];exact N3.out
  rw [hf] at HO;by_cases hn:Zd Zk σ=true
  ·rw [hn] at HN;rw [Y9 (by simp [hn])] at hp;simp only [Option.some.injEq, Prod.mk.injEq] at hp;have HO := lh HO;have HN := lh HN;have HE := lh hp;clear hL hQ hF h8 hgF hf hn hp hx;go_wp2_with fail
   refine HO.out.mono ?_;rintro e w1 ⟨rfl,rfl⟩;go_wp2_with fail
   refine HN.out.mono ?_;rintro e w1 ⟨rfl,hb1⟩;have Q1:=lh (HQ.out.below hb1);have F1:=lh (HF.out.trans (RFr.below (rb:=C.rb) hb1));replace HL:=lh (HL.out.rfr HR.out (RFr.below (rb:=C.rb) hb1))
   clear hb1;go_wp2_with fail
   refine (Z06 Q1.out Zk B HR.out (Ya HB.out (F0.out.trans F1.out).size)).mono ?_;rintro e w2 ⟨rfl,h2,h3⟩;have F2:=lh ((F0.out.trans F1.out).trans h3);have L2:=lh (HL.out.rfr HR.out h3);have hal:Below w2.heap.size w2 (w2.alloc (.cells #[.int .i64 6,.string ⟨#[]⟩,.int .i64 0,.slice p acc.length cp] 46)):=(Y8 _ _).alloc (Y5 _) _;have N3:=lh ((L2.out.pre F0.out.size).node (k:=6) (tx:=⟨#[]⟩) (n:=0) (Ya HB.out F2.out.size) F2.out.size);have Q3:=lh (h2.below hal);have F3:=lh (F2.out.trans (RFr.below (rb:=C.rb) hal))
   have L3:=lh (L2.out.rfr HR.out (RFr.below (rb:=C.rb) hal));clear h2 h3 hal;go_wp2;go_ret;obtain ⟨h4,h5⟩:=HE.out;obtain ⟨h6,h7⟩:=HP.out;refine ⟨.mk w2.heap.size (.slice p acc.length cp) 6 ⟨#[]⟩ 0 kids,rfl,?_,by rw [← h7,← h5]; exact Q3.out,F3.out⟩;rw [← h6,← h4];exact N3.out
  have hn:Zd Zk σ=false:=by simpa using hn
  rw [hn] at HN;rw [Yb (by simp [hn,hf])] at hp;obtain ⟨x,σ3,hit,hrest⟩:=Ze hp;have IT:=lh hit;have RE:=lh hrest;have HO:=lh HO;have HN:=lh HN;have HK:=lh (hL.len);have XX:=lh (fun hk=>Z7e hit hk);obtain ⟨i0,hi,hz0,hz1,hz2⟩:=info_parts Tryz.infoPtr;clear hL hQ hF h8 hgF hn hp hit hrest hx hf;go_wp2_with fail
  refine HO.out.mono ?_;rintro e w1 ⟨rfl,rfl⟩;go_wp2_with fail
  refine HN.out.mono ?_;rintro e w1 ⟨rfl,hb1⟩;have Q1:=lh (HQ.out.below hb1);have F1:=lh (HF.out.trans (RFr.below (rb:=C.rb) hb1));have L1:=lh (HL.out.rfr HR.out (RFr.below (rb:=C.rb) hb1));have hdd:=HD.out;clear hb1 HO HN HQ HF HL;go_wp2_with fail
  refine (HS.out g (by have:=HGF.out; omega) w1 C B (d + 1) _ _ _ Q1.out HR.out (Ya HB.out (F0.out.trans F1.out).size) (by have:=HGF.out; omega) IT.out).mono ?_;rintro e w2 ⟨a,rfl,h2,h3,h4⟩;have A2:=lh h2;have Q2:=lh h3;have F2:=lh h4;have L2:=lh (L1.out.rfr HR.out h4);clear h2 h3 h4 Q1
  go_wp2_with (at_builtin; go_must (refine wpList_append_lies _ rfl (.tmp 18) (.tmp 23) 44 rfl B 22 i0 _ 1 8 Tryz.underlying44 hi hz0 hz1 hz2 rfl (by decide) (.slice p acc.length cp) kids.length (kids.map ATree.ptr) rfl (L2.out.row.alloc _) ⟨w2.heap.size,0,none⟩ 1 1 [a.ptr] rfl rfl (Yi (cs:=#[a.ptr]) (t:=22) (fr:=(0,0)) (heap_alloc_new w2 _)) (by simp [ATree.ptr,Value.oneCell']) (by decide) (by have:=HK.out; have:=H8.out; unfold maxLen; omega) (by have:=HK.out; have:=H8.out; omega) (by simp; have:=F0.out.size; have:=F1.out.size; have:=F2.out.size; have:=HB.out; omega) (w2.heap.size + 1) (by simp) ?_); intro gg cap w4 hown2 hgrow2 hat2 hgl2)
  have hpush:=L2.out.push (wA:=w1) (fun y hy=>(L1.out.ks.new y hy).2) (fun y hy=>(L1.out.own y hy).2.1) A2.out F1.out.size F2.out.size ((Y8 _ _).alloc (Y5 _) _) hgrow2 hown2 (by rcases hat2 with h | h; (exact .inl h); (exact .inr (by omega))) hgl2 (F1.out.trans F2.out);have hinv:g≤f∧BInv w0 C B d f l σ1 g (.slice (some ⟨gg,0,none⟩) (kids.length + 1) cap) w4:=
   ⟨by have := HGF.out; omega, acc ++ [x], kids ++ [a], σ3, RE.out, hpush.1, Q2.out.keep fun k hk => hpush.2.1 k (by have := Q2.out.rlt; omega) (fun e => by have h1 := (L2.out.own k e).1; have h2 := HR.out; have h3 := HB.out; have h4 := F0.out.size; omega), hpush.2.2.2, by have := H8.out; simp; omega, fun y hy => by
    rcases List.mem_append.1 hy with hy | hy;·exact HX.out y hy
    ·simp only [List.mem_singleton] at hy; subst hy; exact XX.out⟩
  exact ⟨⟨g,hinv⟩,by rw [← HG.out]; exact Nat.lt_succ_of_le (Z32 hinv)⟩
theorem Zb1 (f:Nat) (hS:∀ g,g < f→Z14 21 qd .stmt g):Z14 47 (Zaq true) (.braces true) (f + 1):=by
 intro w C B d σ t σ' hQ hr hB hd hp;rw [refF] at hp;obtain ⟨l,σ1,hl,hp⟩:=Ze hp;simp only [Option.some.injEq,Prod.mk.injEq] at hp;have HP:=lh hp;have HM:=lh (Z06 hQ Zb B hr hB);have HR:=lh hr;have HB:=lh hB;have HD:=lh hd;have HS:=lh hS;have HL:=lh hl;clear hQ hB hr hp hd hS hl;unfold Zaq;go_enter Tryz.func47,Tryz.ntmps47
 go_wp2_with fail
 refine HM.out.mono ?_;rintro e w0 ⟨rfl,h1,h2⟩;have ST:=lh (show ∃ g,g≤f∧BInv w0 C B d f l σ1 g (.slice none 0 0) w0 from ⟨f,Y5 _,[],[],_,HL.out,ListAt.nil,h1,RFr.refl _ _,by simp,fun x hx=>by cases hx⟩);have F0:=lh h2;clear h1 h2 HM;go_wp2_with fail
 go_loopw [7] (fun v wr=>∃ g,g≤f∧BInv w0 C B d f l σ1 g v wr) (fun v wr=>least fun g=>g≤f∧BInv w0 C B d f l σ1 g v wr)
 case atStart=>exact ST.out
 case round=>
  have hI:=Z3k hrel;clear ST;obtain ⟨g,hg⟩:=zX (least fun g=>g≤f∧BInv w0 C B d f l σ1 g u7 wr)
  rw [← hg] at hI;have HG:=lh hg;clear hg hrel;obtain ⟨hgF,acc,kids,σ,hp,hL,hQ,hF,h8,hx⟩:=hI;cases g with
  | zero=>simp [refF] at hp
  | succ g=>
  rw [refF] at hp;have HO:=Z1x hQ;have HN:=Zc hQ Zk;obtain ⟨p,cp,rfl⟩:=hL.slice;have HL:=lh hL;have HQ:=lh hQ;have HF:=lh hF;have H8:=lh h8;have HX:=lh hx;have HGF:=lh hgF;by_cases hf:σ.f.isNone=true;rotate_left
  ·have hf : σ.f.isNone = false := Bool.eq_false_iff.2 hf;rw [hf] at HO;rw [Y9 (by simp [hf])] at hp;simp only [Option.some.injEq, Prod.mk.injEq] at hp;have HO := lh HO;have HE := lh hp;have F1 := HF;have Q1 := HQ;clear hL hQ hF h8 hgF hf hp HN hx;go_wp2_with fail
   refine HO.out.mono ?_;rintro e w1 ⟨rfl,rfl⟩;go_wp2_with fail
   refine (Z06 Q1.out Zk B HR.out (Ya HB.out (F0.out.trans F1.out).size)).mono ?_;rintro e w2 ⟨rfl,h2,h3⟩;have F2:=lh ((F0.out.trans F1.out).trans h3);have L2:=lh (HL.out.rfr HR.out h3);have hal:Below w2.heap.size w2 (w2.alloc (.cells #[.int .i64 6,.string ⟨#[]⟩,.int .i64 0,.slice p acc.length cp] 46)):=(Y8 _ _).alloc (Y5 _) _;have N3:=lh ((L2.out.pre F0.out.size).node (k:=6) (tx:=⟨#[]⟩) (n:=0) (Ya HB.out F2.out.size) F2.out.size);have Q3:=lh (h2.below hal);have F3:=lh (F2.out.trans (RFr.below (rb:=C.rb) hal))
   have L3:=lh (L2.out.rfr HR.out (RFr.below (rb:=C.rb) hal));clear h2 h3 hal;have HO3:=Z1x Q3.out;by_cases hok:(Z09 Zk σ).f.isNone=true
   ·rw [hok] at HO3;have HO3 := lh HO3;have HOK := lh hok;clear hok;go_wp2_with fail
    refine HO3.out.mono ?_;rintro e w3 ⟨rfl,rfl⟩;clear HO3;go_wp2_with fail
    refine (Z4p w0 _ B _ kids acc L3.out HX.out).mono ?_;rintro e w4 ⟨rfl,hb4⟩;have N4:=N3.out.rfr HR.out (RFr.below (rb:=C.rb) hb4);have F4:=F3.out.trans (RFr.below (rb:=C.rb) hb4);have Q4:=lh (Q3.out.below hb4);have hblk:=N4.at'.blkOf;simp only [ATree.b,ATree.v,ATree.kind,ATree.text,ATree.n] at hblk;have z1:w4.cell? ⟨w2.heap.size,1,none⟩=some (.string ⟨#[]⟩):=by simp [World.cell?,hblk]
    have zz:w4.frozen? ⟨w2.heap.size,1,none⟩=false:=by simp [World.frozen?,hblk]
    have FIN:=lh (Got.text0 (t':=Z0z acc) HR.out HB.out N4 F4);clear hb4 N4 F4 hblk;go_wp2;go_ret;obtain ⟨h4,h5⟩:=HE.out;obtain ⟨h6,h7⟩:=HP.out;obtain ⟨g1,g2,g3⟩:=FIN.out;refine ⟨.mk w2.heap.size (.slice p acc.length cp) 6 (Z0z acc) 0 kids,rfl,?_,by rw [← h7,← h5]; exact Q4.out.keep fun k hk=>g3 k (by have:=HR.out; omega),g2⟩;rw [← h5,HOK.out] at h6;rw [← h6,← h4];exact g1
   ·have hok : (Z09 Zk σ).f.isNone = false := Bool.eq_false_iff.2 hok;rw [hok] at HO3;have HO3 := lh HO3;have HOK := lh hok;clear hok;go_wp2_with fail
    refine HO3.out.mono ?_;rintro e w3 ⟨rfl,rfl⟩;clear HO3;go_wp2;go_ret;obtain ⟨h4,h5⟩:=HE.out;obtain ⟨h6,h7⟩:=HP.out;refine ⟨.mk w2.heap.size (.slice p acc.length cp) 6 ⟨#[]⟩ 0 kids,rfl,?_,by rw [← h7,← h5]; exact Q3.out,F3.out⟩;rw [← h5,HOK.out] at h6;rw [← h6,← h4];exact N3.out
  rw [hf] at HO;by_cases hn:Zd Zk σ=true
  ·rw [hn] at HN;rw [Y9 (by simp [hn])] at hp;simp only [Option.some.injEq, Prod.mk.injEq] at hp;have HO := lh HO;have HN := lh HN;have HE := lh hp;clear hL hQ hF h8 hgF hf hn hp hx;go_wp2_with fail
   refine HO.out.mono ?_;rintro e w1 ⟨rfl,rfl⟩;go_wp2_with fail
   refine HN.out.mono ?_;rintro e w1 ⟨rfl,hb1⟩;have Q1:=lh (HQ.out.below hb1);have F1:=lh (HF.out.trans (RFr.below (rb:=C.rb) hb1));replace HL:=lh (HL.out.rfr HR.out (RFr.below (rb:=C.rb) hb1))
   clear hb1;go_wp2_with fail
   refine (Z06 Q1.out Zk B HR.out (Ya HB.out (F0.out.trans F1.out).size)).mono ?_;rintro e w2 ⟨rfl,h2,h3⟩;have F2:=lh ((F0.out.trans F1.out).trans h3);have L2:=lh (HL.out.rfr HR.out h3);have hal:Below w2.heap.size w2 (w2.alloc (.cells #[.int .i64 6,.string ⟨#[]⟩,.int .i64 0,.slice p acc.length cp] 46)):=(Y8 _ _).alloc (Y5 _) _;have N3:=lh ((L2.out.pre F0.out.size).node (k:=6) (tx:=⟨#[]⟩) (n:=0) (Ya HB.out F2.out.size) F2.out.size);have Q3:=lh (h2.below hal);have F3:=lh (F2.out.trans (RFr.below (rb:=C.rb) hal))
   have L3:=lh (L2.out.rfr HR.out (RFr.below (rb:=C.rb) hal));clear h2 h3 hal;have HO3:=Z1x Q3.out;by_cases hok:(Z09 Zk σ).f.isNone=true
   ·rw [hok] at HO3;have HO3 := lh HO3;have HOK := lh hok;clear hok;go_wp2_with fail
    refine HO3.out.mono ?_;rintro e w3 ⟨rfl,rfl⟩;clear HO3;go_wp2_with fail
    refine (Z4p w0 _ B _ kids acc L3.out HX.out).mono ?_;rintro e w4 ⟨rfl,hb4⟩;have N4:=N3.out.rfr HR.out (RFr.below (rb:=C.rb) hb4);have F4:=F3.out.trans (RFr.below (rb:=C.rb) hb4);have Q4:=lh (Q3.out.below hb4);have hblk:=N4.at'.blkOf;simp only [ATree.b,ATree.v,ATree.kind,ATree.text,ATree.n] at hblk;have z1:w4.cell? ⟨w2.heap.size,1,none⟩=some (.string ⟨#[]⟩):=by simp [World.cell?,hblk]
    have zz:w4.frozen? ⟨w2.heap.size,1,none⟩=false:=by simp [World.frozen?,hblk]
    have FIN:=lh (Got.text0 (t':=Z0z acc) HR.out HB.out N4 F4);clear hb4 N4 F4 hblk;go_wp2;go_ret;obtain ⟨h4,h5⟩:=HE.out;obtain ⟨h6,h7⟩:=HP.out;obtain ⟨g1,g2,g3⟩:=FIN.out;refine ⟨.mk w2.heap.size (.slice p acc.length cp) 6 (Z0z acc) 0 kids,rfl,?_,by rw [← h7,← h5]; exact Q4.out.keep fun k hk=>g3 k (by have:=HR.out; omega),g2⟩;rw [← h5,HOK.out] at h6;rw [← h6,← h4];exact g1
   ·have hok : (Z09 Zk σ).f.isNone = false := Bool.eq_false_iff.2 hok;rw [hok] at HO3;have HO3 := lh HO3;have HOK := lh hok;clear hok;go_wp2_with fail
    refine HO3.out.mono ?_;rintro e w3 ⟨rfl,rfl⟩;clear HO3;go_wp2;go_ret;obtain ⟨h4,h5⟩:=HE.out;obtain ⟨h6,h7⟩:=HP.out;refine ⟨.mk w2.heap.size (.slice p acc.length cp) 6 ⟨#[]⟩ 0 kids,rfl,?_,by rw [← h7,← h5]; exact Q3.out,F3.out⟩;rw [← h5,HOK.out] at h6;rw [← h6,← h4];exact N3.out
  have hn:Zd Zk σ=false:=by simpa using hn
  rw [hn] at HN;rw [Yb (by simp [hn,hf])] at hp;obtain ⟨x,σ3,hit,hrest⟩:=Ze hp;have IT:=lh hit;have RE:=lh hrest;have HO:=lh HO;have HN:=lh HN;have HK:=lh (hL.len);have XX:=lh (fun hk=>Z7e hit hk);obtain ⟨i0,hi,hz0,hz1,hz2⟩:=info_parts Tryz.infoPtr;clear hL hQ hF h8 hgF hn hp hit hrest hx hf;go_wp2_with fail
  refine HO.out.mono ?_;rintro e w1 ⟨rfl,rfl⟩;go_wp2_with fail
  refine HN.out.mono ?_;rintro e w1 ⟨rfl,hb1⟩;have Q1:=lh (HQ.out.below hb1);have F1:=lh (HF.out.trans (RFr.below (rb:=C.rb) hb1));have L1:=lh (HL.out.rfr HR.out (RFr.below (rb:=C.rb) hb1));have hdd:=HD.out;clear hb1 HO HN HQ HF HL;go_wp2_with fail
  refine (HS.out g (by have:=HGF.out; omega) w1 C B (d + 1) _ _ _ Q1.out HR.out (Ya HB.out (F0.out.trans F1.out).size) (by have:=HGF.out; omega) IT.out).mono ?_;rintro e w2 ⟨a,rfl,h2,h3,h4⟩;have A2:=lh h2;have Q2:=lh h3;have F2:=lh h4;have L2:=lh (L1.out.rfr HR.out h4);clear h2 h3 h4 Q1
  go_wp2_with (at_builtin; go_must (refine wpList_append_lies _ rfl (.tmp 18) (.tmp 23) 44 rfl B 22 i0 _ 1 8 Tryz.underlying44 hi hz0 hz1 hz2 rfl (by decide) (.slice p acc.length cp) kids.length (kids.map ATree.ptr) rfl (L2.out.row.alloc _) ⟨w2.heap.size,0,none⟩ 1 1 [a.ptr] rfl rfl (Yi (cs:=#[a.ptr]) (t:=22) (fr:=(0,0)) (heap_alloc_new w2 _)) (by simp [ATree.ptr,Value.oneCell']) (by decide) (by have:=HK.out; have:=H8.out; unfold maxLen; omega) (by have:=HK.out; have:=H8.out; omega) (by simp; have:=F0.out.size; have:=F1.out.size; have:=F2.out.size; have:=HB.out; omega) (w2.heap.size + 1) (by simp) ?_); intro gg cap w4 hown2 hgrow2 hat2 hgl2)
  have hpush:=L2.out.push (wA:=w1) (fun y hy=>(L1.out.ks.new y hy).2) (fun y hy=>(L1.out.own y hy).2.1) A2.out F1.out.size F2.out.size ((Y8 _ _).alloc (Y5 _) _) hgrow2 hown2 (by rcases hat2 with h | h; (exact .inl h); (exact .inr (by omega))) hgl2 (F1.out.trans F2.out);have hinv:g≤f∧BInv w0 C B d f l σ1 g (.slice (some ⟨gg,0,none⟩) (kids.length + 1) cap) w4:=
   ⟨by have := HGF.out; omega, acc ++ [x], kids ++ [a], σ3, RE.out, hpush.1, Q2.out.keep fun k hk => hpush.2.1 k (by have := Q2.out.rlt; omega) (fun e => by have h1 := (L2.out.own k e).1; have h2 := HR.out; have h3 := HB.out; have h4 := F0.out.size; omega), hpush.2.2.2, by have := H8.out; simp; omega, fun y hy => by
    rcases List.mem_append.1 hy with hy | hy;·exact HX.out y hy
    ·simp only [List.mem_singleton] at hy; subst hy; exact XX.out⟩
  exact ⟨⟨g,hinv⟩,by rw [← HG.out]; exact Nat.lt_succ_of_le (Z32 hinv)⟩
theorem Got.pushQ {w0 wA w w1 w2:World} {rb B b g cap:Nat} {v:Value} {k n:Int} {t:ByteArray} {kids:List ATree} {a:ATree} {tn ta:Tree} (hr:rb < B) (hB0:B≤w0.heap.size)
 (N:Got w0 B w (.mk b v k t n kids) tn) (hNA:∀ x∈(ATree.mk b v k t n kids).blocks,x < wA.heap.size) (A:Got wA B w a ta) (F:RFr w0 w rb)
 (hB1:Below w.heap.size w w1) (hg:w1.grownBy w2 v.ownBlock) (hown:w2.ownsRow B 22 1 (.slice (some ⟨g,0,none⟩) (kids.length + 1) cap) (kids.length + 1) (kids.map ATree.ptr ++ [a.ptr]))
 (hat:v.ownBlock=some g∨w.heap.size≤g) (hgl:g < w2.heap.size) :
 Got w0 B (w2.setCell ⟨b,3,none⟩ (.slice (some ⟨g,0,none⟩) (kids.length + 1) cap)) (.mk b (.slice (some ⟨g,0,none⟩) (kids.length + 1) cap) k t n (kids ++ [a])) (.mk k t n (Z0r kids ++ [ta])) ∧
  RFr w0 (w2.setCell ⟨b,3,none⟩ (.slice (some ⟨g,0,none⟩) (kids.length + 1) cap)) rb∧(∀ x,x < B→(w2.setCell ⟨b,3,none⟩ (.slice (some ⟨g,0,none⟩) (kids.length + 1) cap)).heap[x]?=w.heap[x]?):=by
 have hnd:=N.nodup;simp only [ATree.blocks,List.nodup_cons,List.mem_append,List.nodup_append,Option.mem_toList,not_or] at hnd;obtain ⟨⟨hb1,hb2⟩,_,hk1,hk2⟩:=hnd;have hbw:b < w.heap.size:=N.at'.lt;have hb0:w0.heap.size≤b:=(N.new b (by simp [ATree.blocks])).1;have hv0:∀ x,v.ownBlock=some x→w0.heap.size≤x∧x < wA.heap.size∧x < w.heap.size:=fun x hx=>
  ⟨(N.new x (by simp [ATree.blocks,hx])).1,hNA x (by simp [ATree.blocks,hx]),(N.new x (by simp [ATree.blocks,hx])).2⟩
 have hbA:b < wA.heap.size:=hNA b (by simp [ATree.blocks]);have hs1:w.heap.size≤w2.heap.size:=Ya hB1.size hg.size;have hsz:(w2.setCell ⟨b,3,none⟩ (.slice (some ⟨g,0,none⟩) (kids.length + 1) cap)).heap.size=w2.heap.size:=Yn ..;have far2:∀ x,x < w.heap.size→v.ownBlock≠some x→w2.heap[x]?=w.heap[x]?:=fun x hx hn=>(hg.block x (Ye hx hB1.size) (fun e=>hn e.symm)).trans (hB1.block x hx)
 have far:∀ x,x < w.heap.size→x≠b→v.ownBlock≠some x→(w2.setCell ⟨b,3,none⟩ (.slice (some ⟨g,0,none⟩) (kids.length + 1) cap)).heap[x]?=w.heap[x]?:=fun x hx hxb hn=>(Yg _ _ _ _ hxb).trans (far2 x hx hn);have hgb:g≠b:=by
  rcases hat with h | h;·rintro rfl; exact hb1 h
  ·omega
 have hgA:∀ x∈a.blocks,g≠x:=fun x hx=>by
  have h1:=A.new x hx;rcases hat with h | h;·have:=hv0 g h; omega
  ·omega
 have hgk:∀ x∈Zw kids,g≠x:=fun x hx=>by
  rcases hat with h | h;·exact hk2 g h x hx
  ·have:=(N.new x (by simp [ATree.blocks,hx])).2; omega
 have hg0:w0.heap.size≤g:=by
  rcases hat with h | h;·exact (hv0 g h).1
  ·have:=F.size; omega
 refine ⟨⟨?_,?_,?_,?_⟩,⟨?_,?_,?_,?_,?_⟩,?_⟩
 ·simp only [ATree.tree,Z5q,Z0r];rw [A.tree]
 ·refine .mk ?_ N.at'.le ?_ fun x hx => ?_
  ·have h1:=(far2 b hbw hb1).trans N.at'.blkOf;exact Zm (o:=3) _ h1
  ·rw [Yq,Yu];exact Zh hown fun g' hg'=>Yg _ _ _ _ (by simp only [Value.ownBlock,Option.some.injEq] at hg'; rw [← hg']; exact hgb)
  ·rcases List.mem_append.1 hx with hx | hx
   ·have hT := N.at'.kid (k := x) hx;refine hT.keepB fun y hy => ?_;have hyk : y ∈ Zw kids := by rw [Z0y]; exact List.mem_flatMap.2 ⟨x, hx, hy⟩
    exact far y (hT.has y hy).2 (fun e=>hb2 (by rw [← e]; exact hyk)) (fun e=>hk2 y e y hyk rfl)
   ·simp only [List.mem_singleton] at hx;subst hx;refine A.at'.keepB fun y hy=>?_;have h1:=A.new y hy;exact far y h1.2 (by omega) (fun e=>by have:=hv0 y e; omega)
 ·simp only [ATree.blocks, Value.ownBlock, Z1b, Zw, List.append_nil, List.nodup_cons, List.mem_append, List.nodup_append, Option.toList, List.mem_cons, List.not_mem_nil, or_false, not_or, List.nodup_nil, not_false_eq_true, true_and];refine ⟨⟨fun e => hgb e.symm, hb2, fun hm => by have := A.new b hm; omega⟩, ⟨hk1, A.nodup, fun x hx y hy e => by have h1 := hNA x (by simp [ATree.blocks, hx]); have h2 := A.new y hy; omega⟩, ?_⟩;rintro x rfl y hy;rcases hy with hy | hy;·exact hgk y hy
  ·exact hgA y hy
 ·intro x hx;rw [hsz];simp only [ATree.blocks, Value.ownBlock, Z1b, Zw, List.append_nil, List.mem_cons, List.mem_append, Option.toList, List.not_mem_nil, or_false] at hx;rcases hx with rfl | rfl | hx | hx;·exact ⟨hb0, by omega⟩
  ·exact ⟨hg0,hgl⟩
  ·have:=N.new x (by simp [ATree.blocks,hx]); omega
  ·have:=A.new x hx; omega
 ·exact (hg.os.trans hB1.os).trans F.os
 ·exact (hg.tape.trans hB1.tape).trans F.tape
 ·exact (hg.output.trans hB1.output).trans F.output
 ·rw [hsz]; have:=F.size; omega
 ·intro x hx hn;have:=F.size;exact (far x (by omega) (by omega) (fun e=>by have:=hv0 x e; omega)).trans (F.block x hx hn)
 ·have:=F.size;exact fun x hx=>far x (by omega) (by omega) (fun e=>by have:=hv0 x e; omega)
theorem Got.cells {w0 w:World} {B b:Nat} {v:Value} {k n:Int} {tx:ByteArray} {kids:List ATree} {t:Tree} (N:Got w0 B w (.mk b v k tx n kids) t) :
 w.cell? ⟨b,0,none⟩=some (.int .i64 k)∧w.cell? ⟨b,1,none⟩=some (.string tx)∧w.cell? ⟨b,3,none⟩=some v∧(∀ j,w.frozen? ⟨b,j,none⟩=false)∧b < w.heap.size:=by
 have hb:=N.at'.blkOf;simp only [ATree.b,ATree.v,ATree.kind,ATree.text,ATree.n] at hb;exact ⟨by simp [World.cell?,hb],by simp [World.cell?,hb],by simp [World.cell?,hb],fun j=>by simp [World.frozen?,hb],(Y6.1 hb).1⟩
theorem Got.giveKids {w w1 w2:World} {rb B b:Nat} {v:Value} {k n:Int} {tx:ByteArray} {ks0 kids:List ATree} {l0 ts:List Tree} (hr:rb < B) (hB:B≤w.heap.size) (G:Got w B w1 (.mk b v k tx n ks0) (.mk k tx n l0)) (F1:RFr w w1 rb) (F12:RFr w1 w2 rb) (K:KidsAt w1 B w2 kids ts) (hl:kids.length≤1000)
 (row:Array Value) (hrow:row=(kids.map ATree.ptr).toArray) (m:Nat) (hm:m=kids.length) :
 ((w2.alloc (.cells row 22)).cell? ⟨b,3,none⟩=some v∧(w2.alloc (.cells row 22)).frozen? ⟨b,3,none⟩=false) ∧
 Got w B ((w2.alloc (.cells row 22)).setCell ⟨b,3,none⟩ (.slice (some ⟨w2.heap.size,0,none⟩) m m)) (.mk b (.slice (some ⟨w2.heap.size,0,none⟩) m m) k tx n kids) (.mk k tx n ts) ∧
 RFr w ((w2.alloc (.cells row 22)).setCell ⟨b,3,none⟩ (.slice (some ⟨w2.heap.size,0,none⟩) m m)) rb ∧
 (∀ x,x < B→((w2.alloc (.cells row 22)).setCell ⟨b,3,none⟩ (.slice (some ⟨w2.heap.size,0,none⟩) m m)).heap[x]?=w2.heap[x]?):=by
 subst hrow hm;have hal:=(Y8 w2.heap.size w2).alloc (Y5 _) (.cells (kids.map ATree.ptr).toArray 22);have hF2:=F1.trans F12;have hFF:=hF2.trans (RFr.below (rb:=rb) hal);have G2:=(G.rfr hr F12).rfr hr (RFr.below (rb:=rb) hal);obtain ⟨_,_,y3,z3,_⟩:=G2.cells;have hL:=K.lit (Ya hB hF2.size) F12.size hl;have hb1:b < w1.heap.size:=(G.new b (by simp [ATree.blocks])).2;have hap:=hL.apart hb1;obtain ⟨e1,e2,e3⟩:=Got.kids0 hr hB G2.at' (G.new b (by simp [ATree.blocks])).1 (hL.pre (w0:=w) F1.size) hap.1 hap.2 hFF
 refine ⟨⟨y3,z3 3⟩,e1,e2,fun x hx=>(e3 x hx).trans (hal.block x ?_)⟩;have:=hF2.size; omega
theorem Got.pushT {w0 wA w w1 w2:World} {rb B b g cap:Nat} {v:Value} {k n:Int} {t:ByteArray} {kids:List ATree} {a:ATree} {ts:List Tree} {ta:Tree} (hr:rb < B) (hB0:B≤w0.heap.size)
 (N:Got w0 B w (.mk b v k t n kids) (.mk k t n ts)) (hNA:∀ x∈(ATree.mk b v k t n kids).blocks,x < wA.heap.size) (A:Got wA B w a ta) (F:RFr w0 w rb)
 (hB1:Below w.heap.size w w1) (hg:w1.grownBy w2 v.ownBlock) (hown:w2.ownsRow B 22 1 (.slice (some ⟨g,0,none⟩) (kids.length + 1) cap) (kids.length + 1) (kids.map ATree.ptr ++ [a.ptr]))
 (hat:v.ownBlock=some g∨w.heap.size≤g) (hgl:g < w2.heap.size) :
 Got w0 B (w2.setCell ⟨b,3,none⟩ (.slice (some ⟨g,0,none⟩) (kids.length + 1) cap)) (.mk b (.slice (some ⟨g,0,none⟩) (kids.length + 1) cap) k t n (kids ++ [a])) (.mk k t n (ts ++ [ta])) ∧
  RFr w0 (w2.setCell ⟨b,3,none⟩ (.slice (some ⟨g,0,none⟩) (kids.length + 1) cap)) rb∧(∀ x,x < B→(w2.setCell ⟨b,3,none⟩ (.slice (some ⟨g,0,none⟩) (kids.length + 1) cap)).heap[x]?=w.heap[x]?):=by
 have e:Z0r kids=ts:=by
  have:=N.tree;simp only [ATree.tree,Tree.mk.injEq,true_and] at this;exact this
 subst e;exact Got.pushQ hr hB0 N hNA A F hB1 hg hown hat hgl
theorem Z5s {P:Program} (w:World) (base:Nat) (t ty e:TypeId) (i:TypeInfo) (size:Nat) (ht:P.underlying t=some (.slice e)) (hi:P.info? e=some i)
 (v:Value) (n:Nat) (xs:List Value) (hown:w.ownsRow base e size v n xs) (p:Option Addr) (c:Nat) :
 (Builtin.append_ #[t,t] ty #[v,.slice p 0 c]).run P w=.ok v w:=by
 rcases hown.2 with ⟨rfl,rfl⟩ | ⟨g,cap,cur,rfl,_,_,hnc,_⟩;·cases p <;> simp [Builtin.append_,run_underlying ht,sizeOf,typeInfo,hi,Builtin.lenOf,Builtin.firstCells,loadCells,loadCellsFrom,Result.andThen]
 ·cases p <;> simp [Builtin.append_,run_underlying ht,sizeOf,typeInfo,hi,Builtin.lenOf,Builtin.firstCells,hnc,storeCells,loadCells,loadCellsFrom,Result.andThen]
theorem Z39 {P:Program} {w:World} {ops:Array Oper} {rest:List Oper} {o:Oper} {a:Act} {Q:Exit→Act→World→Prop} (hgd:o.guard=none) (s x:Operand) (t:TypeId)
 (ho:o.op=.call { callee:=.builtin .append,args:=#[s,x],argTypes:=#[t,t] })
 (base:Nat) (e:TypeId) (i:TypeInfo) (size:Nat) (ht:P.underlying t=some (.slice e)) (hi:P.info? e=some i)
 (v:Value) (n:Nat) (xs:List Value) (hs:a.eval s=v) (hown:w.ownsRow base e size v n xs) (p:Option Addr) (c:Nat) (hx:a.eval x=.slice p 0 c)
 (h:wpList P ops Q rest (a.put o.dst v) w):wpList P ops Q (o :: rest) a w:=by
 refine wpList_plain hgd fun K hK=>?_;have hrun:=Z5s (P:=P) w base t o.type e i size ht hi v n xs hown p c;unfold Oper.wp;simp [execOp,ho,resolve,invoke,builtin,hs,hx,hrun,Result.andThen];exact hK _ _ h
theorem Zi3 {l:List ByteArray} {k:Nat} {x s:ByteArray} (h:∀ j y,j < k→l[j]?=some y→y≠s) (hx:l[k]?=some x) (hn:x≠s):∀ j y,j < k + 1→l[j]?=some y→y≠s:=by
 intro j y hj hy;by_cases e:j=k
 ·subst e;rw [hx] at hy;cases hy;exact hn
 ·exact h j y (by omega) hy
theorem Zdd {l:List ByteArray} {s:ByteArray} (h:∀ j y,j < l.length→l[j]?=some y→y≠s):Lib.containsS l s=false:=by
 cases e:Lib.containsS l s with
 | false=>rfl
 | true =>
   exfalso;have hm:s∈l:=(Lib.containsS_iff _ _).1 e;obtain ⟨j,hj,hy⟩:=List.getElem_of_mem hm;exact h j s hj (by rw [Yd hj,hy]) rfl
theorem Zc8 {l:List ByteArray} {s:ByteArray} {k:Nat} (h:l[k]?=some s):Lib.containsS l s=true:=by
 exact (Lib.containsS_iff _ _).2 (Yl h)
theorem Zg4 {w:World} {B:Nat} {v:Value} {l:List ByteArray} (hv:Zp w B v l) (s:ByteArray) :
 Calls Tryz.prog 14 #[v,.string s] w fun e w'=>e=.returned (.bool (Lib.containsS l s))∧w'=w:=by
 obtain ⟨p,cp,rfl,hge,hmx⟩:∃ p cp,v=.slice p l.length cp∧l.length≤cp∧cp≤maxLen:=by
  rcases hv.form with ⟨h1,h2⟩ | ⟨g,cap,h1,h2,h3⟩;·exact ⟨none,0,by rw [h1,h2]; rfl,by rw [h2]; exact Y5 _,by unfold maxLen; omega⟩
  ·exact ⟨_,_,h1,h2,h3⟩
 unfold maxLen at hmx;obtain ⟨n,hn⟩:=zX l.length
 have HV:=lh hv;rw [← hn] at hge HV ⊢;have HN:=lh hn;clear hv hn;go_enter Tryz.func14,Tryz.ntmps14
 go_wp2_with fail
 go_loopw [9] (fun i wr=>∃ k:Nat,k≤n∧i=.int .i64 k∧wr=w∧Hid (∀ j y,j < k→l[j]?=some y→y≠s)) (fun i _=>n - (intOf i).toNat)
 case atStart=>exact ⟨0,Yp _,rfl,rfl,lh (fun j y hj=>by omega)⟩
 case round=>
  obtain ⟨k,hk,rfl,rfl,NO⟩:=hrel;by_cases hkn:k < n
  ·obtain ⟨x, hx⟩ : ∃ x, l[k]? = some x := ⟨_, Yd (by rw [← HN.out]; exact hkn)⟩
   obtain ⟨g0,hp⟩:∃ g,p=some ⟨g,0,none⟩:=by
    rcases HV.out.form with ⟨h1,h2⟩ | ⟨g,cap,h1,_⟩;·rw [h2] at hx; simp at hx
    ·simp only [Value.slice.injEq] at h1; exact ⟨g,h1.1⟩
   subst hp;have cx:=HV.out.cells rfl hx;have HX:=lh hx;clear hx;by_cases hs:x=s
   ·subst hs;have hb:(x.toList == x.toList)=true:=beq_self_eq_true _;go_wp2;go_ret;rw [Zc8 HX.out];exact ⟨rfl,rfl⟩
   ·have hb:(x.toList == s.toList)=false:=by
     have h:¬ x.toList=s.toList:=fun h=>hs (Z2f h);simpa using h
    have HS:=lh hs;clear hs;go_wp2;go_roundw
    case rel=>exact ⟨k + 1,by omega,by go_num,by first | rfl | trivial,lh (Zi3 NO.out HX.out HS.out)⟩
    case measure=>simp [intOf]; omega
  ·have hk2 : k = n := by omega
   subst hk2;go_wp2;go_ret;rw [Zdd (by rw [← HN.out]; exact NO.out)];exact ⟨rfl,rfl⟩
theorem Z4l (w:World) (B:Nat) (v:Value) (l:List ByteArray) (s:ByteArray) (hv:Zp w B v l) (hB:B≤w.heap.size) (hn:l.length < 1099511627776) :
 Calls Tryz.prog 39 #[v,.string s] w fun e w'=>∃ v',e=.returned v'∧Zp w' B v' (addL l s)∧Below w.heap.size w w':=by
 obtain ⟨i0,hi,hz0,hz1,hz2⟩:=info_parts Tryz.infoStr;have HH:=lh (Zg4 hv s);have HV:=lh hv;have HBB:=lh hB;unfold addL;cases hc:Lib.containsS l s with
 | true =>
   rw [hc] at HH;clear hv hn hc;go_enter Tryz.func39,Tryz.ntmps39
   go_wp2_with fail
   refine HH.out.mono ?_;rintro e w1 ⟨rfl,rfl⟩;go_wp2;go_ret;exact ⟨v,rfl,HV.out,Y8 _ _⟩
 | false =>
   rw [hc] at HH;have hal:Below w.heap.size w (w.alloc (.cells #[] 9)):=(Y8 _ _).alloc (Y5 _) _;have hrow:(w.alloc (.cells #[] 9)).ownsRow w.heap.size 9 1 (.slice (some ⟨w.heap.size,0,none⟩) 0 0) 0 []:=
    ⟨by simp,.inr ⟨w.heap.size,0,#[],rfl,Y5 _,heap_alloc_new w _,by simp,by unfold maxLen; omega,by simp,by simp⟩⟩
   have ROW:=lh hrow;have HAL:=lh hal;clear hrow hal hc;by_cases hl:l=[]
   ·obtain ⟨p,c,rfl⟩:∃ p c,v=.slice p 0 c:=by
     rcases hv.form with ⟨h1,_⟩ | ⟨g,cap,h1,_⟩;·exact ⟨none,0,h1⟩
     ·exact ⟨some ⟨g,0,none⟩,cap,by rw [h1,hl]; rfl⟩
    subst hl;clear hv hn;go_enter Tryz.func39,Tryz.ntmps39
    go_wp2_with fail
    refine HH.out.mono ?_;rintro e w1 ⟨rfl,rfl⟩
    go_wp2_with (at_builtin; first | (refine Z39 rfl (.tmp 9) (.tmp 10) 26 rfl w1.heap.size 9 i0 1 Tryz.underlying26 hi (.slice (some ⟨w1.heap.size,0,none⟩) 0 0) 0 [] rfl ROW.out p c rfl ?_) | (refine wpList_append_lies _ rfl (.tmp 11) (.tmp 13) 26 rfl w1.heap.size 9 i0 (.string ByteArray.empty) 1 16 Tryz.underlying26 hi hz0 hz1 hz2 rfl (by decide) (.slice (some ⟨w1.heap.size,0,none⟩) 0 0) 0 [] rfl (ROW.out.alloc _) ⟨w1.heap.size + 1,0,none⟩ 1 1 [.string s] rfl rfl (Yi (cs:=#[.string s]) (t:=9) (fr:=(0,0)) (by have:=heap_alloc_new (w1.alloc (.cells #[] 9)) (.cells #[.string s] 9); simpa using this)) (by intro u hu; simp at hu; subst hu; rfl) (by omega) (by unfold maxLen; omega) (by omega) (by simp; omega) (w1.heap.size + 1 + 1) (by simp) ?_; intro g2 cap2 w2 hown2 hgrow2 hat2 hgl2; have HG:=lh hgrow2; have HW:=lh hown2; clear hgrow2 hown2 hat2 hgl2))
    go_ret;refine ⟨_,rfl,Zp.base (B:=w1.heap.size) HW.out HBB.out,?_⟩;exact (HAL.out.alloc (by simp) _).grown HG.out (by simp; omega) fun k hk=>by
     simp only [Value.ownBlock,Option.some.injEq] at hk;omega
   ·rcases hv.form with ⟨_, h2⟩ | ⟨g, cap, rfl, hle, hm⟩;·exact absurd h2 hl
    have hpos:0 < l.length:=List.length_pos_iff.2 hl;have hglt:=(Yh hv g rfl).2;have NEWS:=lh (show ∀ (j:Nat) (u:Value),(l.map Value.string)[j]?=some u→(w.alloc (.cells #[] 9)).cell? ((⟨g,0,none⟩:Addr).add j)=some u from fun j u hu=>by
     have hadd:(⟨g,0,none⟩:Addr).add j=⟨g,j,none⟩:=by unfold Addr.add; split <;> simp_all
     rw [hadd];exact (Z4 hglt).trans (Zl hv (g:=g) rfl hu))
    obtain ⟨n,hnn⟩:=zX l.length
    rw [← hnn] at HH HV hpos hn hle ⊢;have HN:=lh hnn;clear hv hnn hl;go_enter Tryz.func39,Tryz.ntmps39
    go_wp2_with fail
    refine HH.out.mono ?_;rintro e w1 ⟨rfl,rfl⟩
    go_wp2_with (at_builtin; first | (refine wpList_append_lies _ rfl (.tmp 9) (.tmp 10) 26 rfl w1.heap.size 9 i0 (.string ByteArray.empty) 1 16 Tryz.underlying26 hi hz0 hz1 hz2 rfl (by decide) (.slice (some ⟨w1.heap.size,0,none⟩) 0 0) 0 [] rfl ROW.out ⟨g,0,none⟩ n cap (l.map Value.string) rfl (by simp [HN.out]) NEWS.out (fun u hu=>by obtain ⟨z,_,rfl⟩:=List.mem_map.1 hu; rfl) (by omega) (by unfold maxLen; omega) (by omega) (by simp) (w1.heap.size + 1) (by simp) ?_; intro g2 cap2 w2 hown2 hgrow2 hat2 hgl2; have HG:=lh hgrow2; have HW:=lh (show w2.ownsRow w1.heap.size 9 1 (.slice (some ⟨g2,0,none⟩) n cap2) n (l.map Value.string) from by rw [Nat.zero_add,List.nil_append] at hown2; exact hown2); have HS2:=hgrow2.size; clear hgrow2 hown2 hat2 hgl2) | (go_must (refine wpList_append_lies _ rfl (.tmp 11) (.tmp 13) 26 rfl w1.heap.size 9 i0 (.string ByteArray.empty) 1 16 Tryz.underlying26 hi hz0 hz1 hz2 rfl (by decide) (.slice (some ⟨g2,0,none⟩) n cap2) n (l.map Value.string) rfl (HW.out.alloc _) ⟨w2.heap.size,0,none⟩ 1 1 [.string s] rfl rfl (Yi (cs:=#[.string s]) (t:=9) (fr:=(0,0)) (heap_alloc_new w2 _)) (by intro u hu; simp at hu; subst hu; rfl) (by omega) (by unfold maxLen; omega) (by omega) (by simp at HS2 ⊢; omega) (w2.heap.size + 1) (by simp) ?_); intro g3 cap3 w3 hown3 hgrow3 hat3 hgl3; have HG3:=lh hgrow3; have HW3:=lh hown3; clear hgrow3 hown3 hat3 hgl3))
    go_ret;refine ⟨_,rfl,?_,?_⟩
    ·have h1:=HW3.out;have h2:Zp w3 w1.heap.size (.slice (some ⟨g3,0,none⟩) (n + 1) cap3) (l ++ [s]):=by
      unfold Zp;rw [Yq,Yu,← HN.out];exact h1
     exact Zp.base h2 HBB.out
    ·have hb1:=HAL.out.grown HG.out (by simp) fun k hk=>by
      simp only [Value.ownBlock,Option.some.injEq] at hk;omega
     exact (hb1.alloc hb1.size _).grown HG3.out (by have:=hb1.size; simp; omega) fun k hk=>(Yh HW.out k hk).1
theorem Z22 (a:ATree):a.kids.length < a.many:=by
 have key:∀ l:List ATree,l.length≤Z0w l:=by
  intro l;induction l with
  | nil=>simp [Z0w]
  | cons x l ih =>
    simp only [Z0w,List.length_cons];have:0 < x.many:=by cases x; simp [ATree.many]
    omega
 obtain ⟨b,v,k,t,n,ks⟩:=a;have:=key ks;simp only [ATree.kids,ATree.many];omega
theorem Zdt {l:List ATree} {k:Nat}:(Z2e (l.take k)).length≤(Z2e l).length:=by
 have e:Z2e l=Z2e (l.take k) ++ Z2e (l.drop k):=by rw [← Zb3,List.take_append_drop]
 rw [e,Yq]; omega
theorem Zem {l:List ATree} {k:Nat} {x:ATree} (h:l[k]?=some x):Z2e (l.take (k + 1))=Z2e (l.take k) ++ x.subs:=by
 rw [Z0v h,Zb3]; simp [Z2e]
theorem Zdl (a:ATree):0 < a.subs.length:=by rw [Zcu]; simp
theorem Zjp (n0:Nat):∀ (a:ATree),a.many≤n0→a.many≤100000→∀ (w:World) (B0:Nat),TreeAt w B0 a →
 Calls Tryz.prog 23 #[a.ptr] w fun e w'=>∃ v,e=.returned v∧Z0x w' w.heap.size v a.subs∧Below w.heap.size w w':=by
 induction n0 with
 | zero=>intro a h; cases a; simp [ATree.many] at h
 | succ n0 ih=>
 intro a hn hmx w B0 hT;obtain ⟨i0,hi,hz0,hz1,hz2⟩:=info_parts Tryz.infoPtr;have HIH:=lh ih;have hblk:=hT.blkOf;have hrow:=hT.rowOf;obtain ⟨p,cp,hv,hge⟩:∃ p cp,a.v=.slice p a.kids.length cp∧a.kids.length≤cp:=by
  rcases Za hrow with ⟨h1,h2⟩ | ⟨g0,cap0,h1,h2,_⟩;·exact ⟨none,0,by rw [h1,h2],by omega⟩
  ·exact ⟨_,_,h1,h2⟩
 have c3:w.cell? ⟨a.b,3,none⟩=some (.slice p a.kids.length cp):=by rw [← hv]; simp [World.cell?,hblk]
 have hkm:=Z22 a;have hlen:a.kids.length≤100000:=by omega
 have hab:a.b < w.heap.size:=hT.lt;have HT:=lh hT;have HV:=lh hv;have HNN:=lh hn;have HMX:=lh hmx;have hsl:(a :: Z2e a.kids).length≤100000:=by rw [← Zcu,Z8y]; exact hmx
 have HSL:=lh hsl;have ST:=lh (show Z0x (w.alloc (.cells #[a.ptr] 22)) w.heap.size (.slice (some ⟨w.heap.size,0,none⟩) 1 1) (a :: Z2e (a.kids.take 0)) from Zd9 (l:=[a]) (Y5 _) (by simp));have SB:=lh ((Y8 w.heap.size w).alloc (Y5 _) (.cells #[a.ptr] 22));unfold ATree.ptr at ST SB ⊢;obtain ⟨n,hnn⟩:=zX a.kids.length
 rw [← hnn] at c3 hlen hge;have HN:=lh hnn;have HC3:=lh c3;have c3':(w.alloc (.cells #[.pointer (some ⟨a.b,0,none⟩)] 22)).cell? ⟨a.b,3,none⟩=some (.slice p n cp):=(Z4 hab).trans c3;clear hblk hrow hv hnn hT hkm hsl ih hn hmx;go_enter Tryz.func23,Tryz.ntmps23
 go_wp2_with fail
 go_loopw [3,15] (fun v i wr=>∃ (k:Nat) (v':Value),v'=v∧k≤n∧i=.int .i64 k∧Hid (Z0x wr w.heap.size v' (a :: Z2e (a.kids.take k)))∧Hid (Below w.heap.size w wr)) (fun _ i _=>n - (intOf i).toNat)
 case atStart=>exact ⟨0,_,rfl,Yp _,rfl,ST,SB⟩
 case round=>
  obtain ⟨k,v,rfl,hk,rfl,HR,HB⟩:=hrel;clear ST SB;by_cases hkn:k < n
  ·obtain ⟨x, hx⟩ : ∃ x, a.kids[k]? = some x := ⟨_, Yd (by rw [← HN.out]; exact hkn)⟩
   have hT2:=HT.out.bel HB.out;have hrow:=hT2.rowOf;rcases Za hrow with ⟨_,h2⟩ | ⟨g0,cap0,hv0,_⟩;·rw [← HN.out] at h2; omega
   have hp:p=some ⟨g0,0,none⟩:=by
    have:=HV.out.symm.trans hv0;simp only [Value.slice.injEq] at this;exact this.1
   subst hp;have cx:=Zl hrow (g:=g0) (by rw [hv0]; rfl) (i:=k) (x:=x.ptr) (by rw [Yo,hx]; rfl);unfold ATree.ptr at cx;have hmem:=Yl hx;have hTx:=hT2.kid hmem;have hxm:=Z1t hmem;have HC:=lh (HIH.out x (by have:=HNN.out; omega) (by have:=HMX.out; omega) wr B0 hTx);have HNX:=lh (Zem hx);have HPO:=lh (Zdl x);have HL2:=lh (show (a :: Z2e (a.kids.take (k + 1))).length≤100000 from Ya (by simp only [List.length_cons]; have:=Zdt (l:=a.kids) (k:=k + 1); omega) HSL.out);unfold ATree.ptr at HC;clear hT2 hrow hv0 hTx hxm hmem hx
   go_wp2_with fail
   refine HC.out.mono ?_;rintro e w1 ⟨vk,rfl,hNk,hB1⟩;obtain ⟨L,hL⟩:=zX (a :: Z2e (a.kids.take k))
   have hNR:=HR.out;rw [← hL] at hNR;rcases hNk.form with ⟨_,h2⟩ | ⟨g1,cap1,rfl,hc1,hc2⟩;·have:=HPO.out; rw [h2] at this; simp at this
   have hL2:=HL2.out;have hLx:L ++ x.subs=a :: Z2e (a.kids.take (k + 1)):=by rw [HNX.out,hL]; rfl
   rw [← hLx,Yq] at hL2;have HLX:=lh hLx;have hR1:Z0x w1 w.heap.size v L:=Zh hNR fun j hj=>hB1.block j (Yh hNR j hj).2;have hg1:wr.heap.size≤g1∧g1 < w1.heap.size:=Yh hNk g1 rfl;have NEWS:=lh (show ∀ (j:Nat) (u:Value),(x.subs.map ATree.ptr)[j]?=some u→w1.cell? ((⟨g1,0,none⟩:Addr).add j)=some u from fun j u hu=>by
    have hadd:(⟨g1,0,none⟩:Addr).add j=⟨g1,j,none⟩:=by unfold Addr.add; split <;> simp_all
    rw [hadd];exact Zl hNk (g:=g1) rfl hu)
   obtain ⟨m,hm⟩:=zX x.subs.length
   have hm0:0 < m:=by rw [hm]; exact HPO.out
   have hLm:L.length + m≤100000:=by rw [hm]; exact hL2
   rw [← hm] at hc1 ⊢;have HM:=lh hm;have HNR:=lh hR1;have HNR0:=lh hNR;have HB1:=lh hB1;have HNF:=lh (show v.ownBlock≠some g1 from fun e=>by have:=(Yh hNR g1 e).2; omega);have HG1:=lh hg1;have hBS:=HB.out.size;have hB1s:=hB1.size;clear hNk hL hNR hL2 hLx hR1 hg1 hm hB1 HC HR HNX HL2
   go_wp2_with (at_builtin; go_must (refine wpList_append_lies _ rfl (.tmp 19) (.tmp 21) 44 rfl w.heap.size 22 i0 _ 1 8 Tryz.underlying44 hi hz0 hz1 hz2 rfl (by decide) v L.length (L.map ATree.ptr) rfl HNR.out ⟨g1,0,none⟩ m cap1 (x.subs.map ATree.ptr) rfl (by simp [HM.out]) NEWS.out (fun u hu=>by obtain ⟨z,_,rfl⟩:=List.mem_map.1 hu; rfl) (by omega) (by unfold maxLen; omega) (by omega) (by omega) w1.heap.size (by simp) ?_); intro gg cap w2 hown2 hgrow2 hat2 hgl2; have HG:=lh hgrow2; have HW:=lh hown2; clear hgrow2 hown2 hat2 hgl2)
   go_roundw
   case rel=>
    refine ⟨k + 1,_,rfl,by omega,by go_num,lh ?_,lh ?_⟩
    ·rw [← HLX.out];unfold Z0x;rw [Yq,Yu,← HM.out];exact HW.out
    ·exact (HB.out.trans (HB1.out.mono hBS)).grown HG.out (by omega) fun j hj=>(Yh HNR0.out j hj).1
   case measure=>simp [intOf]; omega
  ·have hk2 : k = n := by omega
   subst hk2;go_wp2;go_ret;refine ⟨_,rfl,?_,HB.out⟩;have:=HR.out;rwa [Ym (by rw [← HN.out]; exact Y5 _),← Zcu] at this
end Go.Proofs.YtmjfllklcpjddaaGreatDoor
