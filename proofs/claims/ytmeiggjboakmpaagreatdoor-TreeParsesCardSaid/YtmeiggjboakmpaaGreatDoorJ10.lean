/- The document's parser: a statement that is a value has one; braces. -/
import Derived.Test.YtmeiggjboakmpaaGreatDoorJ09
import Derived.LaidEql
import Derived.WalkMore
import Derived.ScopeJumps
namespace Go.Proofs.YtmeiggjboakmpaaGreatDoor
open Go Go.RowKit
set_option maxRecDepth 100000
set_option maxHeartbeats 20000000
theorem Zc3 {f d:Nat} {b:Bool} {σ σ':RS} {t:Tree} (h:refF f (.braces b) d σ=some (t,σ')):t.kind=6:=by
 cases f with
 | zero=>simp [refF] at h
 | succ f =>
   rw [refF] at h;obtain ⟨l,σ1,_,h⟩:=Zn h;simp only [Option.some.injEq,Prod.mk.injEq] at h;rw [← h.1]; rfl
theorem Zf2 {f d:Nat} {k:Int} {s:ByteArray} {σ σ':RS} {t:Tree} (h:refF f (.func k s) d σ=some (t,σ')):t.kind=k:=by
 cases f with
 | zero=>simp [refF] at h
 | succ f =>
   rw [refF] at h;obtain ⟨l,σ1,_,h⟩:=Zn h;obtain ⟨l,σ1,_,h⟩:=Zn h;simp only [Option.some.injEq,Prod.mk.injEq] at h;rw [← h.1]; rfl
theorem Zj3 (σ:RS):Z48 σ≠15:=by
 unfold Z48;split;·decide
 ·split;·decide
  ·split <;> decide
theorem Z86 {a t:Tree} {σ σ':RS} (h:some (a,σ)=some (t,σ')):a=t:=by simp only [Option.some.injEq,Prod.mk.injEq] at h; exact h.1
theorem Z7v {f d:Nat} {σ σ':RS} {t:Tree} (h:refF f .stmt d σ=some (t,σ')) (hk:t.kind=15):t.kids≠[]:=by
 cases f with
 | zero=>simp [refF] at h
 | succ f=>
 rw [refF] at h;by_cases c:30 < d
 ·rw [Yb c] at h;rw [← Z86 h] at hk; cases hk
 rw [Y9 c] at h;by_cases c:Zl Zi σ=true;·rw [Yb c] at h; have:=Zc3 h; omega
 rw [Y9 c] at h;by_cases c:Zl Zs σ=true;·rw [Yb c] at h; rw [← Z86 h] at hk; cases hk
 rw [Y9 c] at h;by_cases c:Zl Ze σ=true;·rw [Yb c] at h; have:=Zf2 h; omega
 rw [Y9 c] at h;by_cases c:Zl s_if σ=true
 ·rw [Yb c] at h;obtain ⟨_, _, _, h⟩ := Zn h;obtain ⟨_, σ2, _, h⟩ := Zn h;try simp only at h
  split at h
  ·obtain ⟨_,_,_,h⟩:=Zn h;rw [← Z86 h] at hk; cases hk
  ·rw [← Z86 h] at hk; cases hk
 rw [Y9 c] at h;by_cases c:(Zl Zz σ || Zl Z0d σ)=true
 ·rw [Yb c] at h;obtain ⟨_,_,_,h⟩:=Zn h;obtain ⟨_,_,_,h⟩:=Zn h;rw [← Z86 h] at hk;simp only [Tree.kind] at hk;split at hk <;> cases hk
 rw [Y9 c] at h;by_cases c:Zl Z1j σ=true
 ·rw [Yb c] at h;obtain ⟨_,_,_,h⟩:=Zn h;have key:∀ (l:List Tree) (σ1:RS),(if Zl Zt σ1=true then Z0n (refF f (.braces false) d (advR σ1)) fun c σ=>tryF (l ++ [.mk 14 ByteArray.empty 0 [c]]) σ else tryF l σ1)=some (t,σ')→t.kind=12:=by
   intro l σ1 h;split at h
   ·obtain ⟨_,_,_,h⟩:=Zn h;unfold tryF at h;rw [← Z86 h]; rfl
   ·unfold tryF at h;rw [← Z86 h]; rfl
  try simp only at h
  split at h
  ·obtain ⟨_,_,_,h⟩:=Zn h;have:=key _ _ h; omega
  ·have:=key _ _ h; omega
 rw [Y9 c] at h;by_cases c:Z48 σ≠0
 ·rw [Yb c] at h;have hd := Zj3 σ;split at h
  ·obtain ⟨_,_,_,h⟩:=Zn h;rw [← Z86 h] at hk; exact absurd hk hd
  ·rw [← Z86 h] at hk; exact absurd hk hd
 rw [Y9 c] at h;by_cases c:Zl Z08 σ=true
 ·rw [Yb c] at h;split at h;·rw [← Z86 h] at hk; cases hk
  ·obtain ⟨_,_,_,h⟩:=Zn h;rw [← Z86 h] at hk; cases hk
 rw [Y9 c] at h;by_cases c:Zl Z0s σ=true
 ·rw [Yb c] at h;obtain ⟨_,_,_,h⟩:=Zn h;rw [← Z86 h] at hk; cases hk
 rw [Y9 c] at h;obtain ⟨_,_,_,h⟩:=Zn h;rw [← Z86 h];simp [Tree.kids]
def BInv (w0:World) (C:QC) (B d f:Nat) (t:Tree) (σ':RS) (g:Nat) (v:Value) (wr:World):Prop:=
 ∃ (acc:List Tree) (kids:List ATree) (σ:RS),refF g (.bracesL acc) d σ=some (t,σ')∧ListAt w0 B wr v kids acc∧QS wr C σ∧RFr w0 wr C.rb∧acc.length + g≤f∧∀ x∈acc,x.kind=15→x.kids≠[]
theorem Z9n (f:Nat) (hS:∀ g,g < f→Z1s 13 qd .stmt g):Z1s 34 (Zau false) (.braces false) (f + 1):=by
 intro w C B d σ t σ' hQ hr hB hd hp;rw [refF] at hp;obtain ⟨l,σ1,hl,hp⟩:=Zn hp;simp only [Option.some.injEq,Prod.mk.injEq] at hp;have HP:=lh hp;have HM:=lh (Z0w hQ Zi B hr hB);have HR:=lh hr;have HB:=lh hB;have HD:=lh hd;have HS:=lh hS;have HL:=lh hl;clear hQ hB hr hp hd hS hl;unfold Zau;go_enter Tryz.func34,Tryz.ntmps34
 go_wp2_with fail
 refine HM.out.mono ?_;rintro e w0 ⟨rfl,h1,h2⟩;have ST:=lh (show ∃ g,g≤f∧BInv w0 C B d f l σ1 g (.slice none 0 0) w0 from ⟨f,Y5 _,[],[],_,HL.out,ListAt.nil,h1,RFr.refl _ _,by simp,fun x hx=>by cases hx⟩);have F0:=lh h2;clear h1 h2 HM;go_wp2_with fail
 go_loopw [7] (fun v wr=>∃ g,g≤f∧BInv w0 C B d f l σ1 g v wr) (fun v wr=>least fun g=>g≤f∧BInv w0 C B d f l σ1 g v wr)
 case atStart=>exact ST.out
 case round=>
  have hI:=Z41 hrel;clear ST;obtain ⟨g,hg⟩:=zX (least fun g=>g≤f∧BInv w0 C B d f l σ1 g u7 wr)
  rw [← hg] at hI;have HG:=lh hg;clear hg hrel;obtain ⟨hgF,acc,kids,σ,hp,hL,hQ,hF,h8,hx⟩:=hI;cases g with
  | zero=>simp [refF] at hp
  | succ g=>
  rw [refF] at hp;have HO:=Z2f hQ;have HN:=Zk hQ Z01;obtain ⟨p,cp,rfl⟩:=hL.slice;have HL:=lh hL;have HQ:=lh hQ;have HF:=lh hF;have H8:=lh h8;have HX:=lh hx;have HGF:=lh hgF;by_cases hf:σ.f.isNone=true;rotate_left
  ·have hf : σ.f.isNone = false := Bool.eq_false_iff.2 hf;rw [hf] at HO;rw [Y9 (by simp [hf])] at hp;simp only [Option.some.injEq, Prod.mk.injEq] at hp;have HO := lh HO;have HE := lh hp;have F1 := HF;have Q1 := HQ;clear hL hQ hF h8 hgF hf hp HN hx;go_wp2_with fail
   refine HO.out.mono ?_;rintro e w1 ⟨rfl,rfl⟩;go_wp2_with fail
   refine (Z0w Q1.out Z01 B HR.out (Ya HB.out (F0.out.trans F1.out).size)).mono ?_;rintro e w2 ⟨rfl,h2,h3⟩;have F2:=lh ((F0.out.trans F1.out).trans h3);have L2:=lh (HL.out.rfr HR.out h3);have hal:Below w2.heap.size w2 (w2.alloc (.cells #[.int .i64 6,.string ⟨#[]⟩,.int .i64 0,.slice p acc.length cp] 38)):=(Y8 _ _).alloc (Y5 _) _;have N3:=lh ((L2.out.pre F0.out.size).node (k:=6) (tx:=⟨#[]⟩) (n:=0) (Ya HB.out F2.out.size) F2.out.size);have Q3:=lh (h2.below hal);have F3:=lh (F2.out.trans (RFr.below (rb:=C.rb) hal))
   have L3:=lh (L2.out.rfr HR.out (RFr.below (rb:=C.rb) hal));clear h2 h3 hal;go_wp2;go_ret;obtain ⟨h4,h5⟩:=HE.out;obtain ⟨h6,h7⟩:=HP.out;refine ⟨.mk w2.heap.size (.slice p acc.length cp) 6 ⟨#[]⟩ 0 kids,rfl,?_,by rw [← h7,← h5]; exact Q3.out,F3.out⟩;rw [← h6,← h4];exact N3.out
  rw [hf] at HO;by_cases hn:Zl Z01 σ=true
  ·rw [hn] at HN;rw [Y9 (by simp [hn])] at hp;simp only [Option.some.injEq, Prod.mk.injEq] at hp;have HO := lh HO;have HN := lh HN;have HE := lh hp;clear hL hQ hF h8 hgF hf hn hp hx;go_wp2_with fail
   refine HO.out.mono ?_;rintro e w1 ⟨rfl,rfl⟩;go_wp2_with fail
   refine HN.out.mono ?_;rintro e w1 ⟨rfl,hb1⟩;have Q1:=lh (HQ.out.below hb1);have F1:=lh (HF.out.trans (RFr.below (rb:=C.rb) hb1));replace HL:=lh (HL.out.rfr HR.out (RFr.below (rb:=C.rb) hb1))
   clear hb1;go_wp2_with fail
   refine (Z0w Q1.out Z01 B HR.out (Ya HB.out (F0.out.trans F1.out).size)).mono ?_;rintro e w2 ⟨rfl,h2,h3⟩;have F2:=lh ((F0.out.trans F1.out).trans h3);have L2:=lh (HL.out.rfr HR.out h3);have hal:Below w2.heap.size w2 (w2.alloc (.cells #[.int .i64 6,.string ⟨#[]⟩,.int .i64 0,.slice p acc.length cp] 38)):=(Y8 _ _).alloc (Y5 _) _;have N3:=lh ((L2.out.pre F0.out.size).node (k:=6) (tx:=⟨#[]⟩) (n:=0) (Ya HB.out F2.out.size) F2.out.size);have Q3:=lh (h2.below hal);have F3:=lh (F2.out.trans (RFr.below (rb:=C.rb) hal))
   have L3:=lh (L2.out.rfr HR.out (RFr.below (rb:=C.rb) hal));clear h2 h3 hal;go_wp2;go_ret;obtain ⟨h4,h5⟩:=HE.out;obtain ⟨h6,h7⟩:=HP.out;refine ⟨.mk w2.heap.size (.slice p acc.length cp) 6 ⟨#[]⟩ 0 kids,rfl,?_,by rw [← h7,← h5]; exact Q3.out,F3.out⟩;rw [← h6,← h4];exact N3.out
  have hn:Zl Z01 σ=false:=by simpa using hn
  rw [hn] at HN;rw [Yb (by simp [hn,hf])] at hp;obtain ⟨x,σ3,hit,hrest⟩:=Zn hp;have IT:=lh hit;have RE:=lh hrest;have HO:=lh HO;have HN:=lh HN;have HK:=lh (hL.len);have XX:=lh (fun hk=>Z7v hit hk);obtain ⟨i0,hi,hz0,hz1,hz2⟩:=info_parts Tryz.infoPtr;clear hL hQ hF h8 hgF hn hp hit hrest hx hf;go_wp2_with fail
  refine HO.out.mono ?_;rintro e w1 ⟨rfl,rfl⟩;go_wp2_with fail
  refine HN.out.mono ?_;rintro e w1 ⟨rfl,hb1⟩;have Q1:=lh (HQ.out.below hb1);have F1:=lh (HF.out.trans (RFr.below (rb:=C.rb) hb1));have L1:=lh (HL.out.rfr HR.out (RFr.below (rb:=C.rb) hb1));have hdd:=HD.out;clear hb1 HO HN HQ HF HL;go_wp2_with fail
  refine (HS.out g (by have:=HGF.out; omega) w1 C B (d + 1) _ _ _ Q1.out HR.out (Ya HB.out (F0.out.trans F1.out).size) (by have:=HGF.out; omega) IT.out).mono ?_;rintro e w2 ⟨a,rfl,h2,h3,h4⟩;have A2:=lh h2;have Q2:=lh h3;have F2:=lh h4;have L2:=lh (L1.out.rfr HR.out h4);clear h2 h3 h4 Q1
  go_wp2_with (at_builtin; go_must (refine wpList_append_lies _ rfl (.tmp 18) (.tmp 23) 36 rfl B 22 i0 _ 1 8 Tryz.underlying36 hi hz0 hz1 hz2 rfl (by decide) (.slice p acc.length cp) kids.length (kids.map ATree.ptr) rfl (L2.out.row.alloc _) ⟨w2.heap.size,0,none⟩ 1 1 [a.ptr] rfl rfl (Yi (cs:=#[a.ptr]) (t:=22) (fr:=(0,0)) (heap_alloc_new w2 _)) (by simp [ATree.ptr,Value.oneCell']) (by decide) (by have:=HK.out; have:=H8.out; unfold maxLen; omega) (by have:=HK.out; have:=H8.out; omega) (by simp; have:=F0.out.size; have:=F1.out.size; have:=F2.out.size; have:=HB.out; omega) (w2.heap.size + 1) (by simp) ?_); intro gg cap w4 hown2 hgrow2 hat2 hgl2)
  have hpush:=L2.out.push (wA:=w1) (fun y hy=>(L1.out.ks.new y hy).2) (fun y hy=>(L1.out.own y hy).2.1) A2.out F1.out.size F2.out.size ((Y8 _ _).alloc (Y5 _) _) hgrow2 hown2 (by rcases hat2 with h | h; (exact .inl h); (exact .inr (by omega))) hgl2 (F1.out.trans F2.out);have hinv:g≤f∧BInv w0 C B d f l σ1 g (.slice (some ⟨gg,0,none⟩) (kids.length + 1) cap) w4:=
   ⟨by have := HGF.out; omega, acc ++ [x], kids ++ [a], σ3, RE.out, hpush.1, Q2.out.keep fun k hk => hpush.2.1 k (by have := Q2.out.rlt; omega) (fun e => by have h1 := (L2.out.own k e).1; have h2 := HR.out; have h3 := HB.out; have h4 := F0.out.size; omega), hpush.2.2.2, by have := H8.out; simp; omega, fun y hy => by
    rcases List.mem_append.1 hy with hy | hy;·exact HX.out y hy
    ·simp only [List.mem_singleton] at hy; subst hy; exact XX.out⟩
  exact ⟨⟨g,hinv⟩,by rw [← HG.out]; exact Nat.lt_succ_of_le (Z3d hinv)⟩
theorem Zaw (f:Nat) (hS:∀ g,g < f→Z1s 13 qd .stmt g):Z1s 34 (Zau true) (.braces true) (f + 1):=by
 intro w C B d σ t σ' hQ hr hB hd hp;rw [refF] at hp;obtain ⟨l,σ1,hl,hp⟩:=Zn hp;simp only [Option.some.injEq,Prod.mk.injEq] at hp;have HP:=lh hp;have HM:=lh (Z0w hQ Zi B hr hB);have HR:=lh hr;have HB:=lh hB;have HD:=lh hd;have HS:=lh hS;have HL:=lh hl;clear hQ hB hr hp hd hS hl;unfold Zau;go_enter Tryz.func34,Tryz.ntmps34
 go_wp2_with fail
 refine HM.out.mono ?_;rintro e w0 ⟨rfl,h1,h2⟩;have ST:=lh (show ∃ g,g≤f∧BInv w0 C B d f l σ1 g (.slice none 0 0) w0 from ⟨f,Y5 _,[],[],_,HL.out,ListAt.nil,h1,RFr.refl _ _,by simp,fun x hx=>by cases hx⟩);have F0:=lh h2;clear h1 h2 HM;go_wp2_with fail
 go_loopw [7] (fun v wr=>∃ g,g≤f∧BInv w0 C B d f l σ1 g v wr) (fun v wr=>least fun g=>g≤f∧BInv w0 C B d f l σ1 g v wr)
 case atStart=>exact ST.out
 case round=>
  have hI:=Z41 hrel;clear ST;obtain ⟨g,hg⟩:=zX (least fun g=>g≤f∧BInv w0 C B d f l σ1 g u7 wr)
  rw [← hg] at hI;have HG:=lh hg;clear hg hrel;obtain ⟨hgF,acc,kids,σ,hp,hL,hQ,hF,h8,hx⟩:=hI;cases g with
  | zero=>simp [refF] at hp
  | succ g=>
  rw [refF] at hp;have HO:=Z2f hQ;have HN:=Zk hQ Z01;obtain ⟨p,cp,rfl⟩:=hL.slice;have HL:=lh hL;have HQ:=lh hQ;have HF:=lh hF;have H8:=lh h8;have HX:=lh hx;have HGF:=lh hgF;by_cases hf:σ.f.isNone=true;rotate_left
  ·have hf : σ.f.isNone = false := Bool.eq_false_iff.2 hf;rw [hf] at HO;rw [Y9 (by simp [hf])] at hp;simp only [Option.some.injEq, Prod.mk.injEq] at hp;have HO := lh HO;have HE := lh hp;have F1 := HF;have Q1 := HQ;clear hL hQ hF h8 hgF hf hp HN hx;go_wp2_with fail
   refine HO.out.mono ?_;rintro e w1 ⟨rfl,rfl⟩;go_wp2_with fail
   refine (Z0w Q1.out Z01 B HR.out (Ya HB.out (F0.out.trans F1.out).size)).mono ?_;rintro e w2 ⟨rfl,h2,h3⟩;have F2:=lh ((F0.out.trans F1.out).trans h3);have L2:=lh (HL.out.rfr HR.out h3);have hal:Below w2.heap.size w2 (w2.alloc (.cells #[.int .i64 6,.string ⟨#[]⟩,.int .i64 0,.slice p acc.length cp] 38)):=(Y8 _ _).alloc (Y5 _) _;have N3:=lh ((L2.out.pre F0.out.size).node (k:=6) (tx:=⟨#[]⟩) (n:=0) (Ya HB.out F2.out.size) F2.out.size);have Q3:=lh (h2.below hal);have F3:=lh (F2.out.trans (RFr.below (rb:=C.rb) hal))
   have L3:=lh (L2.out.rfr HR.out (RFr.below (rb:=C.rb) hal));clear h2 h3 hal;have HO3:=Z2f Q3.out;by_cases hok:(Z0z Z01 σ).f.isNone=true
   ·rw [hok] at HO3;have HO3 := lh HO3;have HOK := lh hok;clear hok;go_wp2_with fail
    refine HO3.out.mono ?_;rintro e w3 ⟨rfl,rfl⟩;clear HO3;go_wp2_with fail
    refine (Z5g w0 _ B _ kids acc L3.out HX.out).mono ?_;rintro e w4 ⟨rfl,hb4⟩;have N4:=N3.out.rfr HR.out (RFr.below (rb:=C.rb) hb4);have F4:=F3.out.trans (RFr.below (rb:=C.rb) hb4);have Q4:=lh (Q3.out.below hb4);have hblk:=N4.at'.blkOf;simp only [ATree.b,ATree.v,ATree.kind,ATree.text,ATree.n] at hblk;have z1:w4.cell? ⟨w2.heap.size,1,none⟩=some (.string ⟨#[]⟩):=by simp [World.cell?,hblk]
    have zz:w4.frozen? ⟨w2.heap.size,1,none⟩=false:=by simp [World.frozen?,hblk]
    have FIN:=lh (Got.text0 (t':=Z1n acc) HR.out HB.out N4 F4);clear hb4 N4 F4 hblk;go_wp2;go_ret;obtain ⟨h4,h5⟩:=HE.out;obtain ⟨h6,h7⟩:=HP.out;obtain ⟨g1,g2,g3⟩:=FIN.out;refine ⟨.mk w2.heap.size (.slice p acc.length cp) 6 (Z1n acc) 0 kids,rfl,?_,by rw [← h7,← h5]; exact Q4.out.keep fun k hk=>g3 k (by have:=HR.out; omega),g2⟩;rw [← h5,HOK.out] at h6;rw [← h6,← h4];exact g1
   ·have hok : (Z0z Z01 σ).f.isNone = false := Bool.eq_false_iff.2 hok;rw [hok] at HO3;have HO3 := lh HO3;have HOK := lh hok;clear hok;go_wp2_with fail
    refine HO3.out.mono ?_;rintro e w3 ⟨rfl,rfl⟩;clear HO3;go_wp2;go_ret;obtain ⟨h4,h5⟩:=HE.out;obtain ⟨h6,h7⟩:=HP.out;refine ⟨.mk w2.heap.size (.slice p acc.length cp) 6 ⟨#[]⟩ 0 kids,rfl,?_,by rw [← h7,← h5]; exact Q3.out,F3.out⟩;rw [← h5,HOK.out] at h6;rw [← h6,← h4];exact N3.out
  rw [hf] at HO;by_cases hn:Zl Z01 σ=true
  ·rw [hn] at HN;rw [Y9 (by simp [hn])] at hp;simp only [Option.some.injEq, Prod.mk.injEq] at hp;have HO := lh HO;have HN := lh HN;have HE := lh hp;clear hL hQ hF h8 hgF hf hn hp hx;go_wp2_with fail
   refine HO.out.mono ?_;rintro e w1 ⟨rfl,rfl⟩;go_wp2_with fail
   refine HN.out.mono ?_;rintro e w1 ⟨rfl,hb1⟩;have Q1:=lh (HQ.out.below hb1);have F1:=lh (HF.out.trans (RFr.below (rb:=C.rb) hb1));replace HL:=lh (HL.out.rfr HR.out (RFr.below (rb:=C.rb) hb1))
   clear hb1;go_wp2_with fail
   refine (Z0w Q1.out Z01 B HR.out (Ya HB.out (F0.out.trans F1.out).size)).mono ?_;rintro e w2 ⟨rfl,h2,h3⟩;have F2:=lh ((F0.out.trans F1.out).trans h3);have L2:=lh (HL.out.rfr HR.out h3);have hal:Below w2.heap.size w2 (w2.alloc (.cells #[.int .i64 6,.string ⟨#[]⟩,.int .i64 0,.slice p acc.length cp] 38)):=(Y8 _ _).alloc (Y5 _) _;have N3:=lh ((L2.out.pre F0.out.size).node (k:=6) (tx:=⟨#[]⟩) (n:=0) (Ya HB.out F2.out.size) F2.out.size);have Q3:=lh (h2.below hal);have F3:=lh (F2.out.trans (RFr.below (rb:=C.rb) hal))
   have L3:=lh (L2.out.rfr HR.out (RFr.below (rb:=C.rb) hal));clear h2 h3 hal;have HO3:=Z2f Q3.out;by_cases hok:(Z0z Z01 σ).f.isNone=true
   ·rw [hok] at HO3;have HO3 := lh HO3;have HOK := lh hok;clear hok;go_wp2_with fail
    refine HO3.out.mono ?_;rintro e w3 ⟨rfl,rfl⟩;clear HO3;go_wp2_with fail
    refine (Z5g w0 _ B _ kids acc L3.out HX.out).mono ?_;rintro e w4 ⟨rfl,hb4⟩;have N4:=N3.out.rfr HR.out (RFr.below (rb:=C.rb) hb4);have F4:=F3.out.trans (RFr.below (rb:=C.rb) hb4);have Q4:=lh (Q3.out.below hb4);have hblk:=N4.at'.blkOf;simp only [ATree.b,ATree.v,ATree.kind,ATree.text,ATree.n] at hblk;have z1:w4.cell? ⟨w2.heap.size,1,none⟩=some (.string ⟨#[]⟩):=by simp [World.cell?,hblk]
    have zz:w4.frozen? ⟨w2.heap.size,1,none⟩=false:=by simp [World.frozen?,hblk]
    have FIN:=lh (Got.text0 (t':=Z1n acc) HR.out HB.out N4 F4);clear hb4 N4 F4 hblk;go_wp2;go_ret;obtain ⟨h4,h5⟩:=HE.out;obtain ⟨h6,h7⟩:=HP.out;obtain ⟨g1,g2,g3⟩:=FIN.out;refine ⟨.mk w2.heap.size (.slice p acc.length cp) 6 (Z1n acc) 0 kids,rfl,?_,by rw [← h7,← h5]; exact Q4.out.keep fun k hk=>g3 k (by have:=HR.out; omega),g2⟩;rw [← h5,HOK.out] at h6;rw [← h6,← h4];exact g1
   ·have hok : (Z0z Z01 σ).f.isNone = false := Bool.eq_false_iff.2 hok;rw [hok] at HO3;have HO3 := lh HO3;have HOK := lh hok;clear hok;go_wp2_with fail
    refine HO3.out.mono ?_;rintro e w3 ⟨rfl,rfl⟩;clear HO3;go_wp2;go_ret;obtain ⟨h4,h5⟩:=HE.out;obtain ⟨h6,h7⟩:=HP.out;refine ⟨.mk w2.heap.size (.slice p acc.length cp) 6 ⟨#[]⟩ 0 kids,rfl,?_,by rw [← h7,← h5]; exact Q3.out,F3.out⟩;rw [← h5,HOK.out] at h6;rw [← h6,← h4];exact N3.out
  have hn:Zl Z01 σ=false:=by simpa using hn
  rw [hn] at HN;rw [Yb (by simp [hn,hf])] at hp;obtain ⟨x,σ3,hit,hrest⟩:=Zn hp;have IT:=lh hit;have RE:=lh hrest;have HO:=lh HO;have HN:=lh HN;have HK:=lh (hL.len);have XX:=lh (fun hk=>Z7v hit hk);obtain ⟨i0,hi,hz0,hz1,hz2⟩:=info_parts Tryz.infoPtr;clear hL hQ hF h8 hgF hn hp hit hrest hx hf;go_wp2_with fail
  refine HO.out.mono ?_;rintro e w1 ⟨rfl,rfl⟩;go_wp2_with fail
  refine HN.out.mono ?_;rintro e w1 ⟨rfl,hb1⟩;have Q1:=lh (HQ.out.below hb1);have F1:=lh (HF.out.trans (RFr.below (rb:=C.rb) hb1));have L1:=lh (HL.out.rfr HR.out (RFr.below (rb:=C.rb) hb1));have hdd:=HD.out;clear hb1 HO HN HQ HF HL;go_wp2_with fail
  refine (HS.out g (by have:=HGF.out; omega) w1 C B (d + 1) _ _ _ Q1.out HR.out (Ya HB.out (F0.out.trans F1.out).size) (by have:=HGF.out; omega) IT.out).mono ?_;rintro e w2 ⟨a,rfl,h2,h3,h4⟩;have A2:=lh h2;have Q2:=lh h3;have F2:=lh h4;have L2:=lh (L1.out.rfr HR.out h4);clear h2 h3 h4 Q1
  go_wp2_with (at_builtin; go_must (refine wpList_append_lies _ rfl (.tmp 18) (.tmp 23) 36 rfl B 22 i0 _ 1 8 Tryz.underlying36 hi hz0 hz1 hz2 rfl (by decide) (.slice p acc.length cp) kids.length (kids.map ATree.ptr) rfl (L2.out.row.alloc _) ⟨w2.heap.size,0,none⟩ 1 1 [a.ptr] rfl rfl (Yi (cs:=#[a.ptr]) (t:=22) (fr:=(0,0)) (heap_alloc_new w2 _)) (by simp [ATree.ptr,Value.oneCell']) (by decide) (by have:=HK.out; have:=H8.out; unfold maxLen; omega) (by have:=HK.out; have:=H8.out; omega) (by simp; have:=F0.out.size; have:=F1.out.size; have:=F2.out.size; have:=HB.out; omega) (w2.heap.size + 1) (by simp) ?_); intro gg cap w4 hown2 hgrow2 hat2 hgl2)
  have hpush:=L2.out.push (wA:=w1) (fun y hy=>(L1.out.ks.new y hy).2) (fun y hy=>(L1.out.own y hy).2.1) A2.out F1.out.size F2.out.size ((Y8 _ _).alloc (Y5 _) _) hgrow2 hown2 (by rcases hat2 with h | h; (exact .inl h); (exact .inr (by omega))) hgl2 (F1.out.trans F2.out);have hinv:g≤f∧BInv w0 C B d f l σ1 g (.slice (some ⟨gg,0,none⟩) (kids.length + 1) cap) w4:=
   ⟨by have := HGF.out; omega, acc ++ [x], kids ++ [a], σ3, RE.out, hpush.1, Q2.out.keep fun k hk => hpush.2.1 k (by have := Q2.out.rlt; omega) (fun e => by have h1 := (L2.out.own k e).1; have h2 := HR.out; have h3 := HB.out; have h4 := F0.out.size; omega), hpush.2.2.2, by have := H8.out; simp; omega, fun y hy => by
    rcases List.mem_append.1 hy with hy | hy;·exact HX.out y hy
    ·simp only [List.mem_singleton] at hy; subst hy; exact XX.out⟩
  exact ⟨⟨g,hinv⟩,by rw [← HG.out]; exact Nat.lt_succ_of_le (Z3d hinv)⟩
theorem Got.pushQ {w0 wA w w1 w2:World} {rb B b g cap:Nat} {v:Value} {k n:Int} {t:ByteArray} {kids:List ATree} {a:ATree} {tn ta:Tree} (hr:rb < B) (hB0:B≤w0.heap.size)
 (N:Got w0 B w (.mk b v k t n kids) tn) (hNA:∀ x∈(ATree.mk b v k t n kids).blocks,x < wA.heap.size) (A:Got wA B w a ta) (F:RFr w0 w rb)
 (hB1:Below w.heap.size w w1) (hg:w1.grownBy w2 v.ownBlock) (hown:w2.ownsRow B 22 1 (.slice (some ⟨g,0,none⟩) (kids.length + 1) cap) (kids.length + 1) (kids.map ATree.ptr ++ [a.ptr]))
 (hat:v.ownBlock=some g∨w.heap.size≤g) (hgl:g < w2.heap.size) :
 Got w0 B (w2.setCell ⟨b,3,none⟩ (.slice (some ⟨g,0,none⟩) (kids.length + 1) cap)) (.mk b (.slice (some ⟨g,0,none⟩) (kids.length + 1) cap) k t n (kids ++ [a])) (.mk k t n (Zr kids ++ [ta])) ∧
  RFr w0 (w2.setCell ⟨b,3,none⟩ (.slice (some ⟨g,0,none⟩) (kids.length + 1) cap)) rb∧(∀ x,x < B→(w2.setCell ⟨b,3,none⟩ (.slice (some ⟨g,0,none⟩) (kids.length + 1) cap)).heap[x]?=w.heap[x]?):=by
 have hnd:=N.nodup;simp only [ATree.blocks,List.nodup_cons,List.mem_append,List.nodup_append,Option.mem_toList,not_or] at hnd;obtain ⟨⟨hb1,hb2⟩,_,hk1,hk2⟩:=hnd;have hbw:b < w.heap.size:=N.at'.lt;have hb0:w0.heap.size≤b:=(N.new b (by simp [ATree.blocks])).1;have hv0:∀ x,v.ownBlock=some x→w0.heap.size≤x∧x < wA.heap.size∧x < w.heap.size:=fun x hx=>
  ⟨(N.new x (by simp [ATree.blocks,hx])).1,hNA x (by simp [ATree.blocks,hx]),(N.new x (by simp [ATree.blocks,hx])).2⟩
 have hbA:b < wA.heap.size:=hNA b (by simp [ATree.blocks]);have hs1:w.heap.size≤w2.heap.size:=Ya hB1.size hg.size;have hsz:(w2.setCell ⟨b,3,none⟩ (.slice (some ⟨g,0,none⟩) (kids.length + 1) cap)).heap.size=w2.heap.size:=Yn ..;have far2:∀ x,x < w.heap.size→v.ownBlock≠some x→w2.heap[x]?=w.heap[x]?:=fun x hx hn=>(hg.block x (Ye hx hB1.size) (fun e=>hn e.symm)).trans (hB1.block x hx)
 have far:∀ x,x < w.heap.size→x≠b→v.ownBlock≠some x→(w2.setCell ⟨b,3,none⟩ (.slice (some ⟨g,0,none⟩) (kids.length + 1) cap)).heap[x]?=w.heap[x]?:=fun x hx hxb hn=>(Yg _ _ _ _ hxb).trans (far2 x hx hn);have hgb:g≠b:=by
  rcases hat with h | h;·rintro rfl; exact hb1 h
  ·omega
 have hgA:∀ x∈a.blocks,g≠x:=fun x hx=>by
  have h1:=A.new x hx;rcases hat with h | h;·have:=hv0 g h; omega
  ·omega
 have hgk:∀ x∈Z0f kids,g≠x:=fun x hx=>by
  rcases hat with h | h;·exact hk2 g h x hx
  ·have:=(N.new x (by simp [ATree.blocks,hx])).2; omega
 have hg0:w0.heap.size≤g:=by
  rcases hat with h | h;·exact (hv0 g h).1
  ·have:=F.size; omega
 refine ⟨⟨?_,?_,?_,?_⟩,⟨?_,?_,?_,?_,?_⟩,?_⟩
 ·simp only [ATree.tree,Z2k,Zr];rw [A.tree]
 ·refine .mk ?_ N.at'.le ?_ fun x hx => ?_
  ·have h1:=(far2 b hbw hb1).trans N.at'.blkOf;exact Z07 (o:=3) _ h1
  ·rw [Yq,Yu];exact Zp hown fun g' hg'=>Yg _ _ _ _ (by simp only [Value.ownBlock,Option.some.injEq] at hg'; rw [← hg']; exact hgb)
  ·rcases List.mem_append.1 hx with hx | hx
   ·have hT := N.at'.kid (k := x) hx;refine hT.keepB fun y hy => ?_;have hyk : y ∈ Z0f kids := by rw [Z1k]; exact List.mem_flatMap.2 ⟨x, hx, hy⟩
    exact far y (hT.has y hy).2 (fun e=>hb2 (by rw [← e]; exact hyk)) (fun e=>hk2 y e y hyk rfl)
   ·simp only [List.mem_singleton] at hx;subst hx;refine A.at'.keepB fun y hy=>?_;have h1:=A.new y hy;exact far y h1.2 (by omega) (fun e=>by have:=hv0 y e; omega)
 ·simp only [ATree.blocks, Value.ownBlock, Z20, Z0f, List.append_nil, List.nodup_cons, List.mem_append, List.nodup_append, Option.toList, List.mem_cons, List.not_mem_nil, or_false, not_or, List.nodup_nil, not_false_eq_true, true_and];refine ⟨⟨fun e => hgb e.symm, hb2, fun hm => by have := A.new b hm; omega⟩, ⟨hk1, A.nodup, fun x hx y hy e => by have h1 := hNA x (by simp [ATree.blocks, hx]); have h2 := A.new y hy; omega⟩, ?_⟩;rintro x rfl y hy;rcases hy with hy | hy;·exact hgk y hy
  ·exact hgA y hy
 ·intro x hx;rw [hsz];simp only [ATree.blocks, Value.ownBlock, Z20, Z0f, List.append_nil, List.mem_cons, List.mem_append, Option.toList, List.not_mem_nil, or_false] at hx;rcases hx with rfl | rfl | hx | hx;·exact ⟨hb0, by omega⟩
  ·exact ⟨hg0,hgl⟩
  ·have:=N.new x (by simp [ATree.blocks,hx]); omega
  ·have:=A.new x hx; omega
 ·exact (hg.os.trans hB1.os).trans F.os
 ·exact (hg.tape.trans hB1.tape).trans F.tape
 ·exact (hg.output.trans hB1.output).trans F.output
 ·rw [hsz]; have:=F.size; omega
 ·intro x hx hn;have:=F.size;exact (far x (by omega) (by omega) (fun e=>by have:=hv0 x e; omega)).trans (F.block x hx hn)
 ·have:=F.size;exact fun x hx=>far x (by omega) (by omega) (fun e=>by have:=hv0 x e; omega)
theorem Got.cells {w0 w:World} {B b:Nat} {v:Value} {k n:Int} {tx:ByteArray} {kids:List ATree} {t:Tree} (N:Got w0 B w (.mk b v k tx n kids) t) :
 w.cell? ⟨b,0,none⟩=some (.int .i64 k)∧w.cell? ⟨b,1,none⟩=some (.string tx)∧w.cell? ⟨b,3,none⟩=some v∧(∀ j,w.frozen? ⟨b,j,none⟩=false)∧b < w.heap.size:=by
 have hb:=N.at'.blkOf;simp only [ATree.b,ATree.v,ATree.kind,ATree.text,ATree.n] at hb;exact ⟨by simp [World.cell?,hb],by simp [World.cell?,hb],by simp [World.cell?,hb],fun j=>by simp [World.frozen?,hb],(Y6.1 hb).1⟩
theorem Got.giveKids {w w1 w2:World} {rb B b:Nat} {v:Value} {k n:Int} {tx:ByteArray} {ks0 kids:List ATree} {l0 ts:List Tree} (hr:rb < B) (hB:B≤w.heap.size) (G:Got w B w1 (.mk b v k tx n ks0) (.mk k tx n l0)) (F1:RFr w w1 rb) (F12:RFr w1 w2 rb) (K:KidsAt w1 B w2 kids ts) (hl:kids.length≤1000)
 (row:Array Value) (hrow:row=(kids.map ATree.ptr).toArray) (m:Nat) (hm:m=kids.length) :
 ((w2.alloc (.cells row 22)).cell? ⟨b,3,none⟩=some v∧(w2.alloc (.cells row 22)).frozen? ⟨b,3,none⟩=false) ∧
 Got w B ((w2.alloc (.cells row 22)).setCell ⟨b,3,none⟩ (.slice (some ⟨w2.heap.size,0,none⟩) m m)) (.mk b (.slice (some ⟨w2.heap.size,0,none⟩) m m) k tx n kids) (.mk k tx n ts) ∧
 RFr w ((w2.alloc (.cells row 22)).setCell ⟨b,3,none⟩ (.slice (some ⟨w2.heap.size,0,none⟩) m m)) rb ∧
 (∀ x,x < B→((w2.alloc (.cells row 22)).setCell ⟨b,3,none⟩ (.slice (some ⟨w2.heap.size,0,none⟩) m m)).heap[x]?=w2.heap[x]?):=by
 subst hrow hm;have hal:=(Y8 w2.heap.size w2).alloc (Y5 _) (.cells (kids.map ATree.ptr).toArray 22);have hF2:=F1.trans F12;have hFF:=hF2.trans (RFr.below (rb:=rb) hal);have G2:=(G.rfr hr F12).rfr hr (RFr.below (rb:=rb) hal);obtain ⟨_,_,y3,z3,_⟩:=G2.cells;have hL:=K.lit (Ya hB hF2.size) F12.size hl;have hb1:b < w1.heap.size:=(G.new b (by simp [ATree.blocks])).2;have hap:=hL.apart hb1;obtain ⟨e1,e2,e3⟩:=Got.kids0 hr hB G2.at' (G.new b (by simp [ATree.blocks])).1 (hL.pre (w0:=w) F1.size) hap.1 hap.2 hFF
 refine ⟨⟨y3,z3 3⟩,e1,e2,fun x hx=>(e3 x hx).trans (hal.block x ?_)⟩;have:=hF2.size; omega
theorem Got.pushT {w0 wA w w1 w2:World} {rb B b g cap:Nat} {v:Value} {k n:Int} {t:ByteArray} {kids:List ATree} {a:ATree} {ts:List Tree} {ta:Tree} (hr:rb < B) (hB0:B≤w0.heap.size)
 (N:Got w0 B w (.mk b v k t n kids) (.mk k t n ts)) (hNA:∀ x∈(ATree.mk b v k t n kids).blocks,x < wA.heap.size) (A:Got wA B w a ta) (F:RFr w0 w rb)
 (hB1:Below w.heap.size w w1) (hg:w1.grownBy w2 v.ownBlock) (hown:w2.ownsRow B 22 1 (.slice (some ⟨g,0,none⟩) (kids.length + 1) cap) (kids.length + 1) (kids.map ATree.ptr ++ [a.ptr]))
 (hat:v.ownBlock=some g∨w.heap.size≤g) (hgl:g < w2.heap.size) :
 Got w0 B (w2.setCell ⟨b,3,none⟩ (.slice (some ⟨g,0,none⟩) (kids.length + 1) cap)) (.mk b (.slice (some ⟨g,0,none⟩) (kids.length + 1) cap) k t n (kids ++ [a])) (.mk k t n (ts ++ [ta])) ∧
  RFr w0 (w2.setCell ⟨b,3,none⟩ (.slice (some ⟨g,0,none⟩) (kids.length + 1) cap)) rb∧(∀ x,x < B→(w2.setCell ⟨b,3,none⟩ (.slice (some ⟨g,0,none⟩) (kids.length + 1) cap)).heap[x]?=w.heap[x]?):=by
 have e:Zr kids=ts:=by
  have:=N.tree;simp only [ATree.tree,Tree.mk.injEq,true_and] at this;exact this
 subst e;exact Got.pushQ hr hB0 N hNA A F hB1 hg hown hat hgl
theorem Zcb (text:ByteArray):∀ (f i:Nat) (acc:List UInt8),(Z0o text f i acc).2.1=0→(Z0o text f i acc).1.length≤500:=by
 intro f;induction f with
 | zero=>intro i acc h; simp [Z0o] at h
 | succ f ih =>
   intro i acc h;unfold Z0o at h ⊢;by_cases c1:text.size≤i∨Zc text i=10;·rw [Yb c1] at h; simp at h
   rw [Y9 c1] at h ⊢;by_cases c2:Zc text i=39
   ·rw [Yb c2] at h ⊢;by_cases c3 : 500 < acc.length;·rw [Yb c3] at h; simp at h
    ·rw [Y9 c3]; simp only; omega
   rw [Y9 c2] at h ⊢;by_cases c4:Zc text i=92
   ·rw [Yb c4] at h ⊢;by_cases c5 : i + 1 < text.size
    ·rw [Yb c5] at h ⊢;cases he : Z69 (Zc text (i + 1)) with
     | none=>rw [he] at h; simp at h
     | some e=>rw [he] at h; simp only at h ⊢; exact ih _ _ h
    ·rw [Y9 c5] at h; simp at h
   ·rw [Y9 c4] at h ⊢;exact ih _ _ h
theorem Z98 (text:ByteArray) (a b:Nat):(text.extract a b).size≤text.size:=by
 rw [ByteArray.size_extract]; omega
theorem Zip {text:ByteArray} {j k:Nat} {t:Tok} (h:Z1f text j=.ok (t,k)):t.text.size≤text.size + 500:=by
 have hx:=Z98 text;unfold Z1f at h;simp only at h;split at h
 ·split at h
  ·simp only [Except.ok.injEq,Prod.mk.injEq] at h;obtain ⟨rfl,_⟩:=h;have:=hx j (Z03 Z2r text (text.size - j) j); simp only; omega
  ·split at h;·cases h
   ·simp only [Except.ok.injEq,Prod.mk.injEq] at h;obtain ⟨rfl,_⟩:=h;have:=hx j (Z03 Z2r text (text.size - j) j); simp only; omega
 ·split at h
  ·split at h;·cases h
   ·split at h;·cases h
    ·simp only [Except.ok.injEq,Prod.mk.injEq] at h;obtain ⟨rfl,_⟩:=h;exact Yp _
  ·split at h
   ·split at h;·cases h
    ·split at h;·cases h
     ·rename_i _ h2;simp only [Except.ok.injEq,Prod.mk.injEq] at h;obtain ⟨rfl,_⟩:=h;have h3:=Zcb text (text.size + 1 - (j + 1)) (j + 1) [] (by simpa [Z0y] using h2);have h4:(⟨(Z0y text (j + 1)).1.toArray⟩:ByteArray).size=(Z0y text (j + 1)).1.length:=by
       show (Z0y text (j + 1)).1.toArray.size=_;simp
      simp only;rw [h4];have h5:(Z0y text (j + 1)).1.length≤500:=h3;omega
   ·split at h;·cases h
    ·simp only [Except.ok.injEq,Prod.mk.injEq] at h;obtain ⟨rfl,_⟩:=h;have:=hx j (j + Z0a text j); simp only; omega
theorem Zjv {text:ByteArray} {j k:Nat} {t:Tok} (hj:j < text.size) (h:Z1f text j=.ok (t,k)):t.kind=5→t.text≠⟨#[43,45]⟩:=by
 intro hk he;obtain ⟨_,_,h5⟩:=Z88 h;obtain ⟨ht,hl⟩:=h5 hk;have hle:(text.extract j (j + Z0a text j)).size≤Z0a text j:=by rw [ByteArray.size_extract]; omega
 have hsz:t.text.size=2:=by rw [he]; rfl
 have h2:2≤Z0a text j:=by rw [← ht] at hle; omega
 have hp:Zc t.text 0=Zc text j:=by
  rw [ht];by_cases hk:j + Z0a text j≤text.size;·rw [Z05 text (by omega) hk]; rfl
  ·have e:text.extract j (j + Z0a text j)=text.extract j text.size:=by
    apply ByteArray.ext;simp only [ByteArray.data_extract];apply Array.ext
    ·simp only [Array.size_extract];have:text.size=text.data.size:=rfl;omega
    ·intro i h1 h2; simp only [Array.getElem_extract]
   rw [e,Z05 text (by omega) (Y5 _)]; rfl
 have h43:Zc text j=43:=by rw [← hp,he]; decide
 have h1:Z0a text j=1:=by
  unfold Z0a;rw [Y9 (by rw [h43]; intro h; exact absurd h.1 (by decide)),Y9 (by rw [h43]; intro h; exact absurd h.1 (by decide)),Y9 (by rw [h43]; intro h; exact absurd h.1 (by decide))]
 omega
theorem Zea {text:ByteArray}:∀ (r:List Tok) (i:Nat),i≤text.size→Z6x text i r→(∀ t∈r,t.kind=5→t.text≠⟨#[43,45]⟩)∧∀ t∈r,t.text.size≤text.size + 500:=by
 intro r;induction r with
 | nil=>intro i _ h; exact h.elim
 | cons t r ih =>
   intro i hi h;cases r with
   | nil =>
     obtain ⟨h1,h2⟩:=h;refine ⟨fun x hx=>?_,fun x hx=>?_⟩
     ·simp only [List.mem_singleton] at hx;subst hx;rw [h2];exact fun h=>by simp at h
     ·simp only [List.mem_singleton] at hx;subst hx;rw [h2];exact Yp _
   | cons u r =>
     obtain ⟨k,h1,h2,h3⟩:=h;obtain ⟨c1,c2,_⟩:=Z2j text h1 h2;obtain ⟨h7,h8⟩:=ih k c2 h3;refine ⟨fun x hx=>?_,fun x hx=>?_⟩
     ·rcases List.mem_cons.1 hx with rfl | hx;·exact Zjv h1 h2
      ·exact h7 x hx
     ·rcases List.mem_cons.1 hx with rfl | hx;·exact Zip h2
      ·exact h8 x hx
theorem Z1x.mk {t:Tree} {ts:List Tok} {e:Int×Nat}:Z1x (some (t,⟨ts,some e⟩)) e:=⟨t,ts,rfl⟩
theorem Z4m {t:Tree} {ts:List Tok} (hg:Z0c ts):Agree (endT t ts) (some (t,Z0z Zs ⟨ts,none⟩)):=
 Agree.want (m:=fun σ=>some (t,σ)) hg (fun hg=>Agree.ok hg) fun _ _=>Z1x.mk
theorem Z8k {t:Tree} {ts:List Tok} {e:Int×Nat}:Z1x (some (t,Z0z Zs ⟨ts,some e⟩)) e:=Z1x.mk
theorem Zds {s:ByteArray} {ts:List Tok} (h:isT s ts=true):(hdT ts).text=s:=by
 simp only [isT,Bool.and_eq_true,Z3p] at h;exact h.2
theorem Zgc {s s':ByteArray} {ts:List Tok} (h:isT s ts=true) (hn:s≠s'):isT s' ts=false:=by
 have:=Zds h;simp only [isT,this];have:Z15 s s'=false:=by simp [Z15,hn]
 simp [this]
theorem Z6z {c1 c2:Prop} [Decidable c1] [Decidable c2] {b1 b2:Bool} {ts:List Tok} {k:List Tok→PR} {m:RS→RR} (hg:Z0c ts) (h1:c1↔b1=true) (h2:c2↔b2=true)
 (hk:∀ ts,¬ c2→Z0c ts→Agree (k ts) (m ⟨ts,none⟩)) (he:∀ ts e,Z1x (m ⟨ts,some e⟩) e) :
 Agree ((if c1 then Z1e Z1b ts else fun k=>k ts) fun ts=>if c2 then Z2t 4 ts else k ts) (m (Z5d b2 (Z3s b1 ⟨ts,none⟩))):=by
 have key:∀ ts,Z0c ts→Agree (if c2 then Z2t 4 ts else k ts) (m (Z5d b2 ⟨ts,none⟩)):=by
  intro ts hg;unfold Z5d;by_cases hc:c2;·rw [Yb hc,h2.1 hc]; exact he _ _
  ·rw [Y9 hc];have : b2 = false := by cases b2; rfl; exact absurd (h2.2 rfl) hc
   rw [this]; exact hk ts hc hg
 by_cases hc:c1
 ·rw [Yb hc,Z3s,h1.1 hc];exact Agree.want (m:=fun σ=>m (Z5d b2 σ)) hg (fun hg=>key _ hg) fun ts e=>by
   cases b2 <;> exact he _ _
 ·rw [Y9 hc];have : b1 = false := by cases b1; rfl; exact absurd (h1.2 rfl) hc
  rw [this];exact key ts hg
theorem Ze5 {level:Nat} {ts:List Tok} (hg:Z0c ts):Z2i level ts=if decide ((hdT ts).kind=5) && Z5a level (hdT ts).text then Z37 (hdT ts).text else 0:=by
 have hG:=hg.hd.1;have h2:∀ {s:ByteArray},Z37 s≠0→isT s ts=(decide ((hdT ts).kind=5) && Z15 (hdT ts).text s):=by
  intro s hs;unfold isT;by_cases ht:(hdT ts).text=s
  ·by_cases h : (hdT ts).kind = 2;·exact absurd (by rw [← ht]; exact hG h) hs
   ·simp [h]
  ·have : Z15 (hdT ts).text s = false := by simp [Z15, ht]
   simp [this]
 have one:∀ {s:ByteArray},Z37 s≠0→(if isT s ts=true then Z37 s else 0)=if (decide ((hdT ts).kind=5) && Z15 (hdT ts).text s)=true then Z37 (hdT ts).text else 0:=by
  intro s hs;rw [h2 hs];by_cases h:(decide ((hdT ts).kind=5) && Z15 (hdT ts).text s)=true
  ·rw [Yb h,Yb h];have:=(Bool.and_eq_true _ _ ▸ h:_∧_).2;rw [Z3p.1 this]
  ·rw [Y9 h,Y9 h]
 match level with
 | 0=>exact one (s:=s_or) (by decide)
 | 1=>exact one (s:=Z5n) (by decide)
 | 2=>exact one (s:=Z3h) (by decide)
 | 3=>exact one (s:=Z4i) (by decide)
 | 4 =>
   have e1:=one (s:=Z51) (by decide);have e2:=one (s:=Z5p) (by decide);show (if isT Z51 ts=true then Z37 Z51 else if isT Z5p ts=true then Z37 Z5p else 0)=if (decide ((hdT ts).kind=5) && (Z15 (hdT ts).text Z51 || Z15 (hdT ts).text Z5p))=true then Z37 (hdT ts).text else 0;by_cases h:(decide ((hdT ts).kind=5) && Z15 (hdT ts).text Z51)=true
   ·rw [Yb (by rw [h2 (by decide)]; exact h),Yb (by simp only [Bool.and_eq_true,Bool.or_eq_true] at h ⊢; exact ⟨h.1,.inl h.2⟩)];rw [Z3p.1 (by simp only [Bool.and_eq_true] at h; exact h.2:Z15 (hdT ts).text Z51=true)]
   ·rw [Y9 (by rw [h2 (by decide)]; exact h),e2];have:(decide ((hdT ts).kind=5) && (Z15 (hdT ts).text Z51 || Z15 (hdT ts).text Z5p))=(decide ((hdT ts).kind=5) && Z15 (hdT ts).text Z5p):=by
     cases h5:decide ((hdT ts).kind=5);·rfl
     ·rw [h5] at h; simp only [Bool.true_and,Bool.not_eq_true] at h; simp [h]
    rw [this]
 | 5=>exact one (s:=Z6o) (by decide)
 | n + 6=>simp [Z2i,Z5a]
theorem Ze9 {level:Nat} {s:ByteArray} (h:Z5a level s=true):Z37 s≠0:=by
 match level with
 | 0=>rw [Z3p.1 h]; decide
 | 1=>rw [Z3p.1 h]; decide
 | 2=>rw [Z3p.1 h]; decide
 | 3=>rw [Z3p.1 h]; decide
 | 4 =>
   simp only [Z5a,Bool.or_eq_true] at h;rcases h with h | h <;> (rw [Z3p.1 h]; decide)
 | 5=>rw [Z3p.1 h]; decide
 | n + 6=>simp [Z5a] at h
theorem Ze6 {ts:List Tok} (hg:Z0c ts):Z3t ts=if (hdT ts).kind=2 then Z2z (hdT ts).text else 0:=by
 have hG:=hg.hd.2;unfold Z3t Z2z isT;by_cases h2:(hdT ts).kind=2;·simp [h2]
 ·rw [Y9 h2];by_cases h5 : (hdT ts).kind = 5
  ·have:=hG h5;unfold Z2z at this;simp only [h5,decide_true,Bool.true_or,Bool.true_and];exact this
  ·simp [h2,h5]
def Zkn (g:Nat) (k:Int) (d:Nat) (σ:RS):RR:=
 if Zl s_eq (Z28 k (Zw σ).2) then
  Z0n (refF g .value (d + 1) (advR (Z28 k (Zw σ).2))) fun x σ'=>some (.mk k (Zw σ).1 0 [x],Z0z Zs σ')
 else some (.mk k (Zw σ).1 0 [],Z0z Zs (Z28 k (Zw σ).2))
def finR (g d:Nat) (l:List Tree) (σ:RS):RR:=
 if Zl Zt σ then Z0n (refF g (.braces false) d (advR σ)) fun c σ=>tryF (l ++ [.mk 14 ByteArray.empty 0 [c]]) σ
 else tryF l σ
def Zdw (g d:Nat) (b:Tree) (σ:RS):RR:=
 if Zl Z0t σ then
  Z0n (refF g (.braces false) d (Z0z Z0u (Zw (Z0z Z0v (advR σ))).2)) fun c σ'=>finR g d [b,.mk 13 (Zw (Z0z Z0v (advR σ))).1 0 [c]] σ'
 else finR g d [b] σ
def tryR (g d:Nat) (σ:RS):RR:=Z0n (refF g (.braces false) d σ) fun b σ=>Zdw g d b σ
structure AG (f:Nat) (d:Nat) (ts:List Tok) (g:Nat):Prop where
 prog:∀ acc,d=0→Agree (Z0 f (.stmts 1 acc) d ts) (Z0n (refF g (.prog acc) 0 ⟨ts,none⟩) fun l σ=>some (.mk 1 (if Z1w l.kids then Z1d else ByteArray.empty) 0 l.kids,σ))
 stmts:∀ acc,Agree (Z0 f (.stmts 6 acc) d ts) (Z0n (refF g (.bracesL acc) d ⟨ts,none⟩) fun l σ=>some (.mk 6 (if Z1w l.kids then Z1d else ByteArray.empty) 0 l.kids,σ))
 block:∀ b,Agree (Z0 f (.block b) d ts) (refF g (.braces b) d ⟨ts,none⟩)
 func:∀ k s,Agree (Z0 f (.func k s) d ts) (refF g (.func k s) d ⟨ts,none⟩)
 params:∀ acc,Agree (Z0g (Z0 f (.params acc) d ts) fun p ts=>Z1e Z0u ts fun ts=>okT p ts) (Z0n (refF g (.params acc) d ⟨ts,none⟩) fun l σ=>some (.mk 40 ByteArray.empty 0 l.kids,σ))
 around:Agree (Z0 f .around d ts) (refF g .head d ⟨ts,none⟩)
 stmt:d≤30→Agree (Z0 f .stmt d ts) (refF g .stmt d ⟨ts,none⟩)
 decl:∀ k,Agree (Z0g (Z0 f (.decl k (decide (k=4))) d ts) endT) (Zkn g k d ⟨ts,none⟩)
 try_:Agree (Z0 f .try_ d ts) (tryR g d ⟨ts,none⟩)
 value:Agree (Z0 f .value d ts) (refF g .value (d + 1) ⟨ts,none⟩)
 assign:d≤30→Agree (Z0 f .assign d ts) (refF g .value d ⟨ts,none⟩)
 bin:∀ lv,Agree (Z0 f (.bin lv) d ts) (refF g (.pairs lv) d ⟨ts,none⟩)
 binLoop:∀ lv x,Agree (Z0 f (.binLoop lv x) d ts) (refF g (.pairsL lv x) d ⟨ts,none⟩)
 unary:Agree (Z0 f .unary d ts) (refF g .single d ⟨ts,none⟩)
 postfix_:Agree (Z0 f .postfix_ d ts) (Z0n (refF g .first d ⟨ts,none⟩) fun x σ=>refF g (.singleL x) d σ)
 postLoop:∀ x,Agree (Z0 f (.postLoop x) d ts) (refF g (.singleL x) d ⟨ts,none⟩)
 args:∀ x out,out.length≤8→Agree (Z0 f (.args (x :: out)) d ts) (Z0n (refF g (.args out) d ⟨ts,none⟩) fun l σ=>some (.mk 35 ByteArray.empty 0 (x :: l.kids),σ))
 primary:Agree (Z0 f .primary d ts) (refF g .first d ⟨ts,none⟩)
 object:∀ acc,Agree (Z0 f (.object acc) d ts) (Z0n (refF g (.props acc) d ⟨ts,none⟩) fun l σ=>some (.mk 38 ByteArray.empty 0 l.kids,σ))
theorem Z6t {f d:Nat} {ts:List Tok} {g:Nat} (h:d + 1≤30→Agree (Z0 f .stmt (d + 1) ts) (refF (g + 1) .stmt (d + 1) ⟨ts,none⟩)):Agree (Z18 d ts (Z0 f .stmt (d + 1) ts)) (refF (g + 1) .stmt (d + 1) ⟨ts,none⟩):=by
 unfold Z18;by_cases hd:30 < d + 1;·rw [Yb hd,refF,Yb hd]; exact Agree.fail
 ·rw [Y9 hd]; exact h (by omega)
theorem Z59 {f d:Nat} {ts:List Tok} {g:Nat} (h:d + 1≤30→Agree (Z0 f .stmt (d + 1) ts) (refF (g + 1) .stmt (d + 1) ⟨ts,none⟩)):Agree (Z18 d ts (Z0 f .stmt (d + 1) ts)) (refF (g + 2) .stmt2 d ⟨ts,none⟩):=by
 rw [refF,Yb (show (none:Option (Int×Nat)).isNone=true from rfl)]; exact Z6t h
theorem Zdc {p:PR} {k m:Tree→List Tok→PR}:Z0g (Z0g p k) m=Z0g p fun t ts=>Z0g (k t ts) m:=by
 rcases p with _ | e | ⟨t,ts⟩ <;> rfl
theorem Z3z (q:RR) (m n:Tree→RS→RR):Z0n (Z0n q m) n=Z0n q fun t σ=>Z0n (m t σ) n:=by
 rcases q with _ | ⟨t,σ⟩ <;> rfl
theorem Zdy (l:List Tree) (ts:List Tok) (e:Int×Nat):Z1x (tryF l ⟨ts,some e⟩) e:=by
 unfold tryF;by_cases h:l.length=1;·rw [Yb h]; exact Z1x.mk
 ·rw [Y9 h]; exact Z1x.mk
theorem Z7f (g d:Nat) (l:List Tree) (ts:List Tok) (e:Int×Nat):Z1x (finR g d l ⟨ts,some e⟩) e:=by
 unfold finR; rw [Y9 (by simp [Z54])]; exact Zdy ..
theorem Zej (g d:Nat) (b:Tree) (ts:List Tok) (e:Int×Nat):Z1x (Zdw g d b ⟨ts,some e⟩) e:=by
 unfold Zdw; rw [Y9 (by simp [Z54])]; exact Z7f ..
theorem Zll {s:ByteArray} {ts:List Tok}:(isT s ts=true)↔Zl s ⟨ts,none⟩=true:=by rw [Z16]
theorem Agree.isT {s:ByteArray} {ts:List Tok} {p1 p2:PR} {q1 q2:RR} (h1:isT s ts=true→Agree p1 q1) (h2:isT s ts=false→Agree p2 q2):Agree (if isT s ts=true then p1 else p2) (if Zl s ⟨ts,none⟩=true then q1 else q2):=
 Agree.ite Zll h1 fun h=>h2 (by simpa using h)
theorem Za2 {ts:List Tok} {k:ByteArray→List Tok→PR} {m:Tree→List Tok→PR}:Z0g (Z3f ts k) m=Z3f ts fun s ts=>Z0g (k s ts) m:=by
 unfold Z3f;by_cases h:(hdT ts).kind=1;·rw [Yb h,Yb h]
 ·rw [Y9 h,Y9 h]; rfl
theorem Zek {s:ByteArray} {ts:List Tok} {k:List Tok→PR} {m:Tree→List Tok→PR}:Z0g (Z1e s ts k) m=Z1e s ts fun ts=>Z0g (k ts) m:=by
 unfold Z1e;by_cases h:isT s ts=true;·rw [Yb h,Yb h]
 ·rw [Y9 h,Y9 h]; rfl
theorem Zel {c1 c2:Prop} [Decidable c1] [Decidable c2] {ts:List Tok} {k:List Tok→PR} {m:Tree→List Tok→PR} :
 Z0g ((if c1 then Z1e Z1b ts else fun k=>k ts) fun ts=>if c2 then Z2t 4 ts else k ts) m=(if c1 then Z1e Z1b ts else fun k=>k ts) fun ts=>if c2 then Z2t 4 ts else Z0g (k ts) m:=by
 have key:∀ ts,Z0g (if c2 then Z2t 4 ts else k ts) m=if c2 then Z2t 4 ts else Z0g (k ts) m:=by
  intro ts;by_cases h:c2;·rw [Yb h,Yb h]; rfl
  ·rw [Y9 h,Y9 h]
 by_cases h:c1
 ·simp only [if_pos h];rw [Zek];simp only [key]
 ·simp only [if_neg h]; exact key ts
theorem Zlc {f d:Nat} {ts:List Tok} {g:Nat} (hg:Z0c ts) (I:∀ {d:Nat} {ts:List Tok},Z0c ts→AG f d ts (g + 3)) (I4:∀ {d:Nat} {ts:List Tok},Z0c ts→AG f d ts (g + 4)):∀ acc,d=0→Agree (Z0 (f + 1) (.stmts 1 acc) d ts) (Z0n (refF (g + 4) (.prog acc) 0 ⟨ts,none⟩) fun l σ=>some (.mk 1 (if Z1w l.kids then Z1d else ByteArray.empty) 0 l.kids,σ)):=by
 have HD:=hg.tail;rintro acc rfl;rw [Z0,refF];by_cases h6:(hdT ts).kind=6
 ·simp only [h6,if_true,decide_true,Option.isNone_none,Bool.not_true,Bool.and_false,Bool.false_eq_true,if_false,Z0n];exact Agree.ok hg
 ·simp only [h6,if_true,decide_false,Option.isNone_none,Bool.not_false,Bool.and_true,Bool.false_eq_true,if_false];rw [Z3z];exact Agree.bind (Z6t fun h=>(I (d:=0 + 1) hg).stmt h) (fun t ts hg=>(I hg).prog (acc ++ [t]) rfl) fun t ts e=>by rw [Zi4]; exact Z1x.mk
theorem Zji {f d:Nat} {ts:List Tok} {g:Nat} (hg:Z0c ts) (I:∀ {d:Nat} {ts:List Tok},Z0c ts→AG f d ts (g + 3)) (I4:∀ {d:Nat} {ts:List Tok},Z0c ts→AG f d ts (g + 4)):∀ acc,Agree (Z0 (f + 1) (.stmts 6 acc) d ts) (Z0n (refF (g + 4) (.bracesL acc) d ⟨ts,none⟩) fun l σ=>some (.mk 6 (if Z1w l.kids then Z1d else ByteArray.empty) 0 l.kids,σ)):=by
 have HD:=hg.tail;intro acc;rw [Z0,refF];cases hb:isT Z01 ts
 ·rw [Y9 (by simp)];simp only [Option.isNone_none,Z16,hb,Bool.not_false,Bool.and_true,if_true];rw [Z3z];exact Agree.bind (Z6t fun h=>(I (d:=d + 1) hg).stmt h) (fun t ts hg=>(I hg).stmts (acc ++ [t])) fun t ts e=>by rw [Z6s]; exact Z1x.mk
 ·rw [Yb (by simp)];simp only [Option.isNone_none,Z16,hb,Bool.not_true,Bool.and_false,Bool.false_eq_true,if_false,Z0n,Tree.kids];exact Agree.ok hg
theorem Zjc {f d:Nat} {ts:List Tok} {g:Nat} (hg:Z0c ts) (I:∀ {d:Nat} {ts:List Tok},Z0c ts→AG f d ts (g + 3)) (I4:∀ {d:Nat} {ts:List Tok},Z0c ts→AG f d ts (g + 4)):∀ b,Agree (Z0 (f + 1) (.block b) d ts) (refF (g + 4) (.braces b) d ⟨ts,none⟩):=by
 have HD:=hg.tail;intro b;rw [Z0,refF];refine Agree.want (m:=fun σ=>Z0n (refF (g + 3) (.bracesL []) d σ) fun l σ=>some (.mk 6 (if b && (Z0z Z01 σ).f.isNone && Z1w l.kids then Z1d else ByteArray.empty) 0 l.kids,Z0z Z01 σ)) hg (fun hg=>?_) fun ts e=>by rw [Z6s]; exact Z1x.mk
 have h:=(I (d:=d) hg).stmts [];revert h;generalize Z0 f (.stmts 6 []) d ts.tail=p;generalize refF (g + 3) (.bracesL []) d ⟨ts.tail,none⟩=q;intro h;rcases p with _ | e | ⟨t,us⟩;·trivial
 ·obtain ⟨t', ts', h⟩ := h;rcases q with _ | ⟨l, σ⟩;·simp [Z0n] at h
  ·simp only [Z0n,Option.some.injEq,Prod.mk.injEq] at h;obtain ⟨_,rfl⟩:=h;exact Z1x.mk
 ·obtain ⟨h, hg⟩ := h;rcases q with _ | ⟨l, σ⟩;·simp [Z0n] at h
  ·simp only [Z0n, Option.some.injEq, Prod.mk.injEq] at h;obtain ⟨rfl, rfl⟩ := h;show Agree (Z1e Z01 us fun ts => okT (if b = true then _ else _) ts) (some (.mk 6 (if (b && (Z0z Z01 ⟨us, none⟩).f.isNone && Z1w l.kids) = true then Z1d else ByteArray.empty) 0 l.kids, Z0z Z01 ⟨us, none⟩));refine Agree.want (m := fun σ => some (.mk 6 (if (b && σ.f.isNone && Z1w l.kids) = true then Z1d else ByteArray.empty) 0 l.kids, σ)) hg (fun hg => ?_) fun ts e => Z1x.mk;cases b;·exact Agree.ok hg
   ·simp only [Option.isNone_none,Bool.true_and,if_true];exact Agree.ok hg
theorem Zk4 {f d:Nat} {ts:List Tok} {g:Nat} (hg:Z0c ts) (I:∀ {d:Nat} {ts:List Tok},Z0c ts→AG f d ts (g + 3)) (I4:∀ {d:Nat} {ts:List Tok},Z0c ts→AG f d ts (g + 4)):∀ k s,Agree (Z0 (f + 1) (.func k s) d ts) (refF (g + 4) (.func k s) d ⟨ts,none⟩):=by
 have HD:=hg.tail;intro k s;rw [Z0,refF];refine Agree.want (m:=fun σ=>Z0n (refF (g + 3) (.params []) d σ) fun l σ=>Z0n (refF (g + 3) (.braces true) d σ) fun b σ=>some (.mk k s 0 [.mk 40 ByteArray.empty 0 l.kids,b],σ)) hg (fun hg=>?_) fun ts e=>by rw [Z6l]; simp only [Z0n]; rw [Z4o]; exact Z1x.mk
 have h:=(I (d:=d) hg).params [];revert h;generalize Z0 f (.params []) d ts.tail=p;generalize refF (g + 3) (.params []) d ⟨ts.tail,none⟩=q;intro h;have e0:(fun (p:Tree) (ts:List Tok)=>Z1e Z0u ts fun ts=>Z0g (Z0 f (.block true) d ts) fun b ts=>okT (.mk k s 0 [p,b]) ts)=fun p ts=>Z0g (Z1e Z0u ts fun ts=>okT p ts) fun p ts=>Z0g (Z0 f (.block true) d ts) fun b ts=>okT (.mk k s 0 [p,b]) ts:=by
  funext p ts
  unfold Z1e;by_cases hh:isT Z0u ts=true;·rw [Yb hh,Yb hh]; rfl
  ·rw [Y9 hh,Y9 hh]; rfl
 have e1:Z0g p (fun (p:Tree) (ts:List Tok)=>Z1e Z0u ts fun ts=>Z0g (Z0 f (.block true) d ts) fun b ts=>okT (.mk k s 0 [p,b]) ts)=Z0g (Z0g p fun p ts=>Z1e Z0u ts fun ts=>okT p ts) fun p ts=>Z0g (Z0 f (.block true) d ts) fun b ts=>okT (.mk k s 0 [p,b]) ts:=by
  rw [e0];rcases p with _ | e | ⟨t,us⟩ <;> rfl
 have e2:Z0n q (fun l σ=>Z0n (refF (g + 3) (.braces true) d σ) fun b σ=>some (.mk k s 0 [.mk 40 ByteArray.empty 0 l.kids,b],σ))=Z0n (Z0n q fun l σ=>some (.mk 40 ByteArray.empty 0 l.kids,σ)) fun p σ=>Z0n (refF (g + 3) (.braces true) d σ) fun b σ=>some (.mk k s 0 [p,b],σ):=by
  rw [Z3z]; rfl
 rw [e1,e2];exact h.bind (fun t ts hg=>Agree.bind ((I hg).block true) (fun b ts hg=>Agree.ok hg) fun b ts e=>Z1x.mk) fun t ts e=>by rw [Z4o]; exact Z1x.mk
theorem Zh0 {f d:Nat} {ts:List Tok} {g:Nat} (hg:Z0c ts) (I:∀ {d:Nat} {ts:List Tok},Z0c ts→AG f d ts (g + 3)) (I4:∀ {d:Nat} {ts:List Tok},Z0c ts→AG f d ts (g + 4)):∀ acc,Agree (Z0g (Z0 (f + 1) (.params acc) d ts) fun p ts=>Z1e Z0u ts fun ts=>okT p ts) (Z0n (refF (g + 4) (.params acc) d ⟨ts,none⟩) fun l σ=>some (.mk 40 ByteArray.empty 0 l.kids,σ)):=by
 have HD:=hg.tail;intro acc;rw [Z0,refF];cases hb:isT Z0u ts
 ·simp only [Option.isNone_none, Z16, hb, Bool.not_false, Bool.and_true, if_true, Bool.false_eq_true, if_false];rw [Zel];refine Z6z (m := fun σ => Z0n (if σ.f.isNone = true then refF (g + 3) (.params (acc ++ [.mk 23 (Zw σ).1 0 []])) d (Zw σ).2 else refF (g + 3) (.params acc) d σ) fun l σ => some (.mk 40 ByteArray.empty 0 l.kids, σ)) (c1 := 0 < acc.length) (c2 := acc.length = 8) hg decide_eq_true_iff.symm decide_eq_true_iff.symm (fun us _ hg => ?_) fun us e => ?_
  ·rw [Yb (show (none:Option (Int×Nat)).isNone=true from rfl),Za2];exact Agree.name (k:=fun s ts=>Z0g (Z0 f (.params (acc ++ [.mk 23 s 0 []])) d ts) fun p ts=>Z1e Z0u ts fun ts=>okT p ts) (m:=fun s σ=>Z0n (refF (g + 3) (.params (acc ++ [.mk 23 s 0 []])) d σ) fun l σ=>some (.mk 40 ByteArray.empty 0 l.kids,σ)) hg (fun s hg=>(I hg).params (acc ++ [.mk 23 s 0 []])) fun s ts e=>by rw [Z6l]; exact Z1x.mk
  ·rw [Y9 (show ¬ (some e:Option (Int×Nat)).isNone=true by simp),Z6l]; exact Z1x.mk
 ·simp only [Option.isNone_none,Z16,hb,Bool.not_true,Bool.and_false,if_true,Bool.false_eq_true,if_false];exact Agree.want (m:=fun σ=>some (.mk 40 ByteArray.empty 0 acc,σ)) hg (fun hg=>Agree.ok hg) fun _ _=>Z1x.mk
theorem Zhs {f d:Nat} {ts:List Tok} {g:Nat} (hg:Z0c ts) (I:∀ {d:Nat} {ts:List Tok},Z0c ts→AG f d ts (g + 3)) (I4:∀ {d:Nat} {ts:List Tok},Z0c ts→AG f d ts (g + 4)):Agree (Z0 (f + 1) .around d ts) (refF (g + 4) .head d ⟨ts,none⟩):=by
 have HD:=hg.tail;rw [Z0,refF];refine Agree.want (m:=fun σ=>Z0n (refF (g + 3) .value (d + 1) σ) fun x σ=>some (x,Z0z Z0u σ)) hg (fun hg=>?_) fun ts e=>by rw [Z8s]; exact Z1x.mk
 exact (I hg).value.bind (fun t ts hg=>Agree.want (m:=fun σ=>some (t,σ)) hg (fun hg=>Agree.ok hg) fun _ _=>Z1x.mk) fun t ts e=>Z1x.mk
theorem Zlr {f d:Nat} {ts:List Tok} {g:Nat} (hg:Z0c ts) (I:∀ {d:Nat} {ts:List Tok},Z0c ts→AG f d ts (g + 3)) (I4:∀ {d:Nat} {ts:List Tok},Z0c ts→AG f d ts (g + 4)):∀ k,Agree (Z0g (Z0 (f + 1) (.decl k (decide (k=4))) d ts) endT) (Zkn (g + 4) k d ⟨ts,none⟩):=by
 have HD:=hg.tail;intro k;rw [Z0,Zkn];rw [Za2];refine Agree.name (m:=fun s σ=>if Zl s_eq (Z28 k σ)=true then Z0n (refF (g + 4) .value (d + 1) (advR (Z28 k σ))) fun x σ'=>some (.mk k s 0 [x],Z0z Zs σ') else some (.mk k s 0 [],Z0z Zs (Z28 k σ))) hg (fun s hg=>?_) fun s ts e=>?_
 ·generalize ts.tail = us at hg;cases he : isT s_eq us
  ·by_cases hk : k = 4
   ·subst hk;have e1 : Z28 4 ⟨us, none⟩ = ⟨us, some (3, (hdT us).at')⟩ := by simp [Z28, Z16, he, Z39]
    rw [Yb (by simp),e1,Y9 (by simp [Z54])];exact Z1x.mk
   ·have e1 : Z28 k ⟨us, none⟩ = ⟨us, none⟩ := by simp [Z28, hk]
    rw [Y9 (by simp [hk]),Y9 (by simp),e1,Y9 (by rw [Z16,he]; simp)];exact Z4m hg
  ·have e1 : Z28 k ⟨us, none⟩ = ⟨us, none⟩ := by simp [Z28, Z16, he]
   rw [Y9 (by simp),Yb rfl,e1,Yb (by rw [Z16,he])];have:=(I4 hg.tail).value (d:=d);rw [Zdc];exact this.bind (fun x us hg=>Z4m hg) fun t ts e=>Z8k
 ·have e1 : Z28 k ⟨ts, some e⟩ = ⟨ts, some e⟩ := by simp [Z28]
  rw [e1,Y9 (by simp [Z54])]; exact Z1x.mk
theorem Zlh {f d:Nat} {ts:List Tok} {g:Nat} (hg:Z0c ts) (I:∀ {d:Nat} {ts:List Tok},Z0c ts→AG f d ts (g + 3)) (I4:∀ {d:Nat} {ts:List Tok},Z0c ts→AG f d ts (g + 4)):Agree (Z0 (f + 1) .try_ d ts) (tryR (g + 4) d ⟨ts,none⟩):=by
 have HD:=hg.tail;rw [Z0,tryR];refine ((I4 hg).block false).bind (fun b us hg=>?_) fun b ts e=>Zej ..;have fin:∀ (l:List Tree) us,1≤l.length→Z0c us→Agree (if isT Zt us=true then Z0g (Z0 f (.block false) d us.tail) fun c ts=>okT (.mk 12 ByteArray.empty 0 (l ++ [.mk 14 ByteArray.empty 0 [c]])) ts else if l.length=1 then Z2t 3 us else okT (.mk 12 ByteArray.empty 0 l) us) (finR (g + 4) d l ⟨us,none⟩):=by
  intro l us hl hg;unfold finR;refine Agree.isT (fun h=>?_) fun h=>?_;·exact ((I4 hg.tail).block false).bind (fun c us hg=>by unfold tryF; rw [Y9 (by rw [Yq,List.length_singleton]; omega)]; exact Agree.ok hg) fun b ts e=>Zdy ..
  ·unfold tryF;by_cases hl : l.length = 1;·rw [Yb hl, Yb hl]; exact Agree.fail
   ·rw [Y9 hl,Y9 hl]; exact Agree.ok hg
 unfold Zdw;refine Agree.isT (fun h=>?_) fun h=>fin _ _ (by simp) hg;refine Agree.want (m:=fun σ=>Z0n (refF (g + 4) (.braces false) d (Z0z Z0u (Zw σ).2)) fun c σ'=>finR (g + 4) d [b,.mk 13 (Zw σ).1 0 [c]] σ') hg.tail (fun hg=>?_) fun us e=>by rw [Zgd,Z4j,Z4o]; exact Z7f ..
 refine Agree.name (m:=fun s σ=>Z0n (refF (g + 4) (.braces false) d (Z0z Z0u σ)) fun c σ'=>finR (g + 4) d [b,.mk 13 s 0 [c]] σ') hg (fun s hg=>?_) fun s us e=>by rw [Z4j,Z4o]; exact Z7f ..
 refine Agree.want (m:=fun σ=>Z0n (refF (g + 4) (.braces false) d σ) fun c σ'=>finR (g + 4) d [b,.mk 13 s 0 [c]] σ') hg (fun hg=>?_) fun us e=>by rw [Z4o]; exact Z7f ..
 exact ((I4 hg).block false).bind (fun c us hg=>fin _ _ (by simp) hg) fun b ts e=>Z7f ..
theorem Zjd {f d:Nat} {ts:List Tok} {g:Nat} (hg:Z0c ts) (I:∀ {d:Nat} {ts:List Tok},Z0c ts→AG f d ts (g + 3)) (I4:∀ {d:Nat} {ts:List Tok},Z0c ts→AG f d ts (g + 4)):Agree (Z0 (f + 1) .value d ts) (refF (g + 4) .value (d + 1) ⟨ts,none⟩):=by
 have HD:=hg.tail;rw [Z0];unfold Z18;by_cases hd:30 < d + 1;·rw [Yb hd,refF,Yb (show (none:Option (Int×Nat)).isNone=true from rfl),Yb hd]; exact Agree.fail
 ·rw [Y9 hd]; exact (I4 hg).assign (by omega)
theorem Zg0 {f d:Nat} {ts:List Tok} {g:Nat} (hg:Z0c ts) (I:∀ {d:Nat} {ts:List Tok},Z0c ts→AG f d ts (g + 3)) (I4:∀ {d:Nat} {ts:List Tok},Z0c ts→AG f d ts (g + 4)):d≤30→Agree (Z0 (f + 1) .assign d ts) (refF (g + 4) .value d ⟨ts,none⟩):=by
 have HD:=hg.tail;intro hd;rw [Z0,refF,Yb (show (none:Option (Int×Nat)).isNone=true from rfl),Y9 (by omega)];refine ((I hg).bin 0).bind (fun t us hg=>?_) fun t ts e=>by rw [Y9 (by simp [Z54])]; exact Z1x.mk
 refine Agree.isT (fun h=>?_) fun h=>Agree.ok hg;by_cases hk:t.kind=23∨t.kind=36
 ·rw [Yb hk,Yb hk];exact (I hg.tail).value.bind (fun y us hg=>Agree.ok hg) fun t ts e=>Z1x.mk
 ·rw [Y9 hk,Y9 hk];exact Z1x.mk
theorem Zm3 {f d:Nat} {ts:List Tok} {g:Nat} (hg:Z0c ts) (I:∀ {d:Nat} {ts:List Tok},Z0c ts→AG f d ts (g + 3)) (I4:∀ {d:Nat} {ts:List Tok},Z0c ts→AG f d ts (g + 4)):∀ lv,Agree (Z0 (f + 1) (.bin lv) d ts) (refF (g + 4) (.pairs lv) d ⟨ts,none⟩):=by
 have HD:=hg.tail;intro lv;rw [Z0,refF];by_cases h:6≤lv;·rw [Yb h,Yb h]; exact (I hg).unary
 ·rw [Y9 h,Y9 h];exact ((I hg).bin (lv + 1)).bind (fun x us hg=>(I hg).binLoop lv x) fun t ts e=>by rw [Za5]; exact Z1x.mk
theorem Zfd {f d:Nat} {ts:List Tok} {g:Nat} (hg:Z0c ts) (I:∀ {d:Nat} {ts:List Tok},Z0c ts→AG f d ts (g + 3)) (I4:∀ {d:Nat} {ts:List Tok},Z0c ts→AG f d ts (g + 4)):∀ lv x,Agree (Z0 (f + 1) (.binLoop lv x) d ts) (refF (g + 4) (.pairsL lv x) d ⟨ts,none⟩):=by
 have HD:=hg.tail;intro lv x;rw [Z0,refF,Ze5 hg];simp only;cases hb:decide ((hdT ts).kind=5) && Z5a lv (hdT ts).text
 ·rw [Y9 Bool.false_ne_true,Yb rfl,Y9 (by rw [show ((none:Option (Int×Nat)).isNone && decide ((hdT ts).kind=5) && Z5a lv (hdT ts).text)=(decide ((hdT ts).kind=5) && Z5a lv (hdT ts).text) by simp,hb]; simp)];exact Agree.ok hg
 ·rw [Yb rfl,Y9 (Ze9 (level:=lv) (by simp only [Bool.and_eq_true] at hb; exact hb.2)),Yb (by rw [show ((none:Option (Int×Nat)).isNone && decide ((hdT ts).kind=5) && Z5a lv (hdT ts).text)=(decide ((hdT ts).kind=5) && Z5a lv (hdT ts).text) by simp,hb])];exact ((I hg.tail).bin (lv + 1)).bind (fun y us hg=>(I hg).binLoop lv _) fun t ts e=>by rw [Za5]; exact Z1x.mk
theorem Zjf {f d:Nat} {ts:List Tok} {g:Nat} (hg:Z0c ts) (I:∀ {d:Nat} {ts:List Tok},Z0c ts→AG f d ts (g + 3)) (I4:∀ {d:Nat} {ts:List Tok},Z0c ts→AG f d ts (g + 4)):Agree (Z0 (f + 1) .unary d ts) (refF (g + 4) .single d ⟨ts,none⟩):=by
 have HD:=hg.tail;have hu:Z6g ⟨ts,none⟩=Z3g ts:=by unfold Z6g Z3g; rw [Z16,Z16,Z16]
 rw [Z0,refF,hu];by_cases h:Z3g ts=0
 ·rw [Yb h,Y9 (fun h'=>h' h)];exact (I hg).postfix_
 ·rw [Y9 h, Yb h];unfold Z18;by_cases hd : 30 < d + 1;·rw [Yb hd, Yb hd]; exact Agree.fail
  ·rw [Y9 hd,Y9 hd];exact ((I HD).unary (d:=d + 1)).bind (fun x us hg=>Agree.ok hg) fun t ts e=>Z1x.mk
theorem Zck {f d:Nat} {ts:List Tok} {g:Nat} (hg:Z0c ts) (I:∀ {d:Nat} {ts:List Tok},Z0c ts→AG f d ts (g + 3)) (I4:∀ {d:Nat} {ts:List Tok},Z0c ts→AG f d ts (g + 4)):Agree (Z0 (f + 1) .postfix_ d ts) (Z0n (refF (g + 4) .first d ⟨ts,none⟩) fun x σ=>refF (g + 4) (.singleL x) d σ):=by
 have HD:=hg.tail;rw [Z0];exact (I4 hg).primary.bind (fun x us hg=>(I4 hg).postLoop x) fun t ts e=>by rw [Z74]; exact Z1x.mk
theorem Zde {f d:Nat} {ts:List Tok} {g:Nat} (hg:Z0c ts) (I:∀ {d:Nat} {ts:List Tok},Z0c ts→AG f d ts (g + 3)) (I4:∀ {d:Nat} {ts:List Tok},Z0c ts→AG f d ts (g + 4)):∀ x,Agree (Z0 (f + 1) (.postLoop x) d ts) (refF (g + 4) (.singleL x) d ⟨ts,none⟩):=by
 have HD:=hg.tail;intro x;rw [Z0,refF];refine Agree.isT (fun h=>?_) fun h=>Agree.isT (fun h=>?_) fun h=>Agree.ok hg;·exact Agree.name (m:=fun s σ=>refF (g + 3) (.singleL (.mk 36 s 0 [x])) d σ) hg.tail (fun s hg=>(I hg).postLoop _) fun s ts e=>by rw [Z74]; exact Z1x.mk
 ·have := ((I (d := d) hg.tail).args x [] (by simp)).bind (m := fun n σ => refF (g + 3) (.singleL n) d σ) (fun n us hg => (I hg).postLoop n) fun t ts e => by rw [Z74]; exact Z1x.mk
  rw [Z3z] at this;exact this
theorem Zk3 {f d:Nat} {ts:List Tok} {g:Nat} (hg:Z0c ts) (I:∀ {d:Nat} {ts:List Tok},Z0c ts→AG f d ts (g + 3)) (I4:∀ {d:Nat} {ts:List Tok},Z0c ts→AG f d ts (g + 4)):∀ x out,out.length≤8→Agree (Z0 (f + 1) (.args (x :: out)) d ts) (Z0n (refF (g + 4) (.args out) d ⟨ts,none⟩) fun l σ=>some (.mk 35 ByteArray.empty 0 (x :: l.kids),σ)):=by
 have HD:=hg.tail;intro x out h8;rw [Z0,refF];cases hb:isT Z0u ts
 ·simp only [Option.isNone_none, Z16, hb, Bool.not_false, Bool.and_true, if_true, Bool.false_eq_true, if_false]
  refine Z6z (c1:=1 < (x :: out).length) (c2:=8 < (x :: out).length) (b2:=decide (out.length=8)) (k:=fun ts=>Z0g (Z0 f .value d ts) fun v ts=>Z0 f (.args (x :: (out ++ [v]))) d ts) (m:=fun σ=>Z0n (if σ.f.isNone=true then Z0n (refF (g + 3) .value (d + 1) σ) fun v σ=>refF (g + 3) (.args (out ++ [v])) d σ else refF (g + 3) (.args out) d σ) fun l σ=>some (.mk 35 ByteArray.empty 0 (x :: l.kids),σ)) hg (by simp) (by rw [decide_eq_true_eq,List.length_cons]; omega) (fun us hn hg=>?_) fun us e=>?_
  ·rw [Yb (show (none:Option (Int×Nat)).isNone=true from rfl),Z3z];exact ((I hg).value (d:=d)).bind (fun v us hg=>(I hg).args x (out ++ [v]) (by rw [Yq,List.length_singleton]; rw [List.length_cons] at hn; omega)) fun v us e=>by rw [Zdu]; exact Z1x.mk
  ·rw [Y9 (show ¬ (some e:Option (Int×Nat)).isNone=true by simp),Zdu]; exact Z1x.mk
 ·simp only [Option.isNone_none,Z16,hb,Bool.not_true,Bool.and_false,if_true,Bool.false_eq_true,if_false];unfold Z0z;simp only [Option.isNone_none,hb,if_true];exact Agree.ok HD
theorem Zev {f d:Nat} {ts:List Tok} {g:Nat} (hg:Z0c ts) (I:∀ {d:Nat} {ts:List Tok},Z0c ts→AG f d ts (g + 3)) (I4:∀ {d:Nat} {ts:List Tok},Z0c ts→AG f d ts (g + 4)):Agree (Z0 (f + 1) .primary d ts) (refF (g + 4) .first d ⟨ts,none⟩):=by
 have HD:=hg.tail;rw [Z0,refF,Yb (show (none:Option (Int×Nat)).isNone=true from rfl),Ze6 hg];simp only;by_cases h1:(hdT ts).kind=1;·rw [Yb h1,Yb h1]; exact Agree.ok HD
 rw [Y9 h1,Y9 h1];by_cases h3:(hdT ts).kind=3;·rw [Yb h3,Yb h3]; exact Agree.ok HD
 rw [Y9 h3,Y9 h3];by_cases h4:(hdT ts).kind=4;·rw [Yb h4,Yb h4]; exact Agree.ok HD
 rw [Y9 h4,Y9 h4];by_cases hc:(hdT ts).kind=2∧Z2z (hdT ts).text≠0
 ·have nt:∀ s,Z2z s=0→Zl s ⟨ts,none⟩=false:=fun s hs=>by
   rw [Z16];cases hb:isT s ts;·rfl
   ·exact absurd (by rw [Zds hb]; exact hs) hc.2
  rw [Yb hc.1,Yb hc.2,nt _ (by decide),nt _ (by decide),nt _ (by decide)];simp only [Bool.false_eq_true,if_false];rw [Yb hc];exact Agree.ok HD
 ·have e0:(if (hdT ts).kind=2 then Z2z (hdT ts).text else 0)=0:=by
   by_cases h2:(hdT ts).kind=2
   ·rw [Yb h2];exact Decidable.byContradiction fun h=>hc ⟨h2,h⟩
   ·rw [Y9 h2]
  rw [e0,Y9 (fun h=>h rfl),Y9 hc];refine Agree.isT (fun h=>(I hg).around) fun _=>?_;refine Agree.isT (fun h=>?_) fun _=>?_
  ·show Agree (if (hdT ts.tail).kind = 1 then _ else _) (if (hdT ts.tail).kind = 1 then refF (g + 3) (.func 37 (Zw ⟨ts.tail, none⟩).1) d (Zw ⟨ts.tail, none⟩).2 else refF (g + 3) (.func 37 ByteArray.empty) d ⟨ts.tail, none⟩);by_cases hk : (hdT ts.tail).kind = 1
   ·have ei : Zw ⟨ts.tail, none⟩ = ((hdT ts.tail).text, ⟨ts.tail.tail, none⟩) := by simp [Zw, hk, advR]
    rw [Yb hk,Yb hk,ei];exact (I HD.tail).func 37 _
   ·rw [Y9 hk,Y9 hk];exact (I HD).func 37 _
  refine Agree.isT (fun h=>(I HD).object []) fun _=>Agree.fail
theorem Zhu {f d:Nat} {ts:List Tok} {g:Nat} (hg:Z0c ts) (I:∀ {d:Nat} {ts:List Tok},Z0c ts→AG f d ts (g + 3)) (I4:∀ {d:Nat} {ts:List Tok},Z0c ts→AG f d ts (g + 4)):∀ acc,Agree (Z0 (f + 1) (.object acc) d ts) (Z0n (refF (g + 4) (.props acc) d ⟨ts,none⟩) fun l σ=>some (.mk 38 ByteArray.empty 0 l.kids,σ)):=by
 have HD:=hg.tail;intro acc;rw [Z0,refF];cases hb:isT Z01 ts
 ·simp only [Option.isNone_none, Z16, hb, Bool.not_false, Bool.and_true, if_true, Bool.false_eq_true, if_false]
  refine Z6z (c1:=0 < acc.length) (c2:=acc.length=8) (k:=fun ts=>Z3f ts fun s ts=>Z1e Z30 ts fun ts=>Z0g (Z0 f .value d ts) fun v ts=>Z0 f (.object (acc ++ [.mk 39 s 0 [v]])) d ts)
   (m:=fun σ=>Z0n (if σ.f.isNone=true then Z0n (refF (g + 3) .value (d + 1) (Z0z Z30 (Zw σ).2)) fun v σ'=>refF (g + 3) (.props (acc ++ [.mk 39 (Zw σ).1 0 [v]])) d σ' else refF (g + 3) (.props acc) d σ) fun l σ=>some (.mk 38 ByteArray.empty 0 l.kids,σ)) hg decide_eq_true_iff.symm decide_eq_true_iff.symm (fun us _ hg=>?_) fun us e=>?_
  ·rw [Yb (show (none : Option (Int × Nat)).isNone = true from rfl)];refine Agree.name (m := fun s σ => Z0n (Z0n (refF (g + 3) .value (d + 1) (Z0z Z30 σ)) fun v σ' => refF (g + 3) (.props (acc ++ [.mk 39 s 0 [v]])) d σ') fun l σ => some (.mk 38 ByteArray.empty 0 l.kids, σ)) hg (fun s hg => ?_) fun s us e => by rw [Z4j, Z8s]; simp only [Z0n]; rw [Z76]; exact Z1x.mk
   refine Agree.want (m:=fun σ=>Z0n (Z0n (refF (g + 3) .value (d + 1) σ) fun v σ'=>refF (g + 3) (.props (acc ++ [.mk 39 s 0 [v]])) d σ') fun l σ=>some (.mk 38 ByteArray.empty 0 l.kids,σ)) hg (fun hg=>?_) fun us e=>by rw [Z8s]; simp only [Z0n]; rw [Z76]; exact Z1x.mk
   rw [Z3z];exact ((I hg).value (d:=d)).bind (fun v us hg=>(I hg).object _) fun v us e=>by rw [Z76]; exact Z1x.mk
  ·rw [Y9 (show ¬ (some e:Option (Int×Nat)).isNone=true by simp),Z76]; exact Z1x.mk
 ·simp only [Option.isNone_none,Z16,hb,Bool.not_true,Bool.and_false,if_true,Bool.false_eq_true,if_false];unfold Z0z;simp only [Option.isNone_none,hb,if_true];exact Agree.ok HD
theorem Z3c {s:ByteArray} {ts:List Tok} (h:isT s ts=true):(∀ s',s≠s'→¬ isT s' ts=true)∧(∀ s',s≠s'→¬ Zl s' ⟨ts,none⟩=true):=
 ⟨fun s' hn=>by rw [Zgc h hn]; simp,fun s' hn=>by rw [Z16,Zgc h hn]; simp⟩
theorem Z43 {s:ByteArray} {ts:List Tok} (h:isT s ts=true):Z48 ⟨ts,none⟩=if s=Z19 then 2 else if s=Z1c then 3 else if s=Z06 then 4 else 0:=by
 have e:∀ s',isT s' ts=decide (s=s'):=fun s'=>by
  by_cases hs:s=s';·rw [← hs,h]; simp
  ·rw [Zgc h hs]; simp [hs]
 unfold Z48;rw [Z16,Z16,Z16,e,e,e];simp only [decide_eq_true_eq]
theorem Zhr {f d:Nat} {ts:List Tok} {g:Nat} (hg:Z0c ts) (hd:d≤30) (I:∀ {d:Nat} {ts:List Tok},Z0c ts→AG f d ts (g + 3)) (I2:∀ {d:Nat} {ts:List Tok},Z0c ts→AG f d ts (g + 2)) (h:isT Zi ts=true):Agree (Z0 (f + 1) .stmt d ts) (refF (g + 4) .stmt d ⟨ts,none⟩):=by
 have HD:=hg.tail;obtain ⟨n,m⟩:=Z3c h;have y:Zl Zi ⟨ts,none⟩=true:=by rw [Z16]; exact h
 rw [Z0,refF];simp only [];rw [Yb h];rw [Y9 (show ¬ 30 < d by omega),Yb y];exact (I hg).block false
theorem Zl4 {f d:Nat} {ts:List Tok} {g:Nat} (hg:Z0c ts) (hd:d≤30) (I:∀ {d:Nat} {ts:List Tok},Z0c ts→AG f d ts (g + 3)) (I2:∀ {d:Nat} {ts:List Tok},Z0c ts→AG f d ts (g + 2)) (h:isT Zs ts=true):Agree (Z0 (f + 1) .stmt d ts) (refF (g + 4) .stmt d ⟨ts,none⟩):=by
 have HD:=hg.tail;obtain ⟨n,m⟩:=Z3c h;have y:Zl Zs ⟨ts,none⟩=true:=by rw [Z16]; exact h
 rw [Z0,refF];simp only [];rw [Y9 (n Zi (by decide)),Yb h];rw [Y9 (show ¬ 30 < d by omega),Y9 (m Zi (by decide)),Yb y];exact Agree.ok HD
theorem Zlw {f d:Nat} {ts:List Tok} {g:Nat} (hg:Z0c ts) (hd:d≤30) (I:∀ {d:Nat} {ts:List Tok},Z0c ts→AG f d ts (g + 3)) (I2:∀ {d:Nat} {ts:List Tok},Z0c ts→AG f d ts (g + 2)) (h:isT Z19 ts=true):Agree (Z0 (f + 1) .stmt d ts) (refF (g + 4) .stmt d ⟨ts,none⟩):=by
 have HD:=hg.tail;obtain ⟨n,m⟩:=Z3c h;have y:Zl Z19 ⟨ts,none⟩=true:=by rw [Z16]; exact h
 have dk:=Z43 h;rw [show (if Z19=Z19 then (2:Int) else if Z19=Z1c then 3 else if Z19=Z06 then 4 else 0)=2 from by decide] at dk;rw [Z0,refF];simp only [];rw [Y9 (n Zi (by decide)),Y9 (n Zs (by decide)),Yb h];rw [Y9 (show ¬ 30 < d by omega),Y9 (m Zi (by decide)),Y9 (m Zs (by decide)),Y9 (m Ze (by decide)),Y9 (m s_if (by decide)),Y9 (show ¬ (Zl Zz ⟨ts,none⟩ || Zl Z0d ⟨ts,none⟩)=true by rw [Bool.or_eq_true,not_or]; exact ⟨(m Zz (by decide)),(m Z0d (by decide))⟩),Y9 (m Z1j (by decide)),dk,Yb (by decide)];exact (I HD).decl 2
theorem Zmn {f d:Nat} {ts:List Tok} {g:Nat} (hg:Z0c ts) (hd:d≤30) (I:∀ {d:Nat} {ts:List Tok},Z0c ts→AG f d ts (g + 3)) (I2:∀ {d:Nat} {ts:List Tok},Z0c ts→AG f d ts (g + 2)) (h:isT Z1c ts=true):Agree (Z0 (f + 1) .stmt d ts) (refF (g + 4) .stmt d ⟨ts,none⟩):=by
 have HD:=hg.tail;obtain ⟨n,m⟩:=Z3c h;have y:Zl Z1c ⟨ts,none⟩=true:=by rw [Z16]; exact h
 have dk:=Z43 h;rw [show (if Z1c=Z19 then (2:Int) else if Z1c=Z1c then 3 else if Z1c=Z06 then 4 else 0)=3 from by decide] at dk;rw [Z0,refF];simp only [];rw [Y9 (n Zi (by decide)),Y9 (n Zs (by decide)),Y9 (n Z19 (by decide)),Yb h]
 rw [Y9 (show ¬ 30 < d by omega),Y9 (m Zi (by decide)),Y9 (m Zs (by decide)),Y9 (m Ze (by decide)),Y9 (m s_if (by decide)),Y9 (show ¬ (Zl Zz ⟨ts,none⟩ || Zl Z0d ⟨ts,none⟩)=true by rw [Bool.or_eq_true,not_or]; exact ⟨(m Zz (by decide)),(m Z0d (by decide))⟩),Y9 (m Z1j (by decide)),dk,Yb (by decide)];exact (I HD).decl 3
theorem Zi9 {f d:Nat} {ts:List Tok} {g:Nat} (hg:Z0c ts) (hd:d≤30) (I:∀ {d:Nat} {ts:List Tok},Z0c ts→AG f d ts (g + 3)) (I2:∀ {d:Nat} {ts:List Tok},Z0c ts→AG f d ts (g + 2)) (h:isT Z06 ts=true):Agree (Z0 (f + 1) .stmt d ts) (refF (g + 4) .stmt d ⟨ts,none⟩):=by
 have HD:=hg.tail;obtain ⟨n,m⟩:=Z3c h;have y:Zl Z06 ⟨ts,none⟩=true:=by rw [Z16]; exact h
 have dk:=Z43 h;rw [show (if Z06=Z19 then (2:Int) else if Z06=Z1c then 3 else if Z06=Z06 then 4 else 0)=4 from by decide] at dk;rw [Z0,refF];simp only [];rw [Y9 (n Zi (by decide)),Y9 (n Zs (by decide)),Y9 (n Z19 (by decide)),Y9 (n Z1c (by decide)),Yb h]
 rw [Y9 (show ¬ 30 < d by omega),Y9 (m Zi (by decide)),Y9 (m Zs (by decide)),Y9 (m Ze (by decide)),Y9 (m s_if (by decide)),Y9 (show ¬ (Zl Zz ⟨ts,none⟩ || Zl Z0d ⟨ts,none⟩)=true by rw [Bool.or_eq_true,not_or]; exact ⟨(m Zz (by decide)),(m Z0d (by decide))⟩),Y9 (m Z1j (by decide)),dk,Yb (by decide)];exact (I HD).decl 4
theorem Zcn {f d:Nat} {ts:List Tok} {g:Nat} (hg:Z0c ts) (hd:d≤30) (I:∀ {d:Nat} {ts:List Tok},Z0c ts→AG f d ts (g + 3)) (I2:∀ {d:Nat} {ts:List Tok},Z0c ts→AG f d ts (g + 2)) (h:isT Ze ts=true):Agree (Z0 (f + 1) .stmt d ts) (refF (g + 4) .stmt d ⟨ts,none⟩):=by
 have HD:=hg.tail;obtain ⟨n,m⟩:=Z3c h;have y:Zl Ze ⟨ts,none⟩=true:=by rw [Z16]; exact h
 have dk:=Z43 h;rw [show (if Ze=Z19 then (2:Int) else if Ze=Z1c then 3 else if Ze=Z06 then 4 else 0)=0 from by decide] at dk;rw [Z0,refF];simp only [];rw [Y9 (n Zi (by decide)),Y9 (n Zs (by decide)),Y9 (n Z19 (by decide)),Y9 (n Z1c (by decide)),Y9 (n Z06 (by decide)),Yb h];rw [Y9 (show ¬ 30 < d by omega),Y9 (m Zi (by decide)),Y9 (m Zs (by decide)),Yb y];exact Agree.name (m:=fun s σ=>refF (g + 3) (.func 5 s) d σ) HD (fun s hg=>(I hg).func 5 s) fun s ts e=>Zjk ..
theorem Zmv {f d:Nat} {ts:List Tok} {g:Nat} (hg:Z0c ts) (hd:d≤30) (I:∀ {d:Nat} {ts:List Tok},Z0c ts→AG f d ts (g + 3)) (I2:∀ {d:Nat} {ts:List Tok},Z0c ts→AG f d ts (g + 2)) (h:isT s_if ts=true):Agree (Z0 (f + 1) .stmt d ts) (refF (g + 4) .stmt d ⟨ts,none⟩):=by
 have HD:=hg.tail;obtain ⟨n,m⟩:=Z3c h;have y:Zl s_if ⟨ts,none⟩=true:=by rw [Z16]; exact h
 have dk:=Z43 h;rw [show (if s_if=Z19 then (2:Int) else if s_if=Z1c then 3 else if s_if=Z06 then 4 else 0)=0 from by decide] at dk;rw [Z0,refF];simp only [];rw [Y9 (n Zi (by decide)),Y9 (n Zs (by decide)),Y9 (n Z19 (by decide)),Y9 (n Z1c (by decide)),Y9 (n Z06 (by decide)),Y9 (n Ze (by decide)),Yb h];rw [Y9 (show ¬ 30 < d by omega),Y9 (m Zi (by decide)),Y9 (m Zs (by decide)),Y9 (m Ze (by decide)),Yb y]
 refine ((I HD).around (d:=d)).bind (fun x us hg=>?_) fun t ts e=>by rw [Z9e]; simp only [Z0n]; rw [Y9 (by simp [Z54])]; exact Z1x.mk
 refine (Z59 fun h=>(I2 hg).stmt h).bind (fun y us hg=>?_) fun t ts e=>by rw [Y9 (by simp [Z54])]; exact Z1x.mk
 refine Agree.isT (fun h=>?_) fun _=>Agree.ok hg;exact (Z59 fun h=>(I2 hg.tail).stmt h).bind (fun z us hg=>Agree.ok hg) fun t ts e=>Z1x.mk
theorem Zis {f d:Nat} {ts:List Tok} {g:Nat} (hg:Z0c ts) (hd:d≤30) (I:∀ {d:Nat} {ts:List Tok},Z0c ts→AG f d ts (g + 3)) (I2:∀ {d:Nat} {ts:List Tok},Z0c ts→AG f d ts (g + 2)) (h:isT Zz ts=true):Agree (Z0 (f + 1) .stmt d ts) (refF (g + 4) .stmt d ⟨ts,none⟩):=by
 have HD:=hg.tail;obtain ⟨n,m⟩:=Z3c h;have y:Zl Zz ⟨ts,none⟩=true:=by rw [Z16]; exact h
 have dk:=Z43 h;rw [show (if Zz=Z19 then (2:Int) else if Zz=Z1c then 3 else if Zz=Z06 then 4 else 0)=0 from by decide] at dk;rw [Z0,refF];simp only [];rw [Y9 (n Zi (by decide)),Y9 (n Zs (by decide)),Y9 (n Z19 (by decide)),Y9 (n Z1c (by decide)),Y9 (n Z06 (by decide)),Y9 (n Ze (by decide)),Y9 (n s_if (by decide)),Yb h];rw [Y9 (show ¬ 30 < d by omega),Y9 (m Zi (by decide)),Y9 (m Zs (by decide)),Y9 (m Ze (by decide)),Y9 (m s_if (by decide)),Yb (by rw [Bool.or_eq_true]; exact .inl y)]
 refine ((I HD).around (d:=d)).bind (fun x us hg=>?_) fun t ts e=>by rw [Z9e]; exact Z1x.mk
 rw [Y9 (m Z0d (by decide))];exact (Z59 fun h=>(I2 hg).stmt h).bind (fun y us hg=>Agree.ok hg) fun t ts e=>Z1x.mk
theorem Zla {f d:Nat} {ts:List Tok} {g:Nat} (hg:Z0c ts) (hd:d≤30) (I:∀ {d:Nat} {ts:List Tok},Z0c ts→AG f d ts (g + 3)) (I2:∀ {d:Nat} {ts:List Tok},Z0c ts→AG f d ts (g + 2)) (h:isT Z0d ts=true):Agree (Z0 (f + 1) .stmt d ts) (refF (g + 4) .stmt d ⟨ts,none⟩):=by
 have HD:=hg.tail;obtain ⟨n,m⟩:=Z3c h;have y:Zl Z0d ⟨ts,none⟩=true:=by rw [Z16]; exact h
 have dk:=Z43 h;rw [show (if Z0d=Z19 then (2:Int) else if Z0d=Z1c then 3 else if Z0d=Z06 then 4 else 0)=0 from by decide] at dk;rw [Z0,refF];simp only [];rw [Y9 (n Zi (by decide)),Y9 (n Zs (by decide)),Y9 (n Z19 (by decide)),Y9 (n Z1c (by decide)),Y9 (n Z06 (by decide)),Y9 (n Ze (by decide)),Y9 (n s_if (by decide)),Y9 (n Zz (by decide)),Yb h];rw [Y9 (show ¬ 30 < d by omega),Y9 (m Zi (by decide)),Y9 (m Zs (by decide)),Y9 (m Ze (by decide)),Y9 (m s_if (by decide)),Yb (by rw [Bool.or_eq_true]; exact .inr y)]
 refine ((I HD).around (d:=d)).bind (fun x us hg=>?_) fun t ts e=>by rw [Z9e]; exact Z1x.mk
 rw [Yb y];exact (Z59 fun h=>(I2 hg).stmt h).bind (fun y us hg=>Agree.ok hg) fun t ts e=>Z1x.mk
theorem Zh8 {f d:Nat} {ts:List Tok} {g:Nat} (hg:Z0c ts) (hd:d≤30) (I:∀ {d:Nat} {ts:List Tok},Z0c ts→AG f d ts (g + 3)) (I2:∀ {d:Nat} {ts:List Tok},Z0c ts→AG f d ts (g + 2)) (h:isT Z08 ts=true):Agree (Z0 (f + 1) .stmt d ts) (refF (g + 4) .stmt d ⟨ts,none⟩):=by
 have HD:=hg.tail;obtain ⟨n,m⟩:=Z3c h;have y:Zl Z08 ⟨ts,none⟩=true:=by rw [Z16]; exact h
 have dk:=Z43 h;rw [show (if Z08=Z19 then (2:Int) else if Z08=Z1c then 3 else if Z08=Z06 then 4 else 0)=0 from by decide] at dk;rw [Z0,refF];simp only [];rw [Y9 (n Zi (by decide)),Y9 (n Zs (by decide)),Y9 (n Z19 (by decide)),Y9 (n Z1c (by decide)),Y9 (n Z06 (by decide)),Y9 (n Ze (by decide)),Y9 (n s_if (by decide)),Y9 (n Zz (by decide)),Y9 (n Z0d (by decide)),Yb h]
 rw [Y9 (show ¬ 30 < d by omega),Y9 (m Zi (by decide)),Y9 (m Zs (by decide)),Y9 (m Ze (by decide)),Y9 (m s_if (by decide)),Y9 (show ¬ (Zl Zz ⟨ts,none⟩ || Zl Z0d ⟨ts,none⟩)=true by rw [Bool.or_eq_true,not_or]; exact ⟨(m Zz (by decide)),(m Z0d (by decide))⟩),Y9 (m Z1j (by decide)),Y9 (show ¬ Z48 ⟨ts,none⟩≠0 from fun e=>e dk),Yb y];refine Agree.isT (fun h=>Z4m HD) fun _=>?_;exact ((I HD).value (d:=d)).bind (fun x us hg=>Z4m hg) fun t ts e=>Z8k
theorem Zja {f d:Nat} {ts:List Tok} {g:Nat} (hg:Z0c ts) (hd:d≤30) (I:∀ {d:Nat} {ts:List Tok},Z0c ts→AG f d ts (g + 3)) (I2:∀ {d:Nat} {ts:List Tok},Z0c ts→AG f d ts (g + 2)) (h:isT Z0s ts=true):Agree (Z0 (f + 1) .stmt d ts) (refF (g + 4) .stmt d ⟨ts,none⟩):=by
 have HD:=hg.tail;obtain ⟨n,m⟩:=Z3c h;have y:Zl Z0s ⟨ts,none⟩=true:=by rw [Z16]; exact h
 have dk:=Z43 h;rw [show (if Z0s=Z19 then (2:Int) else if Z0s=Z1c then 3 else if Z0s=Z06 then 4 else 0)=0 from by decide] at dk;rw [Z0,refF];simp only [];rw [Y9 (n Zi (by decide)),Y9 (n Zs (by decide)),Y9 (n Z19 (by decide)),Y9 (n Z1c (by decide)),Y9 (n Z06 (by decide)),Y9 (n Ze (by decide)),Y9 (n s_if (by decide)),Y9 (n Zz (by decide)),Y9 (n Z0d (by decide)),Y9 (n Z08 (by decide)),Yb h]
 rw [Y9 (show ¬ 30 < d by omega),Y9 (m Zi (by decide)),Y9 (m Zs (by decide)),Y9 (m Ze (by decide)),Y9 (m s_if (by decide)),Y9 (show ¬ (Zl Zz ⟨ts,none⟩ || Zl Z0d ⟨ts,none⟩)=true by rw [Bool.or_eq_true,not_or]; exact ⟨(m Zz (by decide)),(m Z0d (by decide))⟩),Y9 (m Z1j (by decide)),Y9 (show ¬ Z48 ⟨ts,none⟩≠0 from fun e=>e dk),Y9 (m Z08 (by decide)),Yb y];exact ((I HD).value (d:=d)).bind (fun x us hg=>Z4m hg) fun t ts e=>Z8k
theorem Zmb {f d:Nat} {ts:List Tok} {g:Nat} (hg:Z0c ts) (hd:d≤30) (I:∀ {d:Nat} {ts:List Tok},Z0c ts→AG f d ts (g + 3)) (I2:∀ {d:Nat} {ts:List Tok},Z0c ts→AG f d ts (g + 2)) (h:isT Z1j ts=true):Agree (Z0 (f + 1) .stmt d ts) (refF (g + 4) .stmt d ⟨ts,none⟩):=by
 have HD:=hg.tail;obtain ⟨n,m⟩:=Z3c h;have y:Zl Z1j ⟨ts,none⟩=true:=by rw [Z16]; exact h
 have dk:=Z43 h;rw [show (if Z1j=Z19 then (2:Int) else if Z1j=Z1c then 3 else if Z1j=Z06 then 4 else 0)=0 from by decide] at dk;rw [Z0,refF];simp only [];rw [Y9 (n Zi (by decide)),Y9 (n Zs (by decide)),Y9 (n Z19 (by decide)),Y9 (n Z1c (by decide)),Y9 (n Z06 (by decide)),Y9 (n Ze (by decide)),Y9 (n s_if (by decide)),Y9 (n Zz (by decide)),Y9 (n Z0d (by decide)),Y9 (n Z08 (by decide)),Y9 (n Z0s (by decide)),Yb h]
 rw [Y9 (show ¬ 30 < d by omega),Y9 (m Zi (by decide)),Y9 (m Zs (by decide)),Y9 (m Ze (by decide)),Y9 (m s_if (by decide)),Y9 (show ¬ (Zl Zz ⟨ts,none⟩ || Zl Z0d ⟨ts,none⟩)=true by rw [Bool.or_eq_true,not_or]; exact ⟨(m Zz (by decide)),(m Z0d (by decide))⟩),Yb y];exact (I HD).try_
theorem Zk9 {f d:Nat} {ts:List Tok} {g:Nat} (hg:Z0c ts) (hd:d≤30) (I:∀ {d:Nat} {ts:List Tok},Z0c ts→AG f d ts (g + 3)) (I2:∀ {d:Nat} {ts:List Tok},Z0c ts→AG f d ts (g + 2)):Agree (Z0 (f + 1) .stmt d ts) (refF (g + 4) .stmt d ⟨ts,none⟩):=by
 by_cases h_lbrace:isT Zi ts=true;·exact Zhr hg hd I I2 h_lbrace
 by_cases h_semi:isT Zs ts=true;·exact Zl4 hg hd I I2 h_semi
 by_cases h_var:isT Z19 ts=true;·exact Zlw hg hd I I2 h_var
 by_cases h_let:isT Z1c ts=true;·exact Zmn hg hd I I2 h_let
 by_cases h_const:isT Z06 ts=true;·exact Zi9 hg hd I I2 h_const
 by_cases h_function:isT Ze ts=true;·exact Zcn hg hd I I2 h_function
 by_cases h_if:isT s_if ts=true;·exact Zmv hg hd I I2 h_if
 by_cases h_while:isT Zz ts=true;·exact Zis hg hd I I2 h_while
 by_cases h_with:isT Z0d ts=true;·exact Zla hg hd I I2 h_with
 by_cases h_return:isT Z08 ts=true;·exact Zh8 hg hd I I2 h_return
 by_cases h_throw:isT Z0s ts=true;·exact Zja hg hd I I2 h_throw
 by_cases h_try:isT Z1j ts=true;·exact Zmb hg hd I I2 h_try
 have m:∀ s,¬ isT s ts=true→¬ Zl s ⟨ts,none⟩=true:=fun s h=>by rw [Z16]; exact h
 have dk:Z48 ⟨ts,none⟩=0:=by unfold Z48; rw [Z16,Z16,Z16,Y9 h_var,Y9 h_let,Y9 h_const]
 rw [Z0,refF];rw [Y9 h_lbrace,Y9 h_semi,Y9 h_var,Y9 h_let,Y9 h_const,Y9 h_function,Y9 h_if,Y9 h_while,Y9 h_with,Y9 h_return,Y9 h_throw,Y9 h_try];rw [Y9 (show ¬ 30 < d by omega),Y9 (m _ h_lbrace),Y9 (m _ h_semi),Y9 (m _ h_function),Y9 (m _ h_if),Y9 (show ¬ (Zl Zz ⟨ts,none⟩ || Zl Z0d ⟨ts,none⟩)=true by rw [Bool.or_eq_true,not_or]; exact ⟨m _ h_while,m _ h_with⟩),Y9 (m _ h_try),Y9 (show ¬ Z48 ⟨ts,none⟩≠0 from fun e=>e dk),Y9 (m _ h_return),Y9 (m _ h_throw)]
 exact ((I hg).value (d:=d)).bind (fun x us hg=>Z4m hg) fun t ts e=>Z8k
theorem agree:∀ (f d:Nat) (ts:List Tok),Z0c ts→∀ g,2 * f + 8≤g→AG f d ts g:=by
 intro f;induction f with
 | zero=>intro d ts hg g hf; constructor <;> intros <;> trivial
 | succ f ih =>
   intro d ts hg g hf;obtain ⟨g,rfl⟩:∃ g',g=g' + 4:=⟨g - 4,by omega⟩
   have I:∀ {d ts},Z0c ts→AG f d ts (g + 3):=fun h=>ih _ _ h _ (by omega);have I2:∀ {d ts},Z0c ts→AG f d ts (g + 2):=fun h=>ih _ _ h _ (by omega);have I4:∀ {d ts},Z0c ts→AG f d ts (g + 4):=fun h=>ih _ _ h _ (by omega);constructor;case prog=>exact Zlc hg I I4
   case stmts=>exact Zji hg I I4
   case block=>exact Zjc hg I I4
   case func=>exact Zk4 hg I I4
   case params=>exact Zh0 hg I I4
   case around=>exact Zhs hg I I4
   case stmt=>exact fun hd=>Zk9 hg hd I I2
   case decl=>exact Zlr hg I I4
   case try_=>exact Zlh hg I I4
   case value=>exact Zjd hg I I4
   case assign=>exact Zg0 hg I I4
   case bin=>exact Zm3 hg I I4
   case binLoop=>exact Zfd hg I I4
   case unary=>exact Zjf hg I I4
   case postfix_=>exact Zck hg I I4
   case postLoop=>exact Zde hg I I4
   case args=>exact Zk3 hg I I4
   case primary=>exact Zev hg I I4
   case object=>exact Zhu hg I I4
theorem Z6i.base {w:World} {B B':Nat} {v:Value} {l:List ByteArray} (h:Z6i w B v l) (hB:B'≤B):Z6i w B' v l:=by
 refine ⟨h.1,?_⟩;rcases h.2 with hn | ⟨g,cap,cur,h1,h2,rest⟩;·exact .inl hn
 ·exact .inr ⟨g,cap,cur,h1,by omega,rest⟩
theorem Zh3 (l:List ATree):(Z46 l).length=Z47 l:=by
 have key:∀ n,∀ l:List ATree,Z47 l≤n→(Z46 l).length=Z47 l:=by
  intro n;induction n with
  | zero =>
    intro l hl;cases l with
    | nil=>rfl
    | cons a l=>exfalso; obtain ⟨b,v,k,t,m,ks⟩:=a; simp only [Z47,ATree.many] at hl; omega
  | succ n ih =>
    intro l hl;cases l with
    | nil=>rfl
    | cons a l =>
      obtain ⟨b,v,k,t,m,ks⟩:=a;simp only [Z47,ATree.many] at hl ⊢;have h1:=ih ks (by omega);have h2:=ih l (by omega);simp only [Z46,ATree.subs,List.length_append,List.length_cons,h1,h2]
 exact key _ l (Y5 _)
def Z8h (a:ATree):Bool:=Z15 a.text Z1d && (a.kind == 1 || a.kind == 6)
theorem Z6a.far {w w':World} {B B':Nat} {v v':Value} {l:List ATree} {ks:List ByteArray} (h:Z6a w B v l) (ht:Z6i w B' v' ks) (hf:∀ k,k < w.heap.size→v'.ownBlock≠some k→w'.heap[k]?=w.heap[k]?):Z6a w' B v l:=by
 refine Zp h fun k hk=>hf k (Yh h k hk).2 fun e=>?_;obtain ⟨c1,f1,h1⟩:=Lib.ownsRow_kind h k hk;obtain ⟨c2,f2,h2⟩:=Lib.ownsRow_kind ht k e;rw [h1] at h2;simp only [Option.some.injEq,Obj.cells.injEq] at h2;exact absurd h2.2.1 (by decide)
theorem Ze8 (w:World) (B:Nat) (a:ATree) (hT:TreeAt w B a) :
 Calls Tryz.prog 10 #[a.ptr] w fun e w'=>e=.returned (.bool (Z8h a))∧w'=w:=by
 have c0:=hT.c0;have c1:=hT.c1;unfold Z8h ATree.ptr;obtain ⟨kd,hkd⟩:=zX a.kind
 obtain ⟨tx,htx⟩:=zX a.text
 rw [← hkd] at c0 ⊢;rw [← htx] at c1 ⊢;clear hkd htx hT;by_cases hs:tx=Z1d
 ·subst hs;have hss : Z15 Z1d Z1d = true := by simp [Z15]
  rw [hss];unfold Z1d at c1;rcases (by omega:kd=1∨kd=6∨(kd≠1∧kd≠6)) with h3 | h3 | ⟨h3,h4⟩
  ·subst h3;go_enter Tryz.func10, Tryz.ntmps10
   go_wp2;go_ret;exact ⟨rfl,rfl⟩
  ·subst h3;go_enter Tryz.func10, Tryz.ntmps10
   go_wp2;go_ret;exact ⟨rfl,rfl⟩
  ·have n3 : (kd == 1) = false := by simpa using h3
   have n4:(kd == 6)=false:=by simpa using h4
   clear h3 h4;rw [n3,n4];go_enter Tryz.func10,Tryz.ntmps10
   go_wp2;go_ret;exact ⟨rfl,rfl⟩
 ·have hne : Z15 tx Z1d = false := by simp [Z15, hs]
  rw [hne];have hne2:(tx.toList == Z1d.toList)=false:=by rw [Z3x]; exact hne
  have hne3:(tx.toList == [115,116,114,105,99,116])=false:=by
   have:Z1d.toList=[115,116,114,105,99,116]:=by kernel_rfl
   rwa [this] at hne2
  clear hne2;clear hs hne;go_enter Tryz.func10,Tryz.ntmps10
  go_wp2;go_ret;exact ⟨rfl,rfl⟩
end Go.Proofs.YtmeiggjboakmpaaGreatDoor
namespace Go.Proofs.YtmeiggjboakmpaaGreatDoor
open Go Go.RowKit Go.ChangeMaps Go.MapKept
set_option maxRecDepth 100000
set_option maxHeartbeats 20000000
def Zmx (b:Nat):Value:=.pointer (some ⟨b,0,none⟩)
def Zi6 (w:World) (k:Nat):Prop:=∃ c t,w.heap[k]?=some (.cells c t (0,0))
def PMap (w:World) (b:Nat) (l:List (Nat×Nat)):Prop:=
 ∃ es clock,w.heap[b]?=some (.map es clock)∧es.toList.map (fun e=>(e.key,e.val))=l.map (fun x=>(Zmx x.1,Value.int .i64 x.2))∧Go.MapKept.Stamped es clock
theorem PMap.len {w:World} {b:Nat} {l:List (Nat×Nat)} (h:PMap w b l):∃ es clock,w.heap[b]?=some (.map es clock)∧es.size=l.length:=by
 obtain ⟨es,clock,hb,he,hst⟩:=h;refine ⟨es,clock,hb,?_⟩;have:=congrArg List.length he;simpa using this
end Go.Proofs.YtmeiggjboakmpaaGreatDoor
namespace Go.Proofs.YtmeiggjboakmpaaGreatDoor
open Go Go.RowKit
set_option maxRecDepth 100000
set_option maxHeartbeats 20000000
theorem Zbo (l m:List ATree):Z46 (l ++ m)=Z46 l ++ Z46 m:=by
 induction l with
 | nil=>rfl
 | cons a l ih=>simp only [List.cons_append,Z46,ih,List.append_assoc]
theorem Zd2 (a:ATree):a.subs=a :: Z46 a.kids:=by cases a; rfl
theorem Zi6.bel {w0 w:World} {k:Nat} (h:Zi6 w0 k) (g:Below w0.heap.size w0 w):Zi6 w k:=by
 obtain ⟨c,t,h⟩:=h;exact ⟨c,t,(g.block k (Y6.1 h).1).trans h⟩
theorem TreeAt.cellsOf {w:World} {B:Nat} {a:ATree} (h:TreeAt w B a):Zi6 w a.b:=⟨_,_,h.blkOf⟩
theorem Z94 (a:ATree):a.subs.length=a.many:=by
 obtain ⟨b,v,k,t,n,ks⟩:=a;simp only [ATree.subs,ATree.many,List.length_cons,Zh3]
theorem Zbh (a:ATree):a.kids.length < a.many:=by
 have key:∀ l:List ATree,l.length≤Z47 l:=by
  intro l;induction l with
  | nil=>simp [Z47]
  | cons x l ih =>
    simp only [Z47,List.length_cons];have:0 < x.many:=by cases x; simp [ATree.many]
    omega
 obtain ⟨b,v,k,t,n,ks⟩:=a;have:=key ks;simp only [ATree.kids,ATree.many];omega
theorem Zi1 {l:List ATree} {k:Nat}:(Z46 (l.take k)).length≤(Z46 l).length:=by
 have e:Z46 l=Z46 (l.take k) ++ Z46 (l.drop k):=by rw [← Zbo,List.take_append_drop]
 rw [e,Yq]; omega
theorem Zfg {l:List ATree} {k:Nat} {x:ATree} (h:l[k]?=some x):Z46 (l.take (k + 1))=Z46 (l.take k) ++ x.subs:=by
 rw [Z7e h,Zbo]; simp [Z46]
theorem Zdj (a:ATree):0 < a.subs.length:=by rw [Zd2]; simp
theorem Zkh (n0:Nat):∀ (a:ATree),a.many≤n0→a.many≤100000→∀ (w:World) (B0:Nat),TreeAt w B0 a →
 Calls Tryz.prog 15 #[a.ptr] w fun e w'=>∃ v,e=.returned v∧Z6a w' w.heap.size v a.subs∧Below w.heap.size w w':=by
 induction n0 with
 | zero=>intro a h; cases a; simp [ATree.many] at h
 | succ n0 ih=>
 intro a hn hmx w B0 hT;obtain ⟨i0,hi,hz0,hz1,hz2⟩:=info_parts Tryz.infoPtr;have HIH:=lh ih;have hblk:=hT.blkOf;have hrow:=hT.rowOf;obtain ⟨p,cp,hv,hge⟩:∃ p cp,a.v=.slice p a.kids.length cp∧a.kids.length≤cp:=by
  rcases Zq hrow with ⟨h1,h2⟩ | ⟨g0,cap0,h1,h2,_⟩;·exact ⟨none,0,by rw [h1,h2],by omega⟩
  ·exact ⟨_,_,h1,h2⟩
 have c3:w.cell? ⟨a.b,3,none⟩=some (.slice p a.kids.length cp):=by rw [← hv]; simp [World.cell?,hblk]
 have hkm:=Zbh a;have hlen:a.kids.length≤100000:=by omega
 have hab:a.b < w.heap.size:=hT.lt;have HT:=lh hT;have HV:=lh hv;have HNN:=lh hn;have HMX:=lh hmx;have hsl:(a :: Z46 a.kids).length≤100000:=by rw [← Zd2,Z94]; exact hmx
 have HSL:=lh hsl;have ST:=lh (show Z6a (w.alloc (.cells #[a.ptr] 22)) w.heap.size (.slice (some ⟨w.heap.size,0,none⟩) 1 1) (a :: Z46 (a.kids.take 0)) from Zda (l:=[a]) (Y5 _) (by simp));have SB:=lh ((Y8 w.heap.size w).alloc (Y5 _) (.cells #[a.ptr] 22));unfold ATree.ptr at ST SB ⊢;obtain ⟨n,hnn⟩:=zX a.kids.length
 rw [← hnn] at c3 hlen hge;have HN:=lh hnn;have HC3:=lh c3;have c3':(w.alloc (.cells #[.pointer (some ⟨a.b,0,none⟩)] 22)).cell? ⟨a.b,3,none⟩=some (.slice p n cp):=(Z8 hab).trans c3;clear hblk hrow hv hnn hT hkm hsl ih hn hmx;go_enter Tryz.func15,Tryz.ntmps15
 go_wp2_with fail
 go_loopw [3,15] (fun v i wr=>∃ (k:Nat) (v':Value),v'=v∧k≤n∧i=.int .i64 k∧Hid (Z6a wr w.heap.size v' (a :: Z46 (a.kids.take k)))∧Hid (Below w.heap.size w wr)) (fun _ i _=>n - (intOf i).toNat)
 case atStart=>exact ⟨0,_,rfl,Yp _,rfl,ST,SB⟩
 case round=>
  obtain ⟨k,v,rfl,hk,rfl,HR,HB⟩:=hrel;clear ST SB;by_cases hkn:k < n
  ·obtain ⟨x, hx⟩ : ∃ x, a.kids[k]? = some x := ⟨_, Yd (by rw [← HN.out]; exact hkn)⟩
   have hT2:=HT.out.bel HB.out;have hrow:=hT2.rowOf;rcases Zq hrow with ⟨_,h2⟩ | ⟨g0,cap0,hv0,_⟩;·rw [← HN.out] at h2; omega
   have hp:p=some ⟨g0,0,none⟩:=by
    have:=HV.out.symm.trans hv0;simp only [Value.slice.injEq] at this;exact this.1
   subst hp;have cx:=Z17 hrow (g:=g0) (by rw [hv0]; rfl) (i:=k) (x:=x.ptr) (by rw [Yo,hx]; rfl);unfold ATree.ptr at cx;have hmem:=Yl hx;have hTx:=hT2.kid hmem;have hxm:=Zam hmem;have HC:=lh (HIH.out x (by have:=HNN.out; omega) (by have:=HMX.out; omega) wr B0 hTx);have HNX:=lh (Zfg hx);have HPO:=lh (Zdj x);have HL2:=lh (show (a :: Z46 (a.kids.take (k + 1))).length≤100000 from Ya (by simp only [List.length_cons]; have:=Zi1 (l:=a.kids) (k:=k + 1); omega) HSL.out);unfold ATree.ptr at HC;clear hT2 hrow hv0 hTx hxm hmem hx
   go_wp2_with fail
   refine HC.out.mono ?_;rintro e w1 ⟨vk,rfl,hNk,hB1⟩;obtain ⟨L,hL⟩:=zX (a :: Z46 (a.kids.take k))
   have hNR:=HR.out;rw [← hL] at hNR;rcases hNk.form with ⟨_,h2⟩ | ⟨g1,cap1,rfl,hc1,hc2⟩;·have:=HPO.out; rw [h2] at this; simp at this
   have hL2:=HL2.out;have hLx:L ++ x.subs=a :: Z46 (a.kids.take (k + 1)):=by rw [HNX.out,hL]; rfl
   rw [← hLx,Yq] at hL2;have HLX:=lh hLx;have hR1:Z6a w1 w.heap.size v L:=Zp hNR fun j hj=>hB1.block j (Yh hNR j hj).2;have hg1:wr.heap.size≤g1∧g1 < w1.heap.size:=Yh hNk g1 rfl;have NEWS:=lh (show ∀ (j:Nat) (u:Value),(x.subs.map ATree.ptr)[j]?=some u→w1.cell? ((⟨g1,0,none⟩:Addr).add j)=some u from fun j u hu=>by
    have hadd:(⟨g1,0,none⟩:Addr).add j=⟨g1,j,none⟩:=by unfold Addr.add; split <;> simp_all
    rw [hadd];exact Z17 hNk (g:=g1) rfl hu)
   obtain ⟨m,hm⟩:=zX x.subs.length
   have hm0:0 < m:=by rw [hm]; exact HPO.out
   have hLm:L.length + m≤100000:=by rw [hm]; exact hL2
   rw [← hm] at hc1 ⊢;have HM:=lh hm;have HNR:=lh hR1;have HNR0:=lh hNR;have HB1:=lh hB1;have HNF:=lh (show v.ownBlock≠some g1 from fun e=>by have:=(Yh hNR g1 e).2; omega);have HG1:=lh hg1;have hBS:=HB.out.size;have hB1s:=hB1.size;clear hNk hL hNR hL2 hLx hR1 hg1 hm hB1 HC HR HNX HL2
   go_wp2_with (at_builtin; go_must (refine wpList_append_lies _ rfl (.tmp 19) (.tmp 21) 36 rfl w.heap.size 22 i0 _ 1 8 Tryz.underlying36 hi hz0 hz1 hz2 rfl (by decide) v L.length (L.map ATree.ptr) rfl HNR.out ⟨g1,0,none⟩ m cap1 (x.subs.map ATree.ptr) rfl (by simp [HM.out]) NEWS.out (fun u hu=>by obtain ⟨z,_,rfl⟩:=List.mem_map.1 hu; rfl) (by omega) (by unfold maxLen; omega) (by omega) (by omega) w1.heap.size (by simp) ?_); intro gg cap w2 hown2 hgrow2 hat2 hgl2; have HG:=lh hgrow2; have HW:=lh hown2; clear hgrow2 hown2 hat2 hgl2)
   go_roundw
   case rel=>
    refine ⟨k + 1,_,rfl,by omega,by go_num,lh ?_,lh ?_⟩
    ·rw [← HLX.out];unfold Z6a;rw [Yq,Yu,← HM.out];exact HW.out
    ·exact (HB.out.trans (HB1.out.mono hBS)).grown HG.out (by omega) fun j hj=>(Yh HNR0.out j hj).1
   case measure=>simp [intOf]; omega
  ·have hk2 : k = n := by omega
   subst hk2;go_wp2;go_ret;refine ⟨_,rfl,?_,HB.out⟩;have:=HR.out;rwa [Ym (by rw [← HN.out]; exact Y5 _),← Zd2] at this
end Go.Proofs.YtmeiggjboakmpaaGreatDoor
namespace Go.Proofs.YtmeiggjboakmpaaGreatDoor
open Go Go.RowKit Go.Maps
set_option maxRecDepth 100000
set_option maxHeartbeats 20000000
theorem Zj2 (w:World) (s:ByteArray) (hlen:s.size≤maxLen) (c0:Int) (hc:(litD Zjz).atKey (.string s.data.toList) (.lit (.int .i64 0))=.lit (.int .i64 c0)) :
 Calls Tryz.prog 127 #[.string s] w fun e w'=>e=.returned (.int .i64 c0)∧Below w.heap.size w w':=by
 have hmm:=@run_makeMap Tryz.prog;have h0:=World.ownsMap_made (H:=Unit) w Tryz.prog 9 (plainElem Tryz.prog 3);have hB0:Below w.heap.size w (w.alloc (.map #[] 0)):=(Y8 _ _).alloc (Y5 _) _;have HL:=lh hlen;have HC:=lh hc;clear hlen hc;go_enter Tryz.func127,Tryz.ntmps127
 go_wp2_with (first | (refine Z9 _ rfl _ _ _ 82 rfl 9 3 Tryz.keyedS Tryz.underlying82 _ _ 0 _ rfl h0 (by unfold maxLen; omega) _ _ _ rfl rfl (Yw Yr (by decide)) _ [] (plainElem_int Ys (by decide)) ?_; intro w1 h1 g1) | (refine Z9 _ rfl _ _ _ 82 rfl 9 3 Tryz.keyedS Tryz.underlying82 _ _ 1 _ rfl h1 (by unfold maxLen; omega) _ _ _ rfl rfl (Yw Yr (by decide)) _ [] (plainElem_int Ys (by decide)) ?_; intro w2 h2 g2) | (refine Z9 _ rfl _ _ _ 82 rfl 9 3 Tryz.keyedS Tryz.underlying82 _ _ 2 _ rfl h2 (by unfold maxLen; omega) _ _ _ rfl rfl (Yw Yr (by decide)) _ [] (plainElem_int Ys (by decide)) ?_; intro w3 h3 g3) | (refine Z9 _ rfl _ _ _ 82 rfl 9 3 Tryz.keyedS Tryz.underlying82 _ _ 3 _ rfl h3 (by unfold maxLen; omega) _ _ _ rfl rfl (Yw Yr (by decide)) _ [] (plainElem_int Ys (by decide)) ?_; intro w4 h4 g4) | (refine Z9 _ rfl _ _ _ 82 rfl 9 3 Tryz.keyedS Tryz.underlying82 _ _ 4 _ rfl h4 (by unfold maxLen; omega) _ _ _ rfl rfl (Yw Yr (by decide)) _ [] (plainElem_int Ys (by decide)) ?_; intro w5 h5 g5) | (refine Z9 _ rfl _ _ _ 82 rfl 9 3 Tryz.keyedS Tryz.underlying82 _ _ 5 _ rfl h5 (by unfold maxLen; omega) _ _ _ rfl rfl (Yw Yr (by decide)) _ [] (plainElem_int Ys (by decide)) ?_; intro w6 h6 g6) | (refine Z9 _ rfl _ _ _ 82 rfl 9 3 Tryz.keyedS Tryz.underlying82 _ _ 6 _ rfl h6 (by unfold maxLen; omega) _ _ _ rfl rfl (Yw Yr (by decide)) _ [] (plainElem_int Ys (by decide)) ?_; intro w7 h7 g7) | (at_lookup; refine wpList_lookup_own_int _ rfl _ _ 82 rfl 9 3 .i64 Tryz.keyedS Tryz.underlying82 Ys (Tryz.zeroI _) _ 7 _ rfl h7 _ _ rfl (Yw Yr HL.out) ?_; intro c hat hwc))
 go_ret;have e:=HC.out.symm.trans hat;obtain rfl:c0=c:=by
  have:(DataW.lit (.int .i64 c0):DataW Unit)=.lit (.int .i64 c):=e;simpa using this
 have s0:w.heap.size≤(w.alloc (.map #[] 0)).heap.size:=hB0.size;have B1:=Z00 hB0 g1 (Y5 _) s0;have B2:=Z00 B1 g2 (Y5 _) B1.size;have B3:=Z00 B2 g3 (Y5 _) B2.size;have B4:=Z00 B3 g4 (Y5 _) B3.size;have B5:=Z00 B4 g5 (Y5 _) B4.size;have B6:=Z00 B5 g6 (Y5 _) B5.size;exact ⟨rfl,Z00 B6 g7 (Y5 _) B6.size⟩
theorem Zlk (w:World) (s:ByteArray) (hs:Z37 s≠0):Calls Tryz.prog 127 #[.string s] w fun e w'=>e=.returned (.int .i64 (Z37 s))∧Below w.heap.size w w':=by
 have key:s=s_or∨s=Z5n∨s=Z3h∨s=Z4i∨s=Z51∨s=Z5p∨s=Z6o:=by
  unfold Z37 Z15 at hs;simp only [decide_eq_true_eq] at hs;by_cases h1:s=s_or;·exact .inl h1
  by_cases h2:s=Z5n;·exact .inr (.inl h2)
  by_cases h3:s=Z3h;·exact .inr (.inr (.inl h3))
  by_cases h4:s=Z4i;·exact .inr (.inr (.inr (.inl h4)))
  by_cases h5:s=Z51;·exact .inr (.inr (.inr (.inr (.inl h5))))
  by_cases h6:s=Z5p;·exact .inr (.inr (.inr (.inr (.inr (.inl h6)))))
  by_cases h7:s=Z6o;·exact .inr (.inr (.inr (.inr (.inr (.inr h7)))))
  simp [h1,h2,h3,h4,h5,h6,h7] at hs
 rcases key with rfl | rfl | rfl | rfl | rfl | rfl | rfl;all_goals exact Zj2 w _ (by decide) _ (by kernel_rfl)
end Go.Proofs.YtmeiggjboakmpaaGreatDoor
namespace Go.Proofs.YtmeiggjboakmpaaGreatDoor
open Go Go.RowKit
set_option maxRecDepth 100000
set_option maxHeartbeats 20000000
def bArg (lv:Nat) (rb:Nat):Array Value:=#[.pointer (some ⟨rb,0,none⟩),.int .i64 lv]
theorem Zes {lv:Nat} {ts:List Tok} (h:∀ (i:Nat) (x:ByteArray),(levL lv)[i]?=some x→isT x ts=false):Z2i lv ts=0:=by
 match lv with
 | 0=>have h0:=h 0 s_or rfl; simp [Z2i,h0]
 | 1=>have h0:=h 0 Z5n rfl; simp [Z2i,h0]
 | 2=>have h0:=h 0 Z3h rfl; simp [Z2i,h0]
 | 3=>have h0:=h 0 Z4i rfl; simp [Z2i,h0]
 | 4=>have h0:=h 0 Z51 rfl; have h1:=h 1 Z5p rfl; simp [Z2i,h0,h1]
 | 5=>have h0:=h 0 Z6o rfl; simp [Z2i,h0]
 | n + 6=>rfl
theorem Zeu {lv:Nat} {ts:List Tok} {k:Nat} {x:ByteArray} (hk:(levL lv)[k]?=some x) (hx:isT x ts=true) (h:∀ (i:Nat) (y:ByteArray),i < k→(levL lv)[i]?=some y→isT y ts=false):Z2i lv ts=Z37 x∧Z37 x≠0:=by
 match lv with
 | 0 =>
   match k with
   | 0 => obtain rfl : s_or = x := by simpa [levL] using hk
          exact ⟨by simp [Z2i,hx]; decide,by decide⟩
   | k + 1=>simp [levL] at hk
 | 1 =>
   match k with
   | 0 => obtain rfl : Z5n = x := by simpa [levL] using hk
          exact ⟨by simp [Z2i,hx]; decide,by decide⟩
   | k + 1=>simp [levL] at hk
 | 2 =>
   match k with
   | 0 => obtain rfl : Z3h = x := by simpa [levL] using hk
          exact ⟨by simp [Z2i,hx]; decide,by decide⟩
   | k + 1=>simp [levL] at hk
 | 3 =>
   match k with
   | 0 => obtain rfl : Z4i = x := by simpa [levL] using hk
          exact ⟨by simp [Z2i,hx]; decide,by decide⟩
   | k + 1=>simp [levL] at hk
 | 4 =>
   match k with
   | 0 => obtain rfl : Z51 = x := by simpa [levL] using hk
          exact ⟨by simp [Z2i,hx]; decide,by decide⟩
   | 1 => obtain rfl : Z5p = x := by simpa [levL] using hk
          have h0:=h 0 Z51 (by omega) rfl;exact ⟨by simp [Z2i,hx,h0]; decide,by decide⟩
   | k + 2=>simp [levL] at hk
 | 5 =>
   match k with
   | 0 => obtain rfl : Z6o = x := by simpa [levL] using hk
          exact ⟨by simp [Z2i,hx]; decide,by decide⟩
   | k + 1=>simp [levL] at hk
 | n + 6=>simp [levL] at hk
theorem Zho (f:Nat) (hU:Says 126 rArg .unary f):Says 115 (bArg 6) (.bin 6) (f + 1):=by
 intro w rb B d ts r hP hp;have hw:Z0 f .unary d ts=some r:=hp;have HC:=lh (hU w rb B d ts r hP hw);clear hP hp hw hU;unfold rArg at HC;unfold bArg;go_enter Tryz.func115,Tryz.ntmps115
 go_wp2;go_step3
 go_wp2_with fail
 refine HC.out.mono ?_;rcases r with ⟨c,p⟩ | ⟨t,ts'⟩
 ·rintro e w2 ⟨⟨b,rfl,h1,h2⟩,hF⟩;exact ⟨rfl,⟨b,rfl,h1,h2⟩,hF⟩
 ·rintro e w2 ⟨a, rfl, hG, hR, hF⟩;have HG := lh hG;have HR := lh hR;have HF := lh hF;clear hG hR hF HC;go_wp2;try rw [Exit.noGoto_ret]
  go_ret;exact ⟨a,rfl,HG.out,HR.out,HF.out⟩
theorem Zal {P:Program} {a:Act} {w:World} {Q:Exit→Act→World→Prop} {c rest:Code} (l:Nat) (J:Act→World→Prop) (μ:Act→World→Nat) (hf:findLabel c l=some (Code.skip.seq rest))
 (first:(∀ a w,J a w→rest.wp P (Exit.jump l J Q) a w)→c.wp P (Exit.jump l J Q) a w)
 (pass:∀ a w,J a w→rest.wp P (Exit.jump l (fun a' w'=>J a' w'∧μ a' w' < μ a w) Q) a w):(Code.scope c).wp P Q a w:=
 wp_scope_jumps l J μ hf (first fun a w h=>Code.wp_mono (fun e a' w' hq=>by cases e <;> first | exact hq | exact ⟨hq.1,hq.2.1⟩) (pass a w h)) fun a w h=>wp_seq (wp_skip (pass a w h))
def BinJ (f lv d:Nat) (w:World) (rb B:Nat) (r:Except (Int×Nat) (Tree×List Tok)) (n:Nat) (a:ATree) (w':World):Prop:=
 ∃ (g:Nat) (us:List Tok) (t:Tree),g≤f∧Z0 g (.binLoop lv t) d us=some r∧Got w B w' a t∧Pre w' rb B d us∧RFr w w' rb∧us.length≤n
theorem Ziz (f lv:Nat) (hlv:lv < 6) (hB:∀ g,g≤f→Says 115 (bArg (lv + 1)) (.bin (lv + 1)) g):Says 115 (bArg lv) (.bin lv) (f + 1):=by
 intro w rb B d ts r hP hp;have hw:Z0g (Z0 f (.bin (lv + 1)) d ts) (fun x ts=>Z0 f (.binLoop lv x) d ts)=some r:=by rw [← hp,Z0,Y9 (by omega)]
 have HP:=lh hP;have HB:=lh hB;have H1:=lh hw;have l6:((lv:Int) == 6)=false:=by simp; omega
 have l0:0≤(lv:Int):=by omega
 have l1:(lv:Int) < 6:=by omega
 have lw:((lv + 1:Nat):Int)=(lv:Int) + 1:=by omega
 clear hP hp hw hB;unfold bArg;go_enter Tryz.func115,Tryz.ntmps115
 go_wp2;refine Zal 0 (fun a' w'=>∃ (a:ATree) (u2 u3 u6 u7 u8 u9 u10 u11 u12 u13 u14 u15 u16 u17 u18 u19 u20 u21 u22 u23 u24 u25 u26 u27 u28 u29 u30 u31 u32 u33 u34 u35 u36 u37 u38:Value),a'={ tmps:=#[.pointer (some ⟨rb,0,none⟩),.int .i64 lv,u2,u3,.pointer none,.pointer (some ⟨a.b,0,none⟩),u6,u7,u8,u9,u10,u11,u12,u13,u14,u15,u16,u17,u18,u19,u20,u21,u22,u23,u24,u25,u26,u27,u28,u29,u30,u31,u32,u33,u34,u35,u36,u37,u38],defers:=[] }∧BinJ f lv d w rb B r ts.length a w') (fun _ w'=>leftOf w' rb) rfl (fun PASS=>?_) ?_
 ·have PASS := lh PASS;rcases Z09 H1.out with ⟨⟨c, p⟩, hv, rfl⟩ | ⟨t, us, hv, h2⟩
  ·have HV := (HB.out f (Y5 _)) w rb B d _ _ HP.out hv;unfold bArg at HV;rw [lw] at HV;have HV := lh HV;clear hv lw;go_wp2_with fail
   refine HV.out.mono ?_;rintro e w2 ⟨⟨b,rfl,h1,h2⟩,hF⟩;exact ⟨rfl,⟨b,rfl,h1,h2⟩,hF⟩
  ·have HV := (HB.out f (Y5 _)) w rb B d _ _ HP.out hv;unfold bArg at HV;rw [lw] at HV;have HV := lh HV;have hl := Z1i hv;have H2 := lh h2;clear hv h2 lw;go_wp2_with fail
   refine HV.out.mono ?_;rintro e w2 ⟨a,rfl,hG,hR2,hF2⟩;have hJ:BinJ f lv d w rb B r ts.length a w2:=⟨f,us,t,Y5 _,H2.out,hG,HP.out.next hR2 hF2 hl,hF2,hl⟩
   have HJ:=lh hJ;clear hG hR2 hF2 hl hJ;go_wp2_with fail
   go_step3
   rename_i Q1 K1 hK1;refine hK1 _ _ (PASS.out _ _ ?_);exact ⟨a,_,_,_,_,_,_,_,_,_,_,_,_,_,_,_,_,_,_,_,_,_,_,_,_,_,_,_,_,_,_,_,_,_,_,_,rfl,HJ.out⟩
 ·rintro a' w1 ⟨a, u2, u3, u6, u7, u8, u9, u10, u11, u12, u13, u14, u15, u16, u17, u18, u19, u20, u21, u22, u23, u24, u25, u26, u27, u28, u29, u30, u31, u32, u33, u34, u35, u36, u37, u38, rfl, g, us, t, hg, hq, hG, hP1, hF, hl⟩;have G1 := lh hG;have P1 := lh hP1;have F1 := lh hF;have RL := lh hP1.rd.left;have HL := lh hl;have HQ := lh hq;obtain ⟨tb, off, cap, hR⟩ := hP1.rd;obtain ⟨sb, so, sc, hgl, hsl, hc0, hsc, hcs⟩ := hR.lev lv hlv;have HCS := lh hcs;obtain ⟨n, hn⟩ := zX ((levL lv).length)
  have n2:n≤2:=by rw [hn]; match lv,hlv with | 0,_=>decide | 1,_=>decide | 2,_=>decide | 3,_=>decide | 4,_=>decide | 5,_=>decide
  rw [← hn] at hc0 hsc;have HN:=lh hn;have hsz:sb < w1.heap.size:=Nat.lt_trans hsl hR.rlt;obtain ⟨ab,hab⟩:=zX a.b
  rw [← hab];have HAB:=lh hab;clear hG hP1 hF hl hR hcs hn hq hab lw;go_wp2_with fail
  go_loopw [5,20] (fun v5 i wr=>v5=.pointer (some ⟨ab,0,none⟩)∧∃ k:Nat,k≤n∧i=.int .i64 k∧Hid (∀ (j:Nat) (y:ByteArray),j < k→(levL lv)[j]?=some y→isT y us=false)∧Hid (Below w1.heap.size w1 wr)) (fun _ i _=>n - (intOf i).toNat)
  case atStart=>exact ⟨rfl,0,Yp _,rfl,lh (fun j y hj=>by omega),lh (Y8 _ _)⟩
  case round=>
   obtain ⟨rfl,k,hk,rfl,NO,BW⟩:=hrel;by_cases hkn:k < n
   ·obtain ⟨x, hx⟩ : ∃ x, (levL lv)[k]? = some x := ⟨_, Yd (by rw [← HN.out]; exact hkn)⟩
    have cx:=(BW.out.cell (p:=⟨sb,so + k,none⟩) hsz).trans (HCS.out k x hx);have HX:=lh hx;have R2:=P1.out.rd.below BW.out;clear hx;by_cases hs:isT x us=true
    ·have hlt := Zeu HX.out hs (fun j y hj hy => NO.out j y hj hy);have HT := lh (Z1g wr rb us d x R2 hs);have HS := lh hs;have LT := lh hlt;have hpos := Z0j hs;have HPOS := lh hpos;clear hs R2 hlt hpos;cases g with
     | zero=>cases HQ.out
     | succ g=>
     have hq:Z0g (Z0 g (.bin (lv + 1)) d us.tail) (fun y ts'=>Z0 g (.binLoop lv (.mk (Z2i lv us) ByteArray.empty 0 [t,y])) d ts')=some r:=by
      have hq:=HQ.out;rw [Z0,Y9 (by rw [LT.out.1]; exact LT.out.2)] at hq;exact hq
     rw [LT.out.1] at hq;have HQ2:=lh hq;clear hq;go_wp2_with fail
     refine HT.out.mono ?_;rintro e w2 ⟨rfl,hR2,hF2⟩;have P2:=lh ((P1.out.below BW.out).tail hR2 hF2);have F12:=lh ((RFr.below (rb:=rb) BW.out).trans hF2);have HSG:=lh (Zlk w2 x LT.out.2);obtain ⟨sk,hsk⟩:=zX (Z37 x)
     rw [← hsk] at HSG;have HSK:=lh hsk;clear hR2 hF2 HT hsk;go_wp2_with fail
     refine HSG.out.mono ?_;rintro e w3 ⟨rfl,hB3⟩;have P3:=lh (P2.out.below hB3);have F13:=lh (F12.out.trans (RFr.below (rb:=rb) hB3));have lw:((lv + 1:Nat):Int)=(lv:Int) + 1:=by omega
     clear hB3 HSG;rcases Z09 HQ2.out with ⟨⟨c,p⟩,hv,rfl⟩ | ⟨y,vs,hv,h4⟩
     ·have HV := (HB.out g (by omega)) w3 rb B d _ _ P3.out hv;unfold bArg at HV;rw [lw] at HV;have HV := lh HV;clear hv lw;go_wp2_with fail
      refine HV.out.mono ?_;rintro e w4 ⟨⟨b,rfl,h1,h2⟩,hF⟩;exact ⟨rfl,Z0r.pre (F1.out.trans F13.out) (r:=.error (c,p)) ⟨⟨b,rfl,h1,h2⟩,hF⟩⟩
     ·have HV := (HB.out g (by omega)) w3 rb B d _ _ P3.out hv;unfold bArg at HV;rw [lw] at HV;have HV := lh HV;have hll := Z1i hv;have H4 := lh h4;clear hv lw h4;go_wp2_with fail
      refine HV.out.mono ?_;rintro e w4 ⟨c,rfl,hC,hR4,hF4⟩;have hG13:=G1.out.rfr P1.out.lt F13.out;have hG4:=hG13.rfr P1.out.lt hF4;have F4:=(F1.out.trans F13.out).trans hF4;have hfin:=Got.two (k:=sk) (t:=⟨#[]⟩) HP.out.le F4 hG4 (wA:=w3) (fun x hx=>(hG13.new x hx).2) (F1.out.trans F13.out).size hC;have hb1:Below w4.heap.size w4 (w4.alloc (.cells #[.pointer (some ⟨ab,0,none⟩),.pointer (some ⟨c.b,0,none⟩)] 22)):=(Y8 _ _).alloc (Y5 _) _
      have hb2:Below w4.heap.size w4 ((w4.alloc (.cells #[.pointer (some ⟨ab,0,none⟩),.pointer (some ⟨c.b,0,none⟩)] 22)).alloc (.cells #[.int .i64 sk,.string ⟨#[]⟩,.int .i64 0,.slice (some ⟨w4.heap.size,0,none⟩) 2 2] 38)):=hb1.alloc (by simp) _;have F6:=lh (F4.trans (RFr.below (rb:=rb) hb2));have P6:=lh (((P3.out.next hR4 hF4 hll).below hb2));have FIN:=lh hfin;have HLL:=lh hll;clear hC hR4 hF4 hG4 hG13 F4 HV hb1 hb2 hfin hll;go_wp2_with fail
      refine (Z14 _ rb sk ⟨#[]⟩ _ 2 2).mono ?_;rintro e w7 ⟨rfl,rfl⟩;go_wp2;go_step3
      refine ⟨rfl,⟨.mk (w4.heap.size + 1) (.slice (some ⟨w4.heap.size,0,none⟩) 2 2) sk ⟨#[]⟩ 0 [a,c],_,_,_,_,_,_,_,_,_,_,_,_,_,_,_,_,_,_,_,_,_,_,_,_,_,_,_,_,_,_,_,_,_,_,_,rfl,g,vs,.mk sk ByteArray.empty 0 [t,y],by omega,?_,?_,P6.out,F6.out,?_⟩,?_⟩;·rw [HSK.out]; exact H4.out
      ·rw [HAB.out]; exact FIN.out
      ·have:=HLL.out; have:=HL.out; have:=Z1a us; omega
      ·rw [P6.out.rd.left,RL.out]; have:=HLL.out; have:=HPOS.out; omega
    ·have hs' : isT x us = false := by simpa using hs
     have HT:=lh (Z22 wr rb us d x R2 hs');have HS:=lh hs';clear hs hs' R2;go_wp2_with fail
     refine HT.out.mono ?_;rintro e w2 ⟨rfl,hB2⟩;have B2:=lh hB2;clear hB2;go_wp2;go_roundw
     case rel=>exact ⟨rfl,k + 1,by omega,by go_num,lh (fun j y hj hy=>by
      by_cases e:j=k;·subst e; obtain rfl:=Yk (HX.out.symm.trans hy); exact HS.out
      ·exact NO.out j y (by omega) hy),lh (BW.out.trans (B2.out.mono BW.out.size))⟩
     case measure=>simp [intOf]; omega
   ·have hkk : k = n := by omega
    have NO2:Hid (Z2i lv us=0):=lh (Zes fun i y hi=>NO.out i y (by rw [hkk,HN.out]; exact (List.getElem?_eq_some_iff.1 hi).1) hi);clear hkk;go_wp2_with fail
    simp only [Exit.jump];go_ret;cases g with
    | zero=>cases HQ.out
    | succ g =>
      have hq:=HQ.out;rw [Z0,Yb NO2.out] at hq;obtain rfl:=Yk hq;rw [HAB.out];exact ⟨a,rfl,G1.out.rfr P1.out.lt (RFr.below BW.out),P1.out.rd.below BW.out,F1.out.trans (RFr.below BW.out)⟩
end Go.Proofs.YtmeiggjboakmpaaGreatDoor
namespace Go.Proofs.YtmeiggjboakmpaaGreatDoor
open Go
set_option maxRecDepth 100000
set_option maxHeartbeats 20000000
section
variable {P:Program} {ops:Array Oper} {md:Region.Mode}
def Zd9 (P:Program) (ops:Array Oper) (K:Act→Prop):List Oper→Act→Prop
 | [],a=>K a
 | o :: r,a=>∃ v,YieldsIf P ops (fun _=>True) o v a∧Zd9 P ops K r (a.put o.dst v)
theorem Zen {K:Act→Prop} {o:Oper} {r:List Oper} {a:Act} (v:Value)
 (hw:Region.wanted o (yielded ops a.tmps)=true) (hy:∀ w',True→(execOp a.eval o).run P w'=.ok (.value v) w') (h:Zd9 P ops K r (a.put o.dst v)):Zd9 P ops K (o :: r) a:=
 ⟨v,.inl ⟨hw,hy⟩,h⟩
def Zjt (md:Region.Mode) (ops:Array Oper):List Nat→Array Bool→Bool
 | [],_=>true
 | i :: r,listed=>(Region.ready md ops listed).contains i && Region.free md ops listed i && Zjt md ops r (listed.setIfInBounds i true)
def dagB (md:Region.Mode) (ops:Array Oper) (pre L ph:List Nat):Bool:=
 Region.noSelect ops && Z4g md ops ph && Zcp md ops ph (((List.range ops.size).map fun j=>!ph.contains j).toArray) && Zjt md ops pre (Z1r ph (Array.replicate ops.size false)) &&
  decide (pre.length + L.length + ph.length=ops.size) && (pre.all fun i=>decide (i < ops.size)) && ((List.range ops.size).all fun j=>pre.contains j || L.contains j || ph.contains j)
theorem Z3k {m:Array Bool} {i j:Nat} (h:i < m.size):(m.setIfInBounds i true).getD j false=if i=j then true else m.getD j false:=by
 by_cases e:i=j;·subst e; simp [h]
 ·rw [getD_set_ne false e,Y9 e]
theorem Zfu {Q:Exit→Act→World→Prop} {L:List Nat} (Inv:Array Bool→Act→World→Prop) (hback:Zgg md ops=true)
 (hS:∀ listed i a w,listed.size=ops.size→i∈L→i < ops.size→listed.getD i false=false→(∀ j,waits md ops i j=true→listed.getD j false=true)→Inv listed a w→wpOp P ops Q i (fun a' w'=>Inv (listed.setIfInBounds i true) a' w') a w)
 (hE:∀ listed a w,(∀ j,j < ops.size→listed.getD j false=true)→Inv listed a w→Q .normal a w) :
 ∀ (k:Nat) (listed:Array Bool) (a:Act) (w:World),listed.size=ops.size→(∀ j,j < ops.size→listed.getD j false=true∨j∈L)→(L.filter fun j=>!listed.getD j true).length≤k→Inv listed a w→wpAnyH P md ops Q (fun _=>True) k listed a w:=by
 have done:∀ listed:Array Bool,listed.size=ops.size→Region.ready md ops listed=[]→∀ j,j < ops.size→listed.getD j false=true:=by
  intro listed hs hr j hj;cases h:listed.getD j false with
  | true=>rfl
  | false=>exact absurd hr (Z7s hback hs j hj h)
 intro k;induction k with
 | zero =>
   intro listed a w hs hL hk hI;have hr:Region.ready md ops listed=[]:=by
    refine List.eq_nil_iff_forall_not_mem.2 fun i hi=>?_;obtain ⟨h0,o,ho,_⟩:=mem_ready.1 hi;have hil:i < ops.size:=(Y6.1 ho).1;have h1:i∈L:=(hL i hil).resolve_left (by rw [← Zar (by omega),h0]; simp);have:i∈L.filter fun j=>!listed.getD j true:=List.mem_filter.2 ⟨h1,by rw [h0]; rfl⟩;have:=List.length_pos_of_mem this;omega
   exact ⟨hr,hE listed a w (done listed hs hr) hI⟩
 | succ k ih =>
   intro listed a w hs hL hk hI;refine ⟨fun hr=>hE listed a w (done listed hs hr) hI,fun i hi=>?_⟩;obtain ⟨h0,o,ho,hall⟩:=mem_ready.1 hi;have hil:i < ops.size:=(Y6.1 ho).1;have h0':listed.getD i false=false:=by rw [← Zar (by omega)]; exact h0
   have h1:i∈L:=(hL i hil).resolve_left (by rw [h0']; simp);refine wpOp_mono (fun a' w' h=>⟨trivial,ih _ a' w' (by simpa using hs) (fun j hj=>?_) ?_ h⟩) (hS listed i a w hs h1 hil h0' (fun j hj=>Z87 hj hi) hI)
   ·rw [Z3k (by omega)];by_cases e : i = j;·rw [Yb e]; exact .inl rfl
    ·rw [Y9 e]; exact hL j hj
   ·have hlt:(L.filter fun j=>!(listed.setIfInBounds i true).getD j true).length < (L.filter fun j=>!listed.getD j true).length:=by
     have sub:∀ l:List Nat,(l.filter fun j=>!(listed.setIfInBounds i true).getD j true).length≤(l.filter fun j=>!listed.getD j true).length∧(i∈l→(l.filter fun j=>!(listed.setIfInBounds i true).getD j true).length < (l.filter fun j=>!listed.getD j true).length):=by
      intro l;induction l with
      | nil=>exact ⟨Y5 _,fun h=>by cases h⟩
      | cons x l ihl =>
        by_cases e:i=x
        ·subst e;have e1 : (listed.setIfInBounds i true).getD i true = true := by simp [show i < listed.size by omega]
         simp only [List.filter_cons,e1,h0,Bool.not_true,Bool.not_false,if_true,Bool.false_eq_true,if_false,List.length_cons];exact ⟨by omega,fun _=>by omega⟩
        ·have e1 : (listed.setIfInBounds i true).getD x true = listed.getD x true := getD_set_ne true e;simp only [List.filter_cons, e1];cases listed.getD x true
         ·simp only [Bool.not_false,if_true,List.length_cons];exact ⟨by omega,fun h=>by have:=ihl.2 (by rcases List.mem_cons.1 h with h | h; exact absurd h e; exact h); omega⟩
         ·simp only [Bool.not_true,Bool.false_eq_true,if_false];exact ⟨ihl.1,fun h=>ihl.2 (by rcases List.mem_cons.1 h with h | h; exact absurd h e; exact h)⟩
     exact (sub L).2 h1
    omega
theorem Zbu {Q:Exit→Act→World→Prop} (hsel:Region.noSelect ops=true) (hQ:∀ c a d v w,Q (.panic c) (Act.put a d v) w→Q (.panic c) a w) {w:World} {fuel:Nat} :
 ∀ (l:List Nat) (listed:Array Bool) (a:Act),Zjt md ops l listed=true→(∀ i∈l,i < ops.size)→Zd9 P ops (fun a'=>wpAnyH P md ops Q (fun _=>True) fuel (Z1r l listed) a' w) (l.filterMap (ops[·]?)) a→wpAnyH P md ops Q (fun _=>True) (fuel + l.length) listed a w
 | [],listed,a,_,_,h=>h
 | i :: l, listed, a, hB, hin, h => by
   simp only [Zjt,Bool.and_eq_true] at hB;obtain ⟨⟨hr,hf⟩,hB'⟩:=hB;have hil:=hin i (List.mem_cons_self ..);have ho:ops[i]?=some ops[i]:=Array.getElem?_eq_getElem hil;rw [List.filterMap_cons,ho] at h;obtain ⟨v,hy,h'⟩:=h;have e:fuel + (i :: l).length=(fuel + l.length) + 1:=by simp; omega
   rw [e];exact wpAnyH_take ho hsel hf hr (fun c a w=>hQ c a _ _ w) hy trivial (Zbu hsel hQ l _ _ hB' (fun j hj=>hin j (List.mem_cons_of_mem _ hj)) h')
theorem Zab {Q:Exit→Act→World→Prop} {id:Nat} {l:List Oper} {a:Act} {w:World} (pre L ph:List Nat) (hm:P.follows .mixedOrders=true)
 (hB:dagB .any l.toArray pre L ph=true) (hQ:∀ c a d v w,Q (.panic c) (Act.put a d v) w→Q (.panic c) a w) (Inv:Array Bool→Act→World→Prop)
 (hP:Zd9 P l.toArray (fun a'=>Inv (Z1r pre (Z1r ph (Array.replicate l.toArray.size false))) a' w.drew) (pre.filterMap (l.toArray[·]?)) a)
 (hS:∀ listed i a w,listed.size=l.toArray.size→i∈L→i < l.toArray.size→listed.getD i false=false→(∀ j,waits .any l.toArray i j=true→listed.getD j false=true)→Inv listed a w→wpOp P l.toArray (Ends (wpList P l.toArray Q (ph.filterMap (l.toArray[·]?))) Q) i (fun a' w'=>Inv (listed.setIfInBounds i true) a' w') a w)
 (hE:∀ listed a w,(∀ j,j < l.toArray.size→listed.getD j false=true)→Inv listed a w→wpList P l.toArray Q (ph.filterMap (l.toArray[·]?)) a w):(Code.region id l.toArray true).wp P Q a w:=by
 simp only [dagB,Bool.and_eq_true,decide_eq_true_eq] at hB;obtain ⟨⟨⟨⟨⟨⟨hsel,hph⟩,hseq⟩,hpre⟩,hlen⟩,hin1⟩,hcov⟩:=hB;refine wp_region_any hm ?_;have hback:Zgg .any l.toArray=true:=by
  cases ph with
  | nil=>simp [Z4g] at hph
  | cons t r=>simp only [Z4g,Bool.and_eq_true] at hph; exact hph.1.1.1
 have hin:∀ t∈ph,t < l.toArray.size:=by
  cases ph with
  | nil=>simp [Z4g] at hph
  | cons t r =>
    simp only [Z4g,Bool.and_eq_true] at hph;intro u hu;simpa using List.all_eq_true.1 hph.1.1.2 u hu
 have hsz:(Z1r pre (Z1r ph (Array.replicate l.toArray.size false))).size=l.toArray.size:=by rw [Z4a,Z4a]; simp
 have G:∀ a w,Inv (Z1r pre (Z1r ph (Array.replicate l.toArray.size false))) a w→wpAnyH P .any l.toArray (Ends (wpList P l.toArray Q (ph.filterMap (l.toArray[·]?))) Q) (fun _=>True) L.length (Z1r pre (Z1r ph (Array.replicate l.toArray.size false))) a w:=fun a w h=>
  Zfu (P:=P) (Q:=Ends (wpList P l.toArray Q (ph.filterMap (l.toArray[·]?))) Q) Inv hback hS hE L.length _ a w hsz (fun j hj=>by
   have h1:=List.all_eq_true.1 hcov j (List.mem_range.2 hj);simp only [Bool.or_eq_true,List.contains_eq_mem,decide_eq_true_eq] at h1;rcases h1 with (h1 | h1) | h1;·exact .inl (Z4v h1 (by rw [Z4a]; simpa using hj))
   ·exact .inr h1
   ·exact .inl (Z3w (Z4v h1 (by simpa using hj)))) (List.length_filter_le _ _) h
 have mono:∀ (os:List Oper) (a:Act),Zd9 P l.toArray (fun a'=>Inv (Z1r pre (Z1r ph (Array.replicate l.toArray.size false))) a' w.drew) os a→Zd9 P l.toArray (fun a'=>wpAnyH P .any l.toArray (Ends (wpList P l.toArray Q (ph.filterMap (l.toArray[·]?))) Q) (fun _=>True) L.length (Z1r pre (Z1r ph (Array.replicate l.toArray.size false))) a' w.drew) os a:=by
  intro os;induction os with
  | nil=>intro a h; exact G a w.drew h
  | cons o os ih=>intro a h; obtain ⟨v,hy,h⟩:=h; exact ⟨v,hy,ih _ h⟩
 have H:=Zbu (P:=P) (md:=.any) (Q:=Ends (wpList P l.toArray Q (ph.filterMap (l.toArray[·]?))) Q) hsel hQ pre _ a hpre (fun i hi=>by simpa using List.all_eq_true.1 hin1 i hi) (mono _ a hP);have key:=Z8r (Q:=Q) hph (fun m hs hm'=>?_) (L.length + pre.length) (Array.replicate l.toArray.size false) a w.drew (by simp) ?_ ?_ (wpAny_of_held _ _ _ _ H);·rw [show L.length + pre.length + ph.length=l.toArray.size by omega] at key; exact key
 ·have:m=((List.range l.toArray.size).map fun j=>!ph.contains j).toArray:=by
   apply Array.ext;·simp only [hs,List.size_toArray,List.length_map,List.length_range]
   ·intro j h1 h2;have:=hm' j (by omega);simp only [List.getElem_toArray,List.getElem_map,List.getElem_range];rw [← this];simp [h1]
  rw [this]; exact hseq
 ·intro j o _ hl;rw [Z64] at hl;cases hl
 ·intro t _;exact Z64 _ _
end
end Go.Proofs.YtmeiggjboakmpaaGreatDoor
