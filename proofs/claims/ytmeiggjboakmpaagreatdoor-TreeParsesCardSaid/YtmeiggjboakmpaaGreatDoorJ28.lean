/- The document's parser: pairs, the last levels. -/
import Derived.Test.YtmeiggjboakmpaaGreatDoorJ27
namespace Go.Proofs.YtmeiggjboakmpaaGreatDoor
open Go Go.RowKit Go.Maps
set_option maxRecDepth 100000
set_option maxHeartbeats 20000000
set_option linter.unusedVariables false
theorem Zfx (f:Nat) (hS:Z1s 97 qd .single f):Z8f 6 (f + 1):=by
 intro w C B d σ t σ' ob hQ hr hB hd hon hob hp;rw [refF,Yb (by omega)] at hp;have HS:=lh (hS w C B d σ t σ' hQ hr hB (by omega) hp);clear hQ hr hB hd hon hob hp hS;show Calls Tryz.prog 68 #[.pointer (some ⟨C.rb,0,none⟩),.int .i64 d,.slice (some ⟨ob,5,none⟩) 0 0] w (Z27 w C B t σ');go_enter Tryz.func68,Tryz.ntmps68
 go_wp2_with fail
 refine HS.out.mono ?_;rintro e w1 ⟨a,rfl,h1⟩;have H1:=lh h1;clear h1;go_wp2;go_ret;exact ⟨a,rfl,H1.out⟩
theorem Zbd (f:Nat) (hP:∀ g,g≤f→Z8f (5 + 1) g):Z8f 5 (f + 1):=by
 intro w C B d σ t σ' ob hQ hr hB hd hon hob hp;rw [refF,Y9 (by omega)] at hp;obtain ⟨x0,σ1,hx,hl⟩:=Zn hp;have HR:=lh hr;have HB:=lh hB;have HD:=lh hd;have HPC:∀ g,g≤f→∀ (w':World) (σ:RS) (t:Tree) (σ':RS),QS w' C σ→RFr w w' C.rb→refF g (.pairs (5 + 1)) d σ=some (t,σ')→Calls Tryz.prog 68 #[.pointer (some ⟨C.rb,0,none⟩),.int .i64 d,.slice (some ⟨ob,5,none⟩) 0 0] w' (Z27 w' C B t σ'):=by
  intro g hg w' σ t σ' hQ hF hp;have h:=hP g hg w' C B d σ t σ' ob hQ hr (Ya hB hF.size) (by omega) hon ((hF.block ob (Y6.1 hob).1 hon).trans hob) hp

  exact h
 have HP:=lh HPC;have HX:=lh hx;have HL:=lh hl;have hobw:ob < w.heap.size:=(Y6.1 hob).1;have HOB:=lh hob;have HON:=lh hon;have HQ:=lh hQ;show Calls Tryz.prog 68 #[.pointer (some ⟨C.rb,0,none⟩),.int .i64 d,.slice (some ⟨ob,5,none⟩) 1 1] w (Z27 w C B t σ');clear hQ hr hB hd hob hp hP hx hl HPC;go_enter Tryz.func68,Tryz.ntmps68
 go_wp2_with fail
 refine (HP.out f (Y5 _) w σ x0 σ1 HQ.out (RFr.refl _ _) HX.out).mono ?_;rintro e w0 ⟨a0,rfl,h2,h3,h4⟩;have ST:=lh (show ∃ g,g≤f∧PInv w C B d 5 t σ' g (.pointer (some ⟨a0.b,0,none⟩)) w0 from ⟨f,Y5 _,x0,a0,σ1,rfl,HL.out,h2,h3,h4⟩);clear h2 h3 h4;go_wp2_with fail
 go_loopw [7] (fun v wr=>∃ g,g≤f∧PInv w C B d 5 t σ' g v wr) (fun v wr=>least fun g=>g≤f∧PInv w C B d 5 t σ' g v wr)
 case atStart=>exact ST.out
 case round=>
  have hI:=Z3y hrel;clear ST;obtain ⟨g,hg⟩:=zX (least fun g=>g≤f∧PInv w C B d 5 t σ' g u7 wr)
  rw [← hg] at hI;have HG:=lh hg;clear hg hrel;obtain ⟨hgF,x,a,σ2,rfl,hp,hN,hQ,hF⟩:=hI;cases g with
  | zero=>simp [refF] at hp
  | succ g=>
  rw [refF] at hp;have HO:=Z2f hQ;have HN:=lh hN;have HQ2:=lh hQ;have HF:=lh hF;have HGF:=lh hgF;by_cases hf:σ2.f.isNone=true;rotate_left
  ·have hf : σ2.f.isNone = false := Bool.eq_false_iff.2 hf;rw [hf] at HO;rw [Y9 (by simp [hf])] at hp;simp only [Option.some.injEq, Prod.mk.injEq] at hp;have HO := lh HO;have HE := lh hp;clear hQ hF hN hgF hf hp;go_wp2_with fail
   refine HO.out.mono ?_;rintro e w1 ⟨rfl,rfl⟩;go_wp2;go_ret;obtain ⟨h4,h5⟩:=HE.out;exact ⟨a,rfl,by rw [← h4]; exact HN.out,by rw [← h5]; exact HQ2.out,HF.out⟩
  rw [hf] at HO;have HO:=lh HO;have hq:(if (decide ((hdT σ2.ts).kind=5) && Z5c 5 (hdT σ2.ts).text)=true then Z0n (refF g (.pairs (5 + 1)) d (advR σ2)) fun y σ'=>refF g (.pairsL 5 (.mk (Z37 (hdT σ2.ts).text) ByteArray.empty 0 [x,y])) d σ' else some (x,σ2))=some (t,σ'):=by
   rw [hf] at hp;simpa using hp
  clear hp;obtain ⟨i,hi,hA⟩:=hQ;rw [hi] at hq;have c0:=hA.c0;have c1:=hA.c1;have t0:=hA.hd (j:=0) rfl;have t1:=hA.hd (j:=1) rfl;have t2:=hA.hd (j:=2) rfl;have t3:=hA.hd (j:=3) rfl;have hil:=hA.lt;have hle:=hA.le;have hmo:=hA.most;have hrl:=hA.rlt;have htb:C.tb < wr.heap.size:=Nat.lt_trans hA.ord hrl;have hpm:=hA.pm _ (Yl hA.hdEq);have HA:=lh hA;obtain ⟨n,hn⟩:=zX C.L.length
  rw [← hn] at c0 hil hle;obtain ⟨⟨k,tx,tn,ta⟩,htok⟩:∃ t,t=hdT (C.L.drop i):=⟨_,rfl⟩
  rw [← htok] at hq t0 t1 t2 t3 hpm;simp only at hq t0 t1 t2 t3 hpm;rw [Nat.add_zero] at t0;have obn:wr.heap[ob]?=some (.cells opsC 9 (0,0)):=(hF.block ob hobw HON.out).trans HOB.out;have obw:ob < wr.heap.size:=(Y6.1 obn).1;have o0:wr.cell? ⟨ob,5,none⟩=some (.string (opAt 5)):=by simp only [World.cell?,obn]; exact Ze1 (by omega)
  generalize C.tb=tb at *;generalize C.off=off at *;generalize C.cap=cap at *;have HQQ:=lh hq;have HT:=lh htok;have HPM:=lh hpm;have HI:=lh hi;clear hF hN hgF hf hA obn hq htok hn hi hpm;obtain ⟨op,hop⟩:=zX (opAt 5)
  rw [← hop] at o0;have KEY:=Z9t (lv:=5) (by omega) (op:=op) hop k tx (fun h=>HPM.out h);clear hop;go_wp2_with fail
  refine HO.out.mono ?_;rintro e w1 ⟨rfl,rfl⟩;go_wp2_with fail
  refine Zf [0,2,4,6,8,10,12,14,16,18,21] [11] (fun W=>W.cell? ⟨C.rb,0,none⟩=some (.slice (some ⟨tb,off,none⟩) n cap)∧W.cell? ⟨C.rb,1,none⟩=some (.int .i64 i)∧W.cell? ⟨tb,off + i * 4,none⟩=some (.int .i64 k)∧W.cell? ⟨tb,off + i * 4 + 1,none⟩=some (.string tx)∧W.cell? ⟨tb,off + i * 4 + 2,none⟩=some (.int .i64 tn)∧W.cell? ⟨tb,off + i * 4 + 3,none⟩=some (.int .i64 ta)) ⟨c0,c1,t0,t1,t2,t3⟩ fun _=>?_
  simp only [Zh,pD,zD,zE,zF,zG,zH,zI,zJ,zK]
  iterate 10
   first | refine Za _ ?_ | refine Zb ?_
   simp only [Act.put,zA,zB,zC]
  refine Z5 (fun K hK=>?_);go_simp
  refine hK _ _ ⟨(Z8 hrl).trans c0,(Z8 hrl).trans c1,(Z8 htb).trans t0,(Z8 htb).trans t1,(Z8 htb).trans t2,(Z8 htb).trans t3⟩ ?_;clear hK K;refine Z6 ?_;go_wp2_with fail
  obtain ⟨W5,hW5⟩:=zX ((wr.alloc (.cells #[.int .i64 k,.string tx,.int .i64 tn,.int .i64 ta] 48)).drew)
  have hb5:Below wr.heap.size wr W5:=by rw [hW5]; exact ((Y8 _ _).alloc (Y5 _) _).drew
  obtain ⟨tk,htk⟩:=zX wr.heap.size
  have hblk:W5.heap[tk]?=some (.cells #[.int .i64 k,.string tx,.int .i64 tn,.int .i64 ta] 48 (0,0)):=by rw [hW5,htk]; exact heap_alloc_new wr _
  have y0:W5.cell? ⟨tk,0,none⟩=some (.int .i64 k):=by simp [World.cell?,hblk]
  have y1:W5.cell? ⟨tk,1,none⟩=some (.string tx):=by simp [World.cell?,hblk]
  have o5:W5.cell? ⟨ob,5,none⟩=some (.string op):=(Yj (hb5.block ob obw)).trans o0;have d1:W5.cell? ⟨C.rb,1,none⟩=some (.int .i64 i):=(Yj (hb5.block C.rb hrl)).trans c1;have dz:W5.frozen? ⟨C.rb,1,none⟩=false:=(World.frozen?_of_block (hb5.block C.rb hrl)).trans (HA.out.fz 1);have htkw:tk < W5.heap.size:=(Y6.1 hblk).1;have HB5:=lh hb5;rw [← htk,← hW5];have HTK:=lh htk;clear hW5 htk hblk hb5 c0 c1 t0 t1 t2 t3 o0;have HEX0:=HQQ.out;rcases KEY with ⟨hk5,hft,hc⟩ | ⟨hnf,hc⟩
  ·have nk : (k != 5) = false := by simp [hk5]
   rw [Yb (by rw [hk5,hft]; rfl)] at HEX0;obtain ⟨y,σ3,hy,hrest⟩:=Zn HEX0;have HY:=lh hy;have RE:=lh hrest;have HSG:=lh (Zbp hft);have HK5:=lh hk5;clear HEX0 hy hrest hft hk5;rcases hc with ⟨h43,b1⟩ | ⟨h43,b1,bp⟩ | ⟨h43,b1,bp,bm⟩
   all_goals
    refine Zf [0,2,4,6,8,10,12,14,16,18,20,22,24,26,28,30,32,34,36,38,40,42] [22] (fun W=>W.cell? ⟨tk,1,none⟩=some (.string tx)∧W.cell? ⟨ob,5,none⟩=some (.string op)) ⟨y1,o5⟩ fun _=>?_;simp only [Zh,pD,zD,zE,zF,zG,zH,zI,zJ,zK]
    iterate 22
     first | refine Za _ ?_ | refine Zb ?_
     simp only [Act.put,zA,zB,zC]
    refine Z6 ?_;have HLEN:=lh (Z8i HSG.out).1;have hA5:=HA.out.below HB5.out;have HQ8:QS ((W5.setCell ⟨C.rb,1,none⟩ (.int .i64 ((i:Int) + 1))).drew) C (advR σ2):=by
     have h:=QS.adv (w:=W5) hA5 (x:=(i:Int) + 1) (by rw [← HT.out]; simp only; rw [HK5.out]; decide) rfl;have e:(⟨C.L.drop i,σ2.f⟩:RS)=σ2:=by rw [← HI.out]
     rw [e] at h;exact h.drew
    obtain ⟨W8,hW8⟩:=zX ((W5.setCell ⟨C.rb,1,none⟩ (.int .i64 ((i:Int) + 1))).drew)
    have hdr:((W5.setCell ⟨C.rb,1,none⟩ (.int .i64 ((i:Int) + 1))).alloc (.map #[] 0)).drew=W8.alloc (.map #[] 0):=by rw [hW8]; rfl
    rw [← hW8] at HQ8;have hF8:RFr wr W8 C.rb:=by rw [hW8]; exact ((RFr.below HB5.out).set 1 _).drew
    have hz8:W8.heap.size=W5.heap.size:=by rw [hW8]; exact Yn ..
    have y8:W8.cell? ⟨tk,1,none⟩=some (.string tx):=by
     rw [hW8];have hne:tk≠C.rb:=by have:=HTK.out; omega
     exact (Yj (Yg _ _ _ _ hne)).trans y1
    have hmm:=@run_makeMap Tryz.prog;have h0:=World.ownsMap_made (H:=Unit) W8 Tryz.prog 9 (plainElem Tryz.prog 3);rw [hz8] at h0;have hB0:Below W8.heap.size W8 (W8.alloc (.map #[] 0)):=(Y8 _ _).alloc (Y5 _) _;have s0:W8.heap.size≤(W8.alloc (.map #[] 0)).heap.size:=hB0.size
    have B7f:∀ w1 w2 w3 w4 w5 w6 w7:World,(W8.alloc (.map #[] 0)).grownBy w1 (some W5.heap.size)→w1.grownBy w2 (some W5.heap.size)→w2.grownBy w3 (some W5.heap.size)→w3.grownBy w4 (some W5.heap.size)→w4.grownBy w5 (some W5.heap.size)→w5.grownBy w6 (some W5.heap.size)→w6.grownBy w7 (some W5.heap.size)→Below W8.heap.size W8 w7:=fun w1 w2 w3 w4 w5 w6 w7 g1 g2 g3 g4 g5 g6 g7=>by
     have B1:=Z00 hB0 g1 (Yt hz8) s0;have B2:=Z00 B1 g2 (Yt hz8) B1.size;have B3:=Z00 B2 g3 (Yt hz8) B2.size;have B4:=Z00 B3 g4 (Yt hz8) B3.size;have B5:=Z00 B4 g5 (Yt hz8) B4.size;have B6:=Z00 B5 g6 (Yt hz8) B5.size;exact Z00 B6 g7 (Yt hz8) B6.size
    have y7f:∀ w1 w2 w3 w4 w5 w6 w7:World,(W8.alloc (.map #[] 0)).grownBy w1 (some W5.heap.size)→w1.grownBy w2 (some W5.heap.size)→w2.grownBy w3 (some W5.heap.size)→w3.grownBy w4 (some W5.heap.size)→w4.grownBy w5 (some W5.heap.size)→w5.grownBy w6 (some W5.heap.size)→w6.grownBy w7 (some W5.heap.size)→w7.cell? ⟨tk,1,none⟩=some (.string tx):=fun w1 w2 w3 w4 w5 w6 w7 g1 g2 g3 g4 g5 g6 g7=>
     (Yj ((B7f w1 w2 w3 w4 w5 w6 w7 g1 g2 g3 g4 g5 g6 g7).block tk (by rw [hz8]; exact htkw))).trans y8
    have HY7:=lh y7f;have HB7:=lh B7f;have Q8:=lh HQ8;have F8:=lh hF8;have HW8:=lh hW8;clear HQ8 hF8 hB0 s0 hz8 y8 hA5 hW8 y7f B7f
    go_wp2_with (first | ((try rw [hdr]); refine Z9 _ rfl _ _ _ 82 rfl 9 3 Tryz.keyedS Tryz.underlying82 _ _ 0 _ rfl h0 (by unfold maxLen; omega) _ _ _ rfl rfl (Yw Yr (by decide)) _ [] (plainElem_int Ys (by decide)) ?_; intro w1 h1 g1) | (refine Z9 _ rfl _ _ _ 82 rfl 9 3 Tryz.keyedS Tryz.underlying82 _ _ 1 _ rfl h1 (by unfold maxLen; omega) _ _ _ rfl rfl (Yw Yr (by decide)) _ [] (plainElem_int Ys (by decide)) ?_; intro w2 h2 g2) | (refine Z9 _ rfl _ _ _ 82 rfl 9 3 Tryz.keyedS Tryz.underlying82 _ _ 2 _ rfl h2 (by unfold maxLen; omega) _ _ _ rfl rfl (Yw Yr (by decide)) _ [] (plainElem_int Ys (by decide)) ?_; intro w3 h3 g3) | (refine Z9 _ rfl _ _ _ 82 rfl 9 3 Tryz.keyedS Tryz.underlying82 _ _ 3 _ rfl h3 (by unfold maxLen; omega) _ _ _ rfl rfl (Yw Yr (by decide)) _ [] (plainElem_int Ys (by decide)) ?_; intro w4 h4 g4) | (refine Z9 _ rfl _ _ _ 82 rfl 9 3 Tryz.keyedS Tryz.underlying82 _ _ 4 _ rfl h4 (by unfold maxLen; omega) _ _ _ rfl rfl (Yw Yr (by decide)) _ [] (plainElem_int Ys (by decide)) ?_; intro w5 h5 g5) | (refine Z9 _ rfl _ _ _ 82 rfl 9 3 Tryz.keyedS Tryz.underlying82 _ _ 5 _ rfl h5 (by unfold maxLen; omega) _ _ _ rfl rfl (Yw Yr (by decide)) _ [] (plainElem_int Ys (by decide)) ?_; intro w6 h6 g6) | (refine Z9 _ rfl _ _ _ 82 rfl 9 3 Tryz.keyedS Tryz.underlying82 _ _ 6 _ rfl h6 (by unfold maxLen; omega) _ _ _ rfl rfl (Yw Yr (by decide)) _ [] (plainElem_int Ys (by decide)) ?_; intro w7 h7 g7; have Y7:=HY7.out w1 w2 w3 w4 w5 w6 w7 g1 g2 g3 g4 g5 g6 g7) | (at_lookup; refine wpList_lookup_own_int _ rfl _ _ 82 rfl 9 3 .i64 Tryz.keyedS Tryz.underlying82 Ys (Tryz.zeroI _) _ 7 _ rfl h7 _ _ rfl (Yw Yr HLEN.out) ?_; intro c hat hwc))
    obtain rfl:Z37 tx=c:=by
     have e:=(Z8i HSG.out).2.symm.trans hat;have e2:(DataW.lit (.int .i64 (Z37 tx)):DataW Unit)=.lit (.int .i64 c):=e;simpa using e2
    have hB7:=HB7.out w1 w2 w3 w4 w5 w6 w7 g1 g2 g3 g4 g5 g6 g7;have Q7:=lh (Q8.out.below hB7);have F7:=lh (F8.out.trans (RFr.below hB7));clear hB7 hat hwc h0 h1 h2 h3 h4 h5 h6 h7 g1 g2 g3 g4 g5 g6 g7 Y7 hdr;refine (HP.out g (by have:=HGF.out; omega) w7 (advR σ2) y σ3 Q7.out (HF.out.trans F7.out) HY.out).mono ?_;rintro e w9 ⟨b,rfl,h2,h3,h4⟩;have G9:=lh h2;have Q9:=lh h3;have F9:=lh h4;clear h2 h3 h4;go_wp2;have hal:=(Y8 w9.heap.size w9).alloc (Y5 _) (.cells #[.pointer (some ⟨a.b,0,none⟩),.pointer (some ⟨b.b,0,none⟩)] 22)
    have hFF:=(HF.out.trans F7.out).trans F9.out;have hfin:=Got.two (k:=Z37 tx) (t:=⟨#[]⟩) HB.out hFF (HN.out.rfr HR.out (F7.out.trans F9.out)) (wA:=wr) (fun z hz=>(HN.out.new z hz).2) HF.out.size (G9.out.pre F7.out);have hinv:g≤f∧PInv w C B d 5 t σ' g (.pointer (some ⟨w9.heap.size + 1,0,none⟩)) ((w9.alloc (.cells #[.pointer (some ⟨a.b,0,none⟩),.pointer (some ⟨b.b,0,none⟩)] 22)).alloc (.cells #[.int .i64 (Z37 tx),.string ⟨#[]⟩,.int .i64 0,.slice (some ⟨w9.heap.size,0,none⟩) 2 2] 38)):=
     ⟨by have:=HGF.out; omega,_,_,σ3,rfl,RE.out,hfin,(Q9.out.below hal).below ((Y8 _ _).alloc (Y5 _) _),(hFF.trans (RFr.below hal)).trans (RFr.below ((Y8 _ _).alloc (Y5 _) _))⟩
    exact ⟨⟨g,hinv⟩,by rw [← HG.out]; exact Nat.lt_succ_of_le (Z3c hinv)⟩
  ·rw [Y9 (by simpa using hnf)] at HEX0;simp only [Option.some.injEq, Prod.mk.injEq] at HEX0;have HEX := lh HEX0;clear HEX0 hnf;rcases hc with ⟨nk, h43, b1⟩ | ⟨nk, h43, b1, bp, bm⟩ | ⟨nk, b1⟩ | ⟨nk, b1, h43⟩ | ⟨nk, b1, h43, bp⟩ | ⟨nk, b1, h43, bp, bm⟩ | ⟨nk, b1, h43, bp, bm⟩
   all_goals
    refine Zf [0,2,4,6,8,10,12,14,16,18,20,22,24,26,28,30,32,34,36,38,40,42] [22] (fun W=>W.cell? ⟨tk,1,none⟩=some (.string tx)∧W.cell? ⟨ob,5,none⟩=some (.string op)) ⟨y1,o5⟩ fun _=>?_;simp only [Zh,pD,zD,zE,zF,zG,zH,zI,zJ,zK]
    iterate 22
     first | refine Za _ ?_ | refine Zb ?_
     simp only [Act.put,zA,zB,zC]
    refine Z6 ?_;go_wp2;go_ret;refine Zmk HEX.out HR.out HN.out HQ2.out HF.out ?_;exact HB5.out.drew
theorem Zgk (f:Nat) (hS:∀ g,g < f→Z1s 97 qd .single g):∀ lv,lv≤6→∀ g,g≤f→Z8f lv g:=by
 have zero:∀ lv,Z8f lv 0:=fun lv w C B d σ t σ' ob _ _ _ _ _ _ hp=>by simp [refF] at hp
 have h6:∀ g,g≤f→Z8f 6 g:=fun g hg=>by
  cases g with
  | zero=>exact zero 6
  | succ g=>exact Zfx g (hS g (by omega))
 have h5:∀ g,g≤f→Z8f 5 g:=fun g hg=>by
  cases g with
  | zero=>exact zero 5
  | succ g=>exact Zbd g fun g' hg'=>h6 g' (by omega)
 have step:∀ lv,lv < 5→(∀ g,g≤f→Z8f (lv + 1) g)→∀ g,g≤f→Z8f lv g:=fun lv hl h g hg=>by
  cases g with
  | zero=>exact zero lv
  | succ g=>exact Zbc g lv hl fun g' hg'=>h g' (by omega)
 have h4:=step 4 (by omega) h5;have h3:=step 3 (by omega) h4;have h2:=step 2 (by omega) h3;have h1:=step 1 (by omega) h2;have h0:=step 0 (by omega) h1;intro lv hl;match lv,hl with
 | 0,_=>exact h0
 | 1,_=>exact h1
 | 2,_=>exact h2
 | 3,_=>exact h3
 | 4,_=>exact h4
 | 5,_=>exact h5
 | 6,_=>exact h6
end Go.Proofs.YtmeiggjboakmpaaGreatDoor
