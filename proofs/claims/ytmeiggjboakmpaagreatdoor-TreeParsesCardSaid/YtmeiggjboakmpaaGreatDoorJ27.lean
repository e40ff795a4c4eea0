/- The document's parser: pairs. -/
import Derived.Test.YtmeiggjboakmpaaGreatDoorJ15
import Derived.Test.YtmeiggjboakmpaaGreatDoorJ26
import Derived.BigGuard
namespace Go.Proofs.YtmeiggjboakmpaaGreatDoor
open Go Go.RowKit Go.Maps
set_option maxRecDepth 100000
set_option maxHeartbeats 20000000
set_option linter.unusedVariables false
def opAt (lv:Nat):ByteArray:=match lv with | 0=>s_or | 1=>Z5n | 2=>Z3j | 3=>Z4i | 4=>⟨#[43,45]⟩ | _=>Z6n
theorem Ze1 {lv:Nat} (h:lv < 6):opsC[lv]?=some (.string (opAt lv)):=by
 match lv,h with
 | 0,_=>rfl
 | 1,_=>rfl
 | 2,_=>rfl
 | 3,_=>rfl
 | 4,_=>rfl
 | 5,_=>rfl
theorem Zl6 {lv:Nat} (h:lv < 6) (tx:ByteArray) :
 (((opAt lv).toList == [43,45])=false∧Z5c lv tx=(tx.toList == (opAt lv).toList))∨(((opAt lv).toList == [43,45])=true∧opAt lv=⟨#[43,45]⟩∧Z5c lv tx=((tx.toList == [43]) || (tx.toList == [45]))):=by
 have key:∀ s:ByteArray,Z15 tx s=(tx.toList == s.toList):=fun s=>(Z3u ..).symm;match lv,h with
 | 0,_=>exact .inl ⟨by kernel_rfl,key _⟩
 | 1,_=>exact .inl ⟨by kernel_rfl,key _⟩
 | 2,_=>exact .inl ⟨by kernel_rfl,key _⟩
 | 3,_=>exact .inl ⟨by kernel_rfl,key _⟩
 | 4, _ =>
   refine .inr ⟨by kernel_rfl,rfl,?_⟩;have h1:Z51.toList=[43]:=by rw [Lib.toList_data]; rfl
   have h2:Z5p.toList=[45]:=by rw [Lib.toList_data]; rfl
   simp only [Z5c,key,h1,h2]
 | 5,_=>exact .inl ⟨by kernel_rfl,key _⟩
theorem Z9t {lv:Nat} (h:lv < 6) {op:ByteArray} (hop:op=opAt lv) (k:Int) (tx:ByteArray) (hpm:k=5→tx≠⟨#[43,45]⟩) :
 (k=5∧Z5c lv tx=true∧(((op.toList == [43,45])=false∧(tx.toList == op.toList)=true)∨((op.toList == [43,45])=true∧(tx.toList == op.toList)=false∧(tx.toList == [43])=true)∨((op.toList == [43,45])=true∧(tx.toList == op.toList)=false∧(tx.toList == [43])=false∧(tx.toList == [45])=true))) ∨
 ((decide (k = 5) && Z5c lv tx) = false ∧ (((k != 5) = false ∧ (op.toList == [43, 45]) = false ∧ (tx.toList == op.toList) = false) ∨ ((k != 5) = false ∧ (op.toList == [43, 45]) = true ∧ (tx.toList == op.toList) = false ∧ (tx.toList == [43]) = false ∧ (tx.toList == [45]) = false) ∨
   ((k != 5)=true∧(tx.toList == op.toList)=true)∨((k != 5)=true∧(tx.toList == op.toList)=false∧(op.toList == [43,45])=false)∨((k != 5)=true∧(tx.toList == op.toList)=false∧(op.toList == [43,45])=true∧(tx.toList == [43])=true) ∨
   ((k != 5)=true∧(tx.toList == op.toList)=false∧(op.toList == [43,45])=true∧(tx.toList == [43])=false∧(tx.toList == [45])=true)∨((k != 5)=true∧(tx.toList == op.toList)=false∧(op.toList == [43,45])=true∧(tx.toList == [43])=false∧(tx.toList == [45])=false))):=by
 have F:=Zl6 h tx;rw [← hop] at F;by_cases hk:k=5
 ·have nk : (k != 5) = false := by simp [hk]
  rcases F with ⟨h43,hf⟩ | ⟨h43,ho,hf⟩;·cases b1:(tx.toList == op.toList) <;> rw [b1] at hf <;> simp [hk,h43,hf]
  ·have b1:(tx.toList == op.toList)=false:=by
    rw [ho];simp only [beq_eq_false_iff_ne,ne_eq];exact fun h=>hpm hk (Z25 h)
   cases bp:(tx.toList == [43]) <;> cases bm:(tx.toList == [45]) <;> rw [bp,bm] at hf <;> simp [hk,h43,hf,b1]
 ·have nk : (k != 5) = true := by simpa using hk
  cases b1:(tx.toList == op.toList) <;> cases h43:(op.toList == [43,45]) <;> cases bp:(tx.toList == [43]) <;> cases bm:(tx.toList == [45]) <;> simp [hk,nk]
theorem Zbp {level:Nat} {s:ByteArray} (h:Z5c level s=true):Z37 s≠0:=by
 have hi:∀ {a b:ByteArray},Z15 a b=true→a=b:=fun h=>by simpa [Z15] using h
 match level with
 | 0=>rw [hi h]; decide
 | 1=>rw [hi h]; decide
 | 2=>rw [hi h]; decide
 | 3=>rw [hi h]; decide
 | 4 =>
   simp only [Z5c,Bool.or_eq_true] at h;rcases h with h | h <;> (rw [hi h]; decide)
 | 5=>rw [hi h]; decide
 | n + 6=>simp [Z5c] at h
theorem Z8i {s:ByteArray} (hs:Z37 s≠0):s.size≤maxLen∧(litD Zk1).atKey (.string s.data.toList) (.lit (.int .i64 0))=.lit (.int .i64 (Z37 s)):=by
 have key:s=s_or∨s=Z5n∨s=Z3j∨s=Z4i∨s=Z51∨s=Z5p∨s=Z6n:=by
  unfold Z37 Z15 at hs;simp only [decide_eq_true_eq] at hs;by_cases h1:s=s_or;·exact .inl h1
  by_cases h2:s=Z5n;·exact .inr (.inl h2)
  by_cases h3:s=Z3j;·exact .inr (.inr (.inl h3))
  by_cases h4:s=Z4i;·exact .inr (.inr (.inr (.inl h4)))
  by_cases h5:s=Z51;·exact .inr (.inr (.inr (.inr (.inl h5))))
  by_cases h6:s=Z5p;·exact .inr (.inr (.inr (.inr (.inr (.inl h6)))))
  by_cases h7:s=Z6n;·exact .inr (.inr (.inr (.inr (.inr (.inr h7)))))
  simp [h1,h2,h3,h4,h5,h6,h7] at hs
 rcases key with rfl | rfl | rfl | rfl | rfl | rfl | rfl;all_goals exact ⟨by decide,by kernel_rfl⟩
def PInv (w0:World) (C:QC) (B d lv:Nat) (t:Tree) (σ':RS) (g:Nat) (v:Value) (wr:World):Prop:=
 ∃ (x:Tree) (a:ATree) (σ:RS),v=.pointer (some ⟨a.b,0,none⟩)∧refF g (.pairsL lv x) d σ=some (t,σ')∧Got w0 B wr a x∧QS wr C σ∧RFr w0 wr C.rb
theorem Zmk {w wr W:World} {C:QC} {B:Nat} {x t:Tree} {a:ATree} {σ2 σ':RS} (h:x=t∧σ2=σ') (hr:C.rb < B) (HN:Got w B wr a x) (HQ:QS wr C σ2) (HF:RFr w wr C.rb) (hb:Below wr.heap.size wr W):Z27 w C B t σ' (.returned (.pointer (some ⟨a.b,0,none⟩))) W:=by
 obtain ⟨rfl,rfl⟩:=h;exact ⟨a,rfl,HN.rfr hr (RFr.below hb),HQ.below hb,HF.trans (RFr.below hb)⟩
theorem Zbc (f lv:Nat) (hlv:lv < 5) (hP:∀ g,g≤f→Z8f (lv + 1) g):Z8f lv (f + 1):=by
 intro w C B d σ t σ' ob hQ hr hB hd hon hob hp;rw [refF,Y9 (by omega)] at hp;obtain ⟨x0,σ1,hx,hl⟩:=Zn hp;have HR:=lh hr;have HB:=lh hB;have HD:=lh hd;have HPC:∀ g,g≤f→∀ (w':World) (σ:RS) (t:Tree) (σ':RS),QS w' C σ→RFr w w' C.rb→refF g (.pairs (lv + 1)) d σ=some (t,σ')→Calls Tryz.prog 68 #[.pointer (some ⟨C.rb,0,none⟩),.int .i64 d,.slice (some ⟨ob,lv + 1,none⟩) (4 - lv + 1) (4 - lv + 1)] w' (Z27 w' C B t σ'):=by
  intro g hg w' σ t σ' hQ hF hp;have h:=hP g hg w' C B d σ t σ' ob hQ hr (Ya hB hF.size) (by omega) hon ((hF.block ob (Y6.1 hob).1 hon).trans hob) hp;rw [show min (lv + 1) 5=lv + 1 by omega,show 6 - (lv + 1)=4 - lv + 1 by omega] at h;exact h
 have HP:=lh HPC;have HX:=lh hx;have HL:=lh hl;have hobw:ob < w.heap.size:=(Y6.1 hob).1;have HOB:=lh hob;have HON:=lh hon;have HQ:=lh hQ;rw [show min lv 5=lv by omega,show 6 - lv=4 - lv + 1 + 1 by omega];obtain ⟨m,hm⟩:=zX (4 - lv)
 have hm4:m≤4:=by omega
 have hm0:((m:Int) + 1 + 1 == 0)=false:=by simp; omega
 have hm1:(0:Int) < (m:Int) + 1 + 1:=by omega
 rw [← hm] at HP ⊢;clear hm;clear hQ hr hB hd hob hp hP hx hl HPC;go_enter Tryz.func68,Tryz.ntmps68
 go_wp2_with fail
 refine (HP.out f (Y5 _) w σ x0 σ1 HQ.out (RFr.refl _ _) HX.out).mono ?_;rintro e w0 ⟨a0,rfl,h2,h3,h4⟩;have ST:=lh (show ∃ g,g≤f∧PInv w C B d lv t σ' g (.pointer (some ⟨a0.b,0,none⟩)) w0 from ⟨f,Y5 _,x0,a0,σ1,rfl,HL.out,h2,h3,h4⟩);clear h2 h3 h4;go_wp2_with fail
 go_loopw [7] (fun v wr=>∃ g,g≤f∧PInv w C B d lv t σ' g v wr) (fun v wr=>least fun g=>g≤f∧PInv w C B d lv t σ' g v wr)
 case atStart=>exact ST.out
 case round=>
  have hI:=Z3y hrel;clear ST;obtain ⟨g,hg⟩:=zX (least fun g=>g≤f∧PInv w C B d lv t σ' g u7 wr)
  rw [← hg] at hI;have HG:=lh hg;clear hg hrel;obtain ⟨hgF,x,a,σ2,rfl,hp,hN,hQ,hF⟩:=hI;cases g with
  | zero=>simp [refF] at hp
  | succ g=>
  rw [refF] at hp;have HO:=Z2f hQ;have HN:=lh hN;have HQ2:=lh hQ;have HF:=lh hF;have HGF:=lh hgF;by_cases hf:σ2.f.isNone=true;rotate_left
  ·have hf : σ2.f.isNone = false := Bool.eq_false_iff.2 hf;rw [hf] at HO;rw [Y9 (by simp [hf])] at hp;simp only [Option.some.injEq, Prod.mk.injEq] at hp;have HO := lh HO;have HE := lh hp;clear hQ hF hN hgF hf hp;go_wp2_with fail
   refine HO.out.mono ?_;rintro e w1 ⟨rfl,rfl⟩;go_wp2;go_ret;obtain ⟨h4,h5⟩:=HE.out;exact ⟨a,rfl,by rw [← h4]; exact HN.out,by rw [← h5]; exact HQ2.out,HF.out⟩
  rw [hf] at HO;have HO:=lh HO;have hq:(if (decide ((hdT σ2.ts).kind=5) && Z5c lv (hdT σ2.ts).text)=true then Z0n (refF g (.pairs (lv + 1)) d (advR σ2)) fun y σ'=>refF g (.pairsL lv (.mk (Z37 (hdT σ2.ts).text) ByteArray.empty 0 [x,y])) d σ' else some (x,σ2))=some (t,σ'):=by
   rw [hf] at hp;simpa using hp
  clear hp;obtain ⟨i,hi,hA⟩:=hQ;rw [hi] at hq;have c0:=hA.c0;have c1:=hA.c1;have t0:=hA.hd (j:=0) rfl;have t1:=hA.hd (j:=1) rfl;have t2:=hA.hd (j:=2) rfl;have t3:=hA.hd (j:=3) rfl;have hil:=hA.lt;have hle:=hA.le;have hmo:=hA.most;have hrl:=hA.rlt;have htb:C.tb < wr.heap.size:=Nat.lt_trans hA.ord hrl;have hpm:=hA.pm _ (Yl hA.hdEq);have HA:=lh hA;obtain ⟨n,hn⟩:=zX C.L.length
  rw [← hn] at c0 hil hle;obtain ⟨⟨k,tx,tn,ta⟩,htok⟩:∃ t,t=hdT (C.L.drop i):=⟨_,rfl⟩
  rw [← htok] at hq t0 t1 t2 t3 hpm;simp only at hq t0 t1 t2 t3 hpm;rw [Nat.add_zero] at t0;have obn:wr.heap[ob]?=some (.cells opsC 9 (0,0)):=(hF.block ob hobw HON.out).trans HOB.out;have obw:ob < wr.heap.size:=(Y6.1 obn).1;have o0:wr.cell? ⟨ob,lv,none⟩=some (.string (opAt lv)):=by simp only [World.cell?,obn]; exact Ze1 (by omega)
  generalize C.tb=tb at *;generalize C.off=off at *;generalize C.cap=cap at *;have HQQ:=lh hq;have HT:=lh htok;have HPM:=lh hpm;have HI:=lh hi;clear hF hN hgF hf hA obn hq htok hn hi hpm;obtain ⟨op,hop⟩:=zX (opAt lv)
  rw [← hop] at o0;have KEY:=Z9t (lv:=lv) (by omega) (op:=op) hop k tx (fun h=>HPM.out h);clear hop;go_wp2_with fail
  refine HO.out.mono ?_;rintro e w1 ⟨rfl,rfl⟩;go_wp2_with fail
  refine Zf [0,2,4,6,8,10,12,14,16,18,21] [11] (fun W=>W.cell? ⟨C.rb,0,none⟩=some (.slice (some ⟨tb,off,none⟩) n cap)∧W.cell? ⟨C.rb,1,none⟩=some (.int .i64 i)∧W.cell? ⟨tb,off + i * 4,none⟩=some (.int .i64 k)∧W.cell? ⟨tb,off + i * 4 + 1,none⟩=some (.string tx)∧W.cell? ⟨tb,off + i * 4 + 2,none⟩=some (.int .i64 tn)∧W.cell? ⟨tb,off + i * 4 + 3,none⟩=some (.int .i64 ta)) ⟨c0,c1,t0,t1,t2,t3⟩ fun _=>?_
  simp only [Zh,pD,zD,zE,zF,zG,zH,zI,zJ,zK]
  iterate 10
   first | refine Za _ ?_ | refine Zb ?_
   simp only [Act.put,zA,zB,zC]
  refine Z5 (fun K hK=>?_);go_simp
  refine hK _ _ ⟨(Z8 hrl).trans c0,(Z8 hrl).trans c1,(Z8 htb).trans t0,(Z8 htb).trans t1,(Z8 htb).trans t2,(Z8 htb).trans t3⟩ ?_;clear hK K;refine Z6 ?_;go_wp2_with fail
  obtain ⟨W5,hW5⟩:=zX ((wr.alloc (.cells #[.int .i64 k,.string tx,.int .i64 tn,.int .i64 ta] 48)).drew)
  have hb5:Below wr.heap.size wr W5:=by rw [hW5]; exact ((Y8 _ _).alloc (Y5 _) _).drew
  obtain ⟨tk,htk⟩:=zX wr.heap.size
  have hblk:W5.heap[tk]?=some (.cells #[.int .i64 k,.string tx,.int .i64 tn,.int .i64 ta] 48 (0,0)):=by rw [hW5,htk]; exact heap_alloc_new wr _
  have y0:W5.cell? ⟨tk,0,none⟩=some (.int .i64 k):=by simp [World.cell?,hblk]
  have y1:W5.cell? ⟨tk,1,none⟩=some (.string tx):=by simp [World.cell?,hblk]
  have o5:W5.cell? ⟨ob,lv,none⟩=some (.string op):=(Yj (hb5.block ob obw)).trans o0;have d1:W5.cell? ⟨C.rb,1,none⟩=some (.int .i64 i):=(Yj (hb5.block C.rb hrl)).trans c1;have dz:W5.frozen? ⟨C.rb,1,none⟩=false:=(World.frozen?_of_block (hb5.block C.rb hrl)).trans (HA.out.fz 1);have htkw:tk < W5.heap.size:=(Y6.1 hblk).1;have HB5:=lh hb5;rw [← htk,← hW5];have HTK:=lh htk;clear hW5 htk hblk hb5 c0 c1 t0 t1 t2 t3 o0;have HEX0:=HQQ.out;rcases KEY with ⟨hk5,hft,hc⟩ | ⟨hnf,hc⟩
  ·have nk : (k != 5) = false := by simp [hk5]
   rw [Yb (by rw [hk5,hft]; rfl)] at HEX0;obtain ⟨y,σ3,hy,hrest⟩:=Zn HEX0;have HY:=lh hy;have RE:=lh hrest;have HSG:=lh (Zbp hft);have HK5:=lh hk5;clear HEX0 hy hrest hft hk5;rcases hc with ⟨h43,b1⟩ | ⟨h43,b1,bp⟩ | ⟨h43,b1,bp,bm⟩
   all_goals
    refine Zf [0,2,4,6,8,10,12,14,16,18,20,22,24,26,28,30,32,34,36,38,40,42] [22] (fun W=>W.cell? ⟨tk,1,none⟩=some (.string tx)∧W.cell? ⟨ob,lv,none⟩=some (.string op)) ⟨y1,o5⟩ fun _=>?_;simp only [Zh,pD,zD,zE,zF,zG,zH,zI,zJ,zK]
    iterate 22
     first | refine Za _ ?_ | refine Zb ?_
     simp only [Act.put,zA,zB,zC]
    refine Z6 ?_;have HLEN:=lh (Z8i HSG.out).1;have hA5:=HA.out.below HB5.out;have HQ8:QS ((W5.setCell ⟨C.rb,1,none⟩ (.int .i64 ((i:Int) + 1))).drew) C (advR σ2):=by
     have h:=QS.adv (w:=W5) hA5 (x:=(i:Int) + 1) (by rw [← HT.out]; simp only; rw [HK5.out]; decide) rfl;have e:(⟨C.L.drop i,σ2.f⟩:RS)=σ2:=by rw [← HI.out]
     rw [e] at h;exact h.drew
    obtain ⟨W8,hW8⟩:=zX ((W5.setCell ⟨C.rb,1,none⟩ (.int .i64 ((i:Int) + 1))).drew)
    have hdr:((W5.setCell ⟨C.rb,1,none⟩ (.int .i64 ((i:Int) + 1))).alloc (.map #[] 0)).drew=W8.alloc (.map #[] 0):=by rw [hW8]; rfl
    rw [← hW8] at HQ8;have hF8:RFr wr W8 C.rb:=by rw [hW8]; exact ((RFr.below HB5.out).set 1 _).drew
    have hz8:W8.heap.size=W5.heap.size:=by rw [hW8]; exact Yn ..
    have y8:W8.cell? ⟨tk,1,none⟩=some (.string tx):=by
     rw [hW8];have hne:tk≠C.rb:=by have:=HTK.out; omega
     exact (Yj (Yg _ _ _ _ hne)).trans y1
    have hmm:=@run_makeMap Tryz.prog;have h0:=World.ownsMap_made (H:=Unit) W8 Tryz.prog 9 (plainElem Tryz.prog 3);rw [hz8] at h0;have hB0:Below W8.heap.size W8 (W8.alloc (.map #[] 0)):=(Y8 _ _).alloc (Y5 _) _;have s0:W8.heap.size≤(W8.alloc (.map #[] 0)).heap.size:=hB0.size
    have B7f:∀ w1 w2 w3 w4 w5 w6 w7:World,(W8.alloc (.map #[] 0)).grownBy w1 (some W5.heap.size)→w1.grownBy w2 (some W5.heap.size)→w2.grownBy w3 (some W5.heap.size)→w3.grownBy w4 (some W5.heap.size)→w4.grownBy w5 (some W5.heap.size)→w5.grownBy w6 (some W5.heap.size)→w6.grownBy w7 (some W5.heap.size)→Below W8.heap.size W8 w7:=fun w1 w2 w3 w4 w5 w6 w7 g1 g2 g3 g4 g5 g6 g7=>by
     have B1:=Z00 hB0 g1 (Yt hz8) s0;have B2:=Z00 B1 g2 (Yt hz8) B1.size;have B3:=Z00 B2 g3 (Yt hz8) B2.size;have B4:=Z00 B3 g4 (Yt hz8) B3.size;have B5:=Z00 B4 g5 (Yt hz8) B4.size;have B6:=Z00 B5 g6 (Yt hz8) B5.size;exact Z00 B6 g7 (Yt hz8) B6.size
    have y7f:∀ w1 w2 w3 w4 w5 w6 w7:World,(W8.alloc (.map #[] 0)).grownBy w1 (some W5.heap.size)→w1.grownBy w2 (some W5.heap.size)→w2.grownBy w3 (some W5.heap.size)→w3.grownBy w4 (some W5.heap.size)→w4.grownBy w5 (some W5.heap.size)→w5.grownBy w6 (some W5.heap.size)→w6.grownBy w7 (some W5.heap.size)→w7.cell? ⟨tk,1,none⟩=some (.string tx):=fun w1 w2 w3 w4 w5 w6 w7 g1 g2 g3 g4 g5 g6 g7=>
     (Yj ((B7f w1 w2 w3 w4 w5 w6 w7 g1 g2 g3 g4 g5 g6 g7).block tk (by rw [hz8]; exact htkw))).trans y8
    have HY7:=lh y7f;have HB7:=lh B7f;have Q8:=lh HQ8;have F8:=lh hF8;have HW8:=lh hW8;clear HQ8 hF8 hB0 s0 hz8 y8 hA5 hW8 y7f B7f
    go_wp2_with (first | ((try rw [hdr]); refine Z9 _ rfl _ _ _ 82 rfl 9 3 Tryz.keyedS Tryz.underlying82 _ _ 0 _ rfl h0 (by unfold maxLen; omega) _ _ _ rfl rfl (Yw Yr (by decide)) _ [] (plainElem_int Ys (by decide)) ?_; intro w1 h1 g1) | (refine Z9 _ rfl _ _ _ 82 rfl 9 3 Tryz.keyedS Tryz.underlying82 _ _ 1 _ rfl h1 (by unfold maxLen; omega) _ _ _ rfl rfl (Yw Yr (by decide)) _ [] (plainElem_int Ys (by decide)) ?_; intro w2 h2 g2) | (refine Z9 _ rfl _ _ _ 82 rfl 9 3 Tryz.keyedS Tryz.underlying82 _ _ 2 _ rfl h2 (by unfold maxLen; omega) _ _ _ rfl rfl (Yw Yr (by decide)) _ [] (plainElem_int Ys (by decide)) ?_; intro w3 h3 g3) | (refine Z9 _ rfl _ _ _ 82 rfl 9 3 Tryz.keyedS Tryz.underlying82 _ _ 3 _ rfl h3 (by unfold maxLen; omega) _ _ _ rfl rfl (Yw Yr (by decide)) _ [] (plainElem_int Ys (by decide)) ?_; intro w4 h4 g4) | (refine Z9 _ rfl _ _ _ 82 rfl 9 3 Tryz.keyedS Tryz.underlying82 _ _ 4 _ rfl h4 (by unfold maxLen; omega) _ _ _ rfl rfl (Yw Yr (by decide)) _ [] (plainElem_int Ys (by decide)) ?_; intro w5 h5 g5) | (refine Z9 _ rfl _ _ _ 82 rfl 9 3 Tryz.keyedS Tryz.underlying82 _ _ 5 _ rfl h5 (by unfold maxLen; omega) _ _ _ rfl rfl (Yw Yr (by decide)) _ [] (plainElem_int Ys (by decide)) ?_; intro w6 h6 g6) | (refine Z9 _ rfl _ _ _ 82 rfl 9 3 Tryz.keyedS Tryz.underlying82 _ _ 6 _ rfl h6 (by unfold maxLen; omega) _ _ _ rfl rfl (Yw Yr (by decide)) _ [] (plainElem_int Ys (by decide)) ?_; intro w7 h7 g7; have Y7:=HY7.out w1 w2 w3 w4 w5 w6 w7 g1 g2 g3 g4 g5 g6 g7) | (at_lookup; refine wpList_lookup_own_int _ rfl _ _ 82 rfl 9 3 .i64 Tryz.keyedS Tryz.underlying82 Ys (Tryz.zeroI _) _ 7 _ rfl h7 _ _ rfl (Yw Yr HLEN.out) ?_; intro c hat hwc))
    obtain rfl:Z37 tx=c:=by
     have e:=(Z8i HSG.out).2.symm.trans hat;have e2:(DataW.lit (.int .i64 (Z37 tx)):DataW Unit)=.lit (.int .i64 c):=e;simpa using e2
    have hB7:=HB7.out w1 w2 w3 w4 w5 w6 w7 g1 g2 g3 g4 g5 g6 g7;have Q7:=lh (Q8.out.below hB7);have F7:=lh (F8.out.trans (RFr.below hB7));clear hB7 hat hwc h0 h1 h2 h3 h4 h5 h6 h7 g1 g2 g3 g4 g5 g6 g7 Y7 hdr;refine (HP.out g (by have:=HGF.out; omega) w7 (advR σ2) y σ3 Q7.out (HF.out.trans F7.out) HY.out).mono ?_;rintro e w9 ⟨b,rfl,h2,h3,h4⟩;have G9:=lh h2;have Q9:=lh h3;have F9:=lh h4;clear h2 h3 h4;go_wp2;have hal:=(Y8 w9.heap.size w9).alloc (Y5 _) (.cells #[.pointer (some ⟨a.b,0,none⟩),.pointer (some ⟨b.b,0,none⟩)] 22)
    have hFF:=(HF.out.trans F7.out).trans F9.out;have hfin:=Got.two (k:=Z37 tx) (t:=⟨#[]⟩) HB.out hFF (HN.out.rfr HR.out (F7.out.trans F9.out)) (wA:=wr) (fun z hz=>(HN.out.new z hz).2) HF.out.size (G9.out.pre F7.out);have hinv:g≤f∧PInv w C B d lv t σ' g (.pointer (some ⟨w9.heap.size + 1,0,none⟩)) ((w9.alloc (.cells #[.pointer (some ⟨a.b,0,none⟩),.pointer (some ⟨b.b,0,none⟩)] 22)).alloc (.cells #[.int .i64 (Z37 tx),.string ⟨#[]⟩,.int .i64 0,.slice (some ⟨w9.heap.size,0,none⟩) 2 2] 38)):=
     ⟨by have:=HGF.out; omega,_,_,σ3,rfl,RE.out,hfin,(Q9.out.below hal).below ((Y8 _ _).alloc (Y5 _) _),(hFF.trans (RFr.below hal)).trans (RFr.below ((Y8 _ _).alloc (Y5 _) _))⟩
    exact ⟨⟨g,hinv⟩,by rw [← HG.out]; exact Nat.lt_succ_of_le (Z3c hinv)⟩
  ·rw [Y9 (by simpa using hnf)] at HEX0;simp only [Option.some.injEq, Prod.mk.injEq] at HEX0;have HEX := lh HEX0;clear HEX0 hnf;rcases hc with ⟨nk, h43, b1⟩ | ⟨nk, h43, b1, bp, bm⟩ | ⟨nk, b1⟩ | ⟨nk, b1, h43⟩ | ⟨nk, b1, h43, bp⟩ | ⟨nk, b1, h43, bp, bm⟩ | ⟨nk, b1, h43, bp, bm⟩
   all_goals
    refine Zf [0,2,4,6,8,10,12,14,16,18,20,22,24,26,28,30,32,34,36,38,40,42] [22] (fun W=>W.cell? ⟨tk,1,none⟩=some (.string tx)∧W.cell? ⟨ob,lv,none⟩=some (.string op)) ⟨y1,o5⟩ fun _=>?_;simp only [Zh,pD,zD,zE,zF,zG,zH,zI,zJ,zK]
    iterate 22
     first | refine Za _ ?_ | refine Zb ?_
     simp only [Act.put,zA,zB,zC]
    refine Z6 ?_;go_wp2;go_ret;refine Zmk HEX.out HR.out HN.out HQ2.out HF.out ?_;exact HB5.out.drew
end Go.Proofs.YtmeiggjboakmpaaGreatDoor
