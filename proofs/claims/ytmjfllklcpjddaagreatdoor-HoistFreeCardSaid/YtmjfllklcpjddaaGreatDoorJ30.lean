/- The document's parser: first. -/
import Derived.Test.YtmjfllklcpjddaaGreatDoorJ12
import Derived.Test.YtmjfllklcpjddaaGreatDoorJ23
namespace Go.Proofs.YtmjfllklcpjddaaGreatDoor
open Go Go.RowKit Go.Maps
set_option maxRecDepth 100000
set_option maxHeartbeats 20000000
set_option linter.unusedVariables false
theorem Zgo (s:ByteArray):Z4z.atKey (.string s.data.toList) (.lit (.int .i64 0))=.lit (.int .i64 (Z2o s)):=by
 have hb:∀ a b:ByteArray,Z0n a b=decide (a=b):=fun a b=>rfl;by_cases h1:s=Z48;·subst h1; exact (Z5z (x:=(Z48,19)) (by simp [Z36])).2
 by_cases h2:s=Z3a;·subst h2; exact (Z5z (x:=(Z3a,20)) (by simp [Z36])).2
 by_cases h3:s=Z4w;·subst h3; exact (Z5z (x:=(Z4w,21)) (by simp [Z36])).2
 by_cases h4:s=Z1c;·subst h4; exact (Z5z (x:=(Z1c,22)) (by simp [Z36])).2
 have hk:Z2o s=0:=by simp [Z2o,hb,h1,h2,h3,h4]
 rw [hk];refine atKey_of_not_has ?_ _;cases hh:Maps.has Z4z (.string s.data.toList) with
 | false=>rfl
 | true =>
   obtain ⟨x,hx,he⟩:=Zc5 hh;have hs:s=x.1:=by
    simp only [Lit.string.injEq] at he;exact ByteArray.ext (Array.toList_inj.1 he)
   simp only [Z36,List.mem_cons,List.not_mem_nil,or_false] at hx;rcases hx with rfl | rfl | rfl | rfl <;> simp_all
theorem Ziu (p:RR) (k m:Tree→RS→RR):Z03 (Z03 p k) m=Z03 p fun t σ=>Z03 (k t σ) m:=by cases p <;> rfl
theorem Zbl (s:ByteArray):Z2o s=0∨0 < Z2o s:=by
 unfold Z2o;split;·exact .inr (by decide)
 ·split;·exact .inr (by decide)
  ·split;·exact .inr (by decide)
   ·split;·exact .inr (by decide)
    ·exact .inl rfl
theorem Zay {w W:World} {C:QC} {B:Nat} {σ':RS} {k n:Int} {tx:ByteArray} (hr:C.rb < B) (hB:B≤w.heap.size) (F:RFr w W C.rb) (Q:QS W C σ') :
 Z1l w C B (.mk k tx n []) σ' (.returned (.pointer (some ⟨W.heap.size,0,none⟩))) (W.alloc (.cells #[.int .i64 k,.string tx,.int .i64 n,.slice none 0 0] 46)).drew:=
 ⟨_,rfl,(Got.leaf hB F).rfr hr (RFr.refl _ _).drew,(Q.below ((Y8 _ _).alloc (Y5 _) _)).drew,(F.trans (RFr.below ((Y8 _ _).alloc (Y5 _) _))).drew⟩
theorem Zh8 {w W:World} {C:QC} {B:Nat} {σ':RS} {k n:Int} {tx:ByteArray} (hr:C.rb < B) (hB:B≤w.heap.size) (F:RFr w W C.rb) (Q:QS W C σ') :
 Z1l w C B (.mk k tx n []) σ' (.returned (.pointer (some ⟨W.heap.size,0,none⟩))) (W.alloc (.cells #[.int .i64 k,.string tx,.int .i64 n,.slice none 0 0] 46)):=
 ⟨_,rfl,Got.leaf hB F,Q.below ((Y8 _ _).alloc (Y5 _) _),F.trans (RFr.below ((Y8 _ _).alloc (Y5 _) _))⟩
theorem Zjq (f:Nat) (hH:Z14 51 qd .head f) (hV:∀ g,g < f→Z14 54 qd .value g)
 (hF:∀ s,Z14 50 (fArg 37 s) (.func 37 s) f):Z14 126 qd .first (f + 1):=by
 intro w C B d σ t σ' hQ hr hB hd hp;rw [refF] at hp;have HR:=lh hr;have HB:=lh hB;have HD:=lh hd;have HH:=lh hH;have HV:=lh hV;have HF:=lh hF;obtain ⟨bx,hbx⟩:=zX w.heap.size
 obtain ⟨wb,hwb⟩:=zX ((w.alloc (.cells #[.pointer (some ⟨C.rb,0,none⟩)] 53)).alloc (.cells #[.int .i64 d] 3))
 have hbb:Below w.heap.size w wb:=by rw [hwb]; exact ((Y8 _ _).alloc (Y5 _) _).alloc (by simp) _
 have hzb:wb.heap.size=bx + 2:=by rw [hwb,hbx]; simp
 have q1:wb.cell? ⟨bx,0,none⟩=some (.pointer (some ⟨C.rb,0,none⟩)):=by
  rw [hwb,hbx];exact (Z4 (by simp)).trans (World.cell?_alloc_new w _ _ 0)
 have q2:wb.cell? ⟨bx + 1,0,none⟩=some (.int .i64 d):=by
  have e:bx + 1=(w.alloc (.cells #[.pointer (some ⟨C.rb,0,none⟩)] 53)).heap.size:=by rw [hbx]; simp
  rw [hwb,e];exact World.cell?_alloc_new _ _ _ 0
 have hne:bx≠C.rb:=by have:=hQ.rlt; omega
 have hne2:bx + 1≠C.rb:=by have:=hQ.rlt; omega
 have hQb:=hQ.below hbb;have HQB:=lh hQb;have FB:=lh (RFr.below (rb:=C.rb) hbb);have HO:=Z1x hQb;have hbx1:bx < wb.heap.size:=by omega
 have hbx2:bx + 1 < wb.heap.size:=by omega
 have HWB:=lh hwb;have HBX:=lh hbx;by_cases hf:σ.f.isNone=true;rotate_left
 ·have hf : σ.f.isNone = false := Bool.eq_false_iff.2 hf;rw [hf] at HO;rw [Y9 (by simp [hf])] at hp;obtain ⟨rfl, rfl⟩ : gT = t ∧ σ = σ' := by simpa using hp
  have HO:=lh HO;clear hQ hr hB hd hf hp hH hV hF hQb hbb hwb hbx hzb;unfold qd;go_enter Tryz.func126,Tryz.ntmps126
  go_wp2_with fail
  rw [← HWB.out,← HBX.out];refine HO.out.mono ?_;rintro e w1 ⟨rfl,rfl⟩;go_wp2;go_ret;exact Z1l.bare HB.out FB.out HQB.out
 rw [hf] at HO;rw [Yb hf] at hp;have HO:=lh HO;obtain ⟨i,hi,hA⟩:=hQb;have hbTT:Below wb.heap.size wb (wb.alloc (.cells #[.int .i64 (hdT σ.ts).kind,.string (hdT σ.ts).text,.int .i64 (hdT σ.ts).n,.int .i64 (hdT σ.ts).at'] 58)):=(Y8 _ _).alloc (Y5 _) _;have hadv:(hdT σ.ts).kind≠6→QS ((wb.alloc (.cells #[.int .i64 (hdT σ.ts).kind,.string (hdT σ.ts).text,.int .i64 (hdT σ.ts).n,.int .i64 (hdT σ.ts).at'] 58)).setCell ⟨C.rb,1,none⟩ (.int .i64 ((i:Int) + 1))) C (advR σ):=fun hk=>by
  have h:=QS.adv (hA.below hbTT) (x:=(i:Int) + 1) (by rw [← hi]; exact hk) rfl;have e:(⟨C.L.drop i,σ.f⟩:RS)=σ:=by rw [← hi]
  rwa [e] at h
 have c0:=hA.c0;have c1:=hA.c1;have z1:=hA.fz 1;have t0:=hA.hd (j:=0) rfl;have t1:=hA.hd (j:=1) rfl;have t2:=hA.hd (j:=2) rfl;have t3:=hA.hd (j:=3) rfl;have hil:=hA.lt;have hle:=hA.le;have hmo:=hA.most;have hrl:=hA.rlt;have htb:C.tb < wb.heap.size:=Nat.lt_trans hA.ord hrl;have HSM:=lh (hA.sm _ (Yl hA.hdEq));have HA:=lh hA;have HI:=lh hi;rw [← hi] at t0 t1 t2 t3;obtain ⟨n,hn⟩:=zX C.L.length
 rw [← hn] at c0 hil hle;obtain ⟨⟨k,tx,tn,ta⟩,htok⟩:∃ t,t=hdT σ.ts:=⟨_,rfl⟩
 rw [← htok] at hp t0 t1 t2 t3 hadv;simp only at hp t0 t1 t2 t3 hadv;clear hbTT;rw [Nat.add_zero] at t0;have HT:=lh htok;have HP:=lh hp;generalize C.tb=tb at *;generalize C.off=off at *;generalize C.cap=cap at *;obtain ⟨WT,hWT⟩:=zX (wb.alloc (.cells #[.int .i64 k,.string tx,.int .i64 tn,.int .i64 ta] 58))
 have hbT:Below wb.heap.size wb WT:=by rw [hWT]; exact (Y8 _ _).alloc (Y5 _) _
 have HBT:=lh hbT;have e1:WT.cell? ⟨bx,0,none⟩=some (.pointer (some ⟨C.rb,0,none⟩)):=(Yj (hbT.block bx hbx1)).trans q1;have e2:WT.cell? ⟨bx + 1,0,none⟩=some (.int .i64 d):=(Yj (hbT.block _ hbx2)).trans q2;have e3:WT.cell? ⟨C.rb,1,none⟩=some (.int .i64 i):=(Yj (hbT.block _ hrl)).trans c1;have ez:WT.frozen? ⟨C.rb,1,none⟩=false:=(World.frozen?_of_block (hbT.block _ hrl)).trans z1;rw [← hWT] at hadv;have HADV:=lh hadv
 have FA:=lh (((FB.out.trans (RFr.below (rb:=C.rb) hbT))).set 1 (.int .i64 ((i:Int) + 1)));have HZT:=lh (show WT.heap.size=wb.heap.size + 1 by rw [hWT]; simp);have HWT:=lh hWT;have QT:=lh (HQB.out.below hbT);have FT:=lh (FB.out.trans (RFr.below (rb:=C.rb) hbT));have E1:=lh e1;have E2:=lh e2;have E3:=lh e3;have EZ:=lh ez;clear hQ hr hB hd hf hp hH hV hF hbb hwb hbx hi hA hn htok hbT z1 q2 e1 e2 e3 ez hWT hadv hzb;by_cases k1:k=1
 ·have hE := HP.out;rw [Yb k1] at hE;subst k1;obtain ⟨rfl, rfl⟩ : Tree.mk 23 tx 0 [] = t ∧ advR σ = σ' := by simpa using hE
  clear hE;unfold qd;go_enter Tryz.func126,Tryz.ntmps126
  go_wp2_with fail
  rw [← HWB.out,← HBX.out];refine HO.out.mono ?_;rintro e w1 ⟨rfl,rfl⟩;go_wp2_with fail
  refine Z1 [(true,0),(true,1),(true,2),(true,3),(true,4),(true,5),(true,6),(true,7),(true,8),(true,9),(false,10)] [11] (fun W=>W.cell? ⟨bx,0,none⟩=some (.pointer (some ⟨C.rb,0,none⟩))∧W.cell? ⟨C.rb,0,none⟩=some (.slice (some ⟨tb,off,none⟩) n cap)∧W.cell? ⟨C.rb,1,none⟩=some (.int .i64 i)∧W.cell? ⟨tb,off + i * 4,none⟩=some (.int .i64 1)∧W.cell? ⟨tb,off + i * 4 + 1,none⟩=some (.string tx)∧W.cell? ⟨tb,off + i * 4 + 2,none⟩=some (.int .i64 tn)∧W.cell? ⟨tb,off + i * 4 + 3,none⟩=some (.int .i64 ta)) (by kernel_rfl) (by kernel_rfl) (fun _ _ d _ _ h=>by cases d <;> exact h) ⟨q1,c0,c1,t0,t1,t2,t3⟩ (fun hS0=>?_)
  simp only [Zf,zD,zE,zF,zG,zH,zI]
  iterate 10
   first
    | (refine Z2 ?_ (by rfl) (fun w' hS'=>?_) ?_; rotate_left; (obtain ⟨s0,s1,s2,s3,s4,s5,s6⟩:=hS'; go_simp; first | done | with_reducible rfl); simp only [Act.put,zA,zB,zC])
    | (refine Z3 (by rfl) ?_; simp only [Act.put,zA,zB,zC])
  refine Z5 (fun K hK=>?_);go_simp
  refine hK _ _ ⟨(Z4 hbx1).trans q1,(Z4 hrl).trans c0,(Z4 hrl).trans c1,(Z4 htb).trans t0,(Z4 htb).trans t1,(Z4 htb).trans t2,(Z4 htb).trans t3⟩ ?_;clear hK K;refine Z6 ?_;have e1:=E1.out;have e2:=E2.out;have e3:=E3.out;have ez:=EZ.out;rw [HWT.out] at e1 e2 e3 ez;clear c0 c1 t0 t1 t2 t3 q1 htb;go_wp2;go_ret;have h:=Zay (k:=23) (n:=0) (tx:=tx) HR.out HB.out FA.out (HADV.out (by decide));rw [Yn,HZT.out,HWT.out,World.setCell_alloc_past _ _ _ _ hrl] at h;exact h
 have K1:=lh k1;have n1:(k == 1)=false:=by simpa using k1
 clear k1;by_cases k3:k=3
 ·have hE := HP.out;rw [Y9 K1.out, Yb k3] at hE;subst k3;obtain ⟨rfl, rfl⟩ : Tree.mk 17 ByteArray.empty tn [] = t ∧ advR σ = σ' := by simpa using hE
  clear hE n1;unfold qd;go_enter Tryz.func126,Tryz.ntmps126
  go_wp2_with fail
  rw [← HWB.out,← HBX.out];refine HO.out.mono ?_;rintro e w1 ⟨rfl,rfl⟩;go_wp2_with fail
  refine Z1 [(true,0),(true,1),(true,2),(true,3),(true,4),(true,5),(true,6),(true,7),(true,8),(true,9),(false,10)] [11] (fun W=>W.cell? ⟨bx,0,none⟩=some (.pointer (some ⟨C.rb,0,none⟩))∧W.cell? ⟨C.rb,0,none⟩=some (.slice (some ⟨tb,off,none⟩) n cap)∧W.cell? ⟨C.rb,1,none⟩=some (.int .i64 i)∧W.cell? ⟨tb,off + i * 4,none⟩=some (.int .i64 3)∧W.cell? ⟨tb,off + i * 4 + 1,none⟩=some (.string tx)∧W.cell? ⟨tb,off + i * 4 + 2,none⟩=some (.int .i64 tn)∧W.cell? ⟨tb,off + i * 4 + 3,none⟩=some (.int .i64 ta)) (by kernel_rfl) (by kernel_rfl) (fun _ _ d _ _ h=>by cases d <;> exact h) ⟨q1,c0,c1,t0,t1,t2,t3⟩ (fun hS0=>?_)
  simp only [Zf,zD,zE,zF,zG,zH,zI]
  iterate 10
   first
    | (refine Z2 ?_ (by rfl) (fun w' hS'=>?_) ?_; rotate_left; (obtain ⟨s0,s1,s2,s3,s4,s5,s6⟩:=hS'; go_simp; first | done | with_reducible rfl); simp only [Act.put,zA,zB,zC])
    | (refine Z3 (by rfl) ?_; simp only [Act.put,zA,zB,zC])
  refine Z5 (fun K hK=>?_);go_simp
  refine hK _ _ ⟨(Z4 hbx1).trans q1,(Z4 hrl).trans c0,(Z4 hrl).trans c1,(Z4 htb).trans t0,(Z4 htb).trans t1,(Z4 htb).trans t2,(Z4 htb).trans t3⟩ ?_;clear hK K;refine Z6 ?_;have e1:=E1.out;have e2:=E2.out;have e3:=E3.out;have ez:=EZ.out;rw [HWT.out] at e1 e2 e3 ez;clear c0 c1 t0 t1 t2 t3 q1 htb;go_wp2;go_ret;have h:=Zay (k:=17) (n:=tn) (tx:=⟨#[]⟩) HR.out HB.out FA.out (HADV.out (by decide));rw [Yn,HZT.out,HWT.out,World.setCell_alloc_past _ _ _ _ hrl] at h;exact h
 have K3:=lh k3;have n3:(k == 3)=false:=by simpa using k3
 clear k3;by_cases k4:k=4
 ·have hE := HP.out;rw [Y9 K1.out, Y9 K3.out, Yb k4] at hE;subst k4;obtain ⟨rfl, rfl⟩ : Tree.mk 18 tx 0 [] = t ∧ advR σ = σ' := by simpa using hE
  clear hE n1 n3;unfold qd;go_enter Tryz.func126,Tryz.ntmps126
  go_wp2_with fail
  rw [← HWB.out,← HBX.out];refine HO.out.mono ?_;rintro e w1 ⟨rfl,rfl⟩;go_wp2_with fail
  refine Z1 [(true,0),(true,1),(true,2),(true,3),(true,4),(true,5),(true,6),(true,7),(true,8),(true,9),(false,10)] [11] (fun W=>W.cell? ⟨bx,0,none⟩=some (.pointer (some ⟨C.rb,0,none⟩))∧W.cell? ⟨C.rb,0,none⟩=some (.slice (some ⟨tb,off,none⟩) n cap)∧W.cell? ⟨C.rb,1,none⟩=some (.int .i64 i)∧W.cell? ⟨tb,off + i * 4,none⟩=some (.int .i64 4)∧W.cell? ⟨tb,off + i * 4 + 1,none⟩=some (.string tx)∧W.cell? ⟨tb,off + i * 4 + 2,none⟩=some (.int .i64 tn)∧W.cell? ⟨tb,off + i * 4 + 3,none⟩=some (.int .i64 ta)) (by kernel_rfl) (by kernel_rfl) (fun _ _ d _ _ h=>by cases d <;> exact h) ⟨q1,c0,c1,t0,t1,t2,t3⟩ (fun hS0=>?_)
  simp only [Zf,zD,zE,zF,zG,zH,zI]
  iterate 10
   first
    | (refine Z2 ?_ (by rfl) (fun w' hS'=>?_) ?_; rotate_left; (obtain ⟨s0,s1,s2,s3,s4,s5,s6⟩:=hS'; go_simp; first | done | with_reducible rfl); simp only [Act.put,zA,zB,zC])
    | (refine Z3 (by rfl) ?_; simp only [Act.put,zA,zB,zC])
  refine Z5 (fun K hK=>?_);go_simp
  refine hK _ _ ⟨(Z4 hbx1).trans q1,(Z4 hrl).trans c0,(Z4 hrl).trans c1,(Z4 htb).trans t0,(Z4 htb).trans t1,(Z4 htb).trans t2,(Z4 htb).trans t3⟩ ?_;clear hK K;refine Z6 ?_;have e1:=E1.out;have e2:=E2.out;have e3:=E3.out;have ez:=EZ.out;rw [HWT.out] at e1 e2 e3 ez;clear c0 c1 t0 t1 t2 t3 q1 htb;go_wp2;go_ret;have h:=Zay (k:=18) (n:=0) (tx:=tx) HR.out HB.out FA.out (HADV.out (by decide));rw [Yn,HZT.out,HWT.out,World.setCell_alloc_past _ _ _ _ hrl] at h;exact h
 have K4:=lh k4;have n4:(k == 4)=false:=by simpa using k4
 clear k4;have hE:=HP.out;rw [Y9 K1.out,Y9 K3.out,Y9 K4.out] at hE;have HE:=lh hE;clear hE;unfold qd;go_enter Tryz.func126,Tryz.ntmps126
 go_wp2_with fail
 rw [← HWB.out,← HBX.out];refine HO.out.mono ?_;rintro e w1 ⟨rfl,rfl⟩;go_wp2_with fail
 refine Z1 [(true,0),(true,1),(true,2),(true,3),(true,4),(true,5),(true,6),(true,7),(true,8),(true,9),(false,10)] [11] (fun W=>W.cell? ⟨bx,0,none⟩=some (.pointer (some ⟨C.rb,0,none⟩))∧W.cell? ⟨C.rb,0,none⟩=some (.slice (some ⟨tb,off,none⟩) n cap)∧W.cell? ⟨C.rb,1,none⟩=some (.int .i64 i)∧W.cell? ⟨tb,off + i * 4,none⟩=some (.int .i64 k)∧W.cell? ⟨tb,off + i * 4 + 1,none⟩=some (.string tx)∧W.cell? ⟨tb,off + i * 4 + 2,none⟩=some (.int .i64 tn)∧W.cell? ⟨tb,off + i * 4 + 3,none⟩=some (.int .i64 ta)) (by kernel_rfl) (by kernel_rfl) (fun _ _ d _ _ h=>by cases d <;> exact h) ⟨q1,c0,c1,t0,t1,t2,t3⟩ (fun hS0=>?_)
 simp only [Zf,zD,zE,zF,zG,zH,zI]
 iterate 10
  first
   | (refine Z2 ?_ (by rfl) (fun w' hS'=>?_) ?_; rotate_left; (obtain ⟨s0,s1,s2,s3,s4,s5,s6⟩:=hS'; go_simp; first | done | with_reducible rfl); simp only [Act.put,zA,zB,zC])
   | (refine Z3 (by rfl) ?_; simp only [Act.put,zA,zB,zC])
 refine Z5 (fun K hK=>?_);go_simp
 refine hK _ _ ⟨(Z4 hbx1).trans q1,(Z4 hrl).trans c0,(Z4 hrl).trans c1,(Z4 htb).trans t0,(Z4 htb).trans t1,(Z4 htb).trans t2,(Z4 htb).trans t3⟩ ?_;clear hK K;refine Z6 ?_;have e1:=E1.out;have e2:=E2.out;have e3:=E3.out;have ez:=EZ.out;rw [HWT.out] at e1 e2 e3 ez;clear c0 c1 t0 t1 t2 t3 q1 htb;go_wp2_with fail
 rw [← HWT.out];have HN:=Zc QT.out.drew Z08;have hE:=HE.out;by_cases hn:Zd Z08 σ=true
 ·rw [hn] at HN;rw [Yb hn] at hE;have HE2 := lh hE;clear hE hn;refine HN.mono ?_;rintro e w6 ⟨rfl, hb6⟩;have g1 : w6.cell? ⟨bx, 0, none⟩ = some (.pointer (some ⟨C.rb, 0, none⟩)) := (Yj (hb6.block bx (by have := HZT.out; simp; omega))).trans E1.out;have g2 : w6.cell? ⟨bx + 1, 0, none⟩ = some (.int .i64 d) := (Yj (hb6.block (bx + 1) (by have := HZT.out; simp; omega))).trans E2.out;have Q6 := lh (QT.out.drew.below hb6);have F6 := lh (FT.out.drew.trans (RFr.below (rb := C.rb) hb6));clear hb6 HN e1 e2 e3 ez;go_wp2_with fail
  refine (HH.out w6 C B d _ _ _ Q6.out HR.out (Ya HB.out F6.out.size) (by have:=HD.out; omega) HE2.out).mono ?_;rintro e w7 ⟨a,rfl,h7⟩;have H7:=lh h7;clear h7;go_wp2;go_ret;exact Z1l.pre F6.out ⟨a,rfl,H7.out⟩
 have hn:Zd Z08 σ=false:=by simpa using hn
 rw [hn] at HN;rw [Y9 (by simp [hn])] at hE;replace HE:=lh hE
 clear hE hn;refine HN.mono ?_;rintro e w6 ⟨rfl,hb6⟩;have g1:w6.cell? ⟨bx,0,none⟩=some (.pointer (some ⟨C.rb,0,none⟩)):=(Yj (hb6.block bx (by have:=HZT.out; simp; omega))).trans E1.out;have g2:w6.cell? ⟨bx + 1,0,none⟩=some (.int .i64 d):=(Yj (hb6.block (bx + 1) (by have:=HZT.out; simp; omega))).trans E2.out;have hbk:WT.heap[wb.heap.size]?=some (.cells #[.int .i64 k,.string tx,.int .i64 tn,.int .i64 ta] 58 (0,0)):=by rw [HWT.out]; exact heap_alloc_new wb _
 have hbk6:w6.heap[wb.heap.size]?=some (.cells #[.int .i64 k,.string tx,.int .i64 tn,.int .i64 ta] 58 (0,0)):=(hb6.block _ (by have:=HZT.out; simp; omega)).trans hbk;have Q6:=lh (QT.out.drew.below hb6);have F6:=lh (FT.out.drew.trans (RFr.below (rb:=C.rb) hb6));have hs6:wb.heap.size < w6.heap.size:=(Y6.1 hbk6).1;have HBK6:=lh hbk6;clear hb6 HN e1 e2 e3 ez hbk hbk6;obtain ⟨tk,htk⟩:=zX wb.heap.size
 have HTKN:=lh (show tk≠C.rb by omega);rw [← htk] at HBK6 hs6 hbx1 hbx2 ⊢;clear hrl htk;go_wp2_with fail
 have HS:=Z0u Q6.out Z9;have hE:=HE.out;by_cases hn:Zd Z9 σ=true
 ·rw [hn] at HS;rw [Yb rfl] at HS;rw [Yb hn] at hE;replace HE := lh hE
  clear hE hn;refine HS.mono ?_;rintro e w7 ⟨rfl,h7,f7⟩;have i1:w7.cell? ⟨bx,0,none⟩=some (.pointer (some ⟨C.rb,0,none⟩)):=(f7.cell (Nat.lt_trans hbx1 hs6) hne).trans g1;have i2:w7.cell? ⟨bx + 1,0,none⟩=some (.int .i64 d):=(f7.cell (Nat.lt_trans hbx2 hs6) hne2).trans g2;have Q7:=lh h7;have F7:=lh (F6.out.trans f7);have hs7:tk < w7.heap.size:=Ye hs6 f7.size;clear f7 g1 g2 HS;obtain ⟨i7,hi7,hA7⟩:=h7;have c0:=hA7.c0;have c1:=hA7.c1;have t0:=hA7.hd (j:=0) (x:=.int .i64 (hdT (advR σ).ts).kind) (by rw [hi7]; rfl);rw [Nat.add_zero] at t0
  have hil7:=hA7.lt;have hle7:=hA7.le;have hmo7:=hA7.most;obtain ⟨n7,hn7⟩:=zX C.L.length
  rw [← hn7] at c0 hil7 hle7;obtain ⟨k7,hk7⟩:=zX ((hdT (advR σ).ts).kind)
  have hE:=HE.out;rw [← hk7] at t0 hE;generalize C.tb=tb' at *;generalize C.off=off' at *;generalize C.cap=cap' at *;clear hn7 hA7 hi7 hk7;by_cases k71:k7=1
  ·subst k71;rw [Yb rfl] at hE;replace HE := lh hE
   clear hE;go_wp2_with fail
   refine Z1 [(true,0),(true,1),(true,2),(true,3),(true,4),(true,5),(true,6),(true,7)] [8,9,10,11] (fun W=>W.cell? ⟨bx,0,none⟩=some (.pointer (some ⟨C.rb,0,none⟩))∧W.cell? ⟨C.rb,0,none⟩=some (.slice (some ⟨tb',off',none⟩) n7 cap')∧W.cell? ⟨C.rb,1,none⟩=some (.int .i64 i7)∧W.cell? ⟨tb',off' + i7 * 4,none⟩=some (.int .i64 1)) (by kernel_rfl) (by kernel_rfl) (fun _ _ d _ _ h=>by cases d <;> exact h) ⟨i1,c0,c1,t0⟩ (fun hS0=>?_)
   simp only [Zf,zD,zE,zF,zG,zH,zI]
   iterate 8
    first
     | (refine Z2 ?_ (by rfl) (fun w' hS'=>?_) ?_; rotate_left; (obtain ⟨s0,s1,s2,s3⟩:=hS'; go_simp; first | done | with_reducible rfl); simp only [Act.put,zA,zB,zC])
     | (refine Z3 (by rfl) ?_; simp only [Act.put,zA,zB,zC])
   refine Z6 ?_;go_wp2_with fail
   refine (Z2t Q7.out.drew B HR.out (Ya HB.out F7.out.size)).mono ?_;rintro e w8 ⟨rfl,h8,f8⟩;have j1:w8.cell? ⟨bx,0,none⟩=some (.pointer (some ⟨C.rb,0,none⟩)):=(f8.cell (Nat.lt_trans hbx1 hs7) hne).trans i1;have j2:w8.cell? ⟨bx + 1,0,none⟩=some (.int .i64 d):=(f8.cell (Nat.lt_trans hbx2 hs7) hne2).trans i2;have Q8:=lh h8;have F8:=lh (F7.out.drew.trans f8);clear h8 f8 i1 i2 c0 c1 t0;go_wp2_with fail
   refine (HF.out (Zj (advR σ)).1 w8 C B d _ _ _ Q8.out HR.out (Ya HB.out F8.out.size) (by have:=HD.out; omega) HE.out).mono ?_;rintro e w9 ⟨a,rfl,h9⟩;have H9:=lh h9;clear h9;go_wp2;go_ret;exact Z1l.pre F8.out ⟨a,rfl,H9.out⟩
  ·have n71 : (k7 == 1) = false := by simpa using k71
   rw [Y9 k71] at hE;replace HE:=lh hE
   clear hE k71;go_wp2_with fail
   refine Z1 [(true,0),(true,1),(true,2),(true,3),(true,4),(true,5),(true,6),(true,7)] [8,9,10,11] (fun W=>W.cell? ⟨bx,0,none⟩=some (.pointer (some ⟨C.rb,0,none⟩))∧W.cell? ⟨C.rb,0,none⟩=some (.slice (some ⟨tb',off',none⟩) n7 cap')∧W.cell? ⟨C.rb,1,none⟩=some (.int .i64 i7)∧W.cell? ⟨tb',off' + i7 * 4,none⟩=some (.int .i64 k7)) (by kernel_rfl) (by kernel_rfl) (fun _ _ d _ _ h=>by cases d <;> exact h) ⟨i1,c0,c1,t0⟩ (fun hS0=>?_)
   simp only [Zf,zD,zE,zF,zG,zH,zI]
   iterate 8
    first
     | (refine Z2 ?_ (by rfl) (fun w' hS'=>?_) ?_; rotate_left; (obtain ⟨s0,s1,s2,s3⟩:=hS'; go_simp; first | done | with_reducible rfl); simp only [Act.put,zA,zB,zC])
     | (refine Z3 (by rfl) ?_; simp only [Act.put,zA,zB,zC])
   refine Z6 ?_;go_wp2_with fail
   refine (HF.out ⟨#[]⟩ w7.drew C B d _ _ _ Q7.out.drew HR.out (Ya HB.out F7.out.size) (by have:=HD.out; omega) HE.out).mono ?_;rintro e w9 ⟨a,rfl,h9⟩;have H9:=lh h9;clear h9;go_wp2;go_ret;exact Z1l.pre F7.out.drew ⟨a,rfl,H9.out⟩
 have hn:Zd Z9 σ=false:=by simpa using hn
 rw [hn] at HS;simp only [Bool.false_eq_true,if_false] at HS;rw [Y9 (by simp [hn])] at hE;replace HE:=lh hE
 clear hE hn;refine HS.mono ?_;rintro e w7 ⟨rfl,h7,f7⟩;have i1:w7.cell? ⟨bx,0,none⟩=some (.pointer (some ⟨C.rb,0,none⟩)):=(f7.cell (Nat.lt_trans hbx1 hs6) hne).trans g1;have i2:w7.cell? ⟨bx + 1,0,none⟩=some (.int .i64 d):=(f7.cell (Nat.lt_trans hbx2 hs6) hne2).trans g2;have Q7:=lh h7;have F7:=lh (F6.out.trans f7);have hs7:tk < w7.heap.size:=Ye hs6 f7.size;have HBK7:=lh ((f7.block tk hs6 HTKN.out).trans HBK6.out);clear f7 g1 g2 HS h7 HBK6 hs6;go_wp2_with fail
 have HS:=Z0u Q7.out Zb;have hE:=HE.out;by_cases hn:Zd Zb σ=true
 ·rw [hn] at HS;rw [Yb rfl] at HS;rw [Yb hn] at hE;obtain ⟨l, σ1, hl, hE⟩ := Ze hE;obtain ⟨rfl, rfl⟩ : Tree.mk 38 ByteArray.empty 0 l.kids = t ∧ σ1 = σ' := by simpa using hE
  have HL:=lh hl;clear hE hn hl;refine HS.mono ?_;rintro e w8 ⟨rfl,h8,f8⟩;have j1:w8.cell? ⟨bx,0,none⟩=some (.pointer (some ⟨C.rb,0,none⟩)):=(f8.cell (Nat.lt_trans hbx1 hs7) hne).trans i1;have j2:w8.cell? ⟨bx + 1,0,none⟩=some (.int .i64 d):=(f8.cell (Nat.lt_trans hbx2 hs7) hne2).trans i2;have Q8:=lh h8;have F8:=lh (F7.out.trans f8);have hs8:tk < w8.heap.size:=Ye hs7 f8.size;clear f8 i1 i2 HS h8;go_wp2_with fail
  refine (Zfp f d 133 #[.pointer (some ⟨bx,0,none⟩),.pointer (some ⟨bx + 1,0,none⟩)] Zk .props (fun g σ=>Z03 (refF g .value (d + 1) (Z09 Z2m (Zj σ).2)) fun v σ'=>some (.mk 39 (Zj σ).1 0 [v],σ')) Zkk (fun g acc σ=>by rw [refF]; simp only [Ziu]; rfl) w8 C B HR.out (Ya HB.out F8.out.size) (fun g hg w2 σ x σ' hF hQ hi=>?_) _ Q8.out l σ1 HL.out).mono ?_
  ·obtain ⟨v, σ2, hv, hi⟩ := Ze hi;obtain ⟨rfl, rfl⟩ : Tree.mk 39 (Zj σ).1 0 [v] = x ∧ σ2 = σ' := by simpa using hi
   exact Zku g (HV.out g hg) w2 C B bx (bx + 1) d σ _ v (by have:=HD.out; omega) hv hQ HR.out (Ya HB.out (F8.out.trans hF).size) ((hF.cell (Nat.lt_trans hbx1 hs8) hne).trans j1) ((hF.cell (Nat.lt_trans hbx2 hs8) hne2).trans j2) (by have:=hF.size; omega) (by have:=hF.size; omega) hne hne2
  rintro e w9 ⟨v,kids,rfl,h1,h2,h3,_⟩;obtain ⟨p,cp,rfl⟩:=h1.slice;have N9:=lh ((h1.pre (w0:=w) F8.out.size).node (k:=38) (tx:=⟨#[]⟩) (n:=0) (Ya HB.out (F8.out.trans h3).size) (F8.out.trans h3).size);have hal:Below w9.heap.size w9 (w9.alloc (.cells #[.int .i64 38,.string ⟨#[]⟩,.int .i64 0,.slice p l.kids.length cp] 46)):=(Y8 _ _).alloc (Y5 _) _;have Q9:=lh (h2.below hal);have F9:=lh ((F8.out.trans h3).trans (RFr.below hal));clear h1 h2 h3 hal j1 j2;go_wp2;go_ret;exact ⟨_,rfl,N9.out,Q9.out,F9.out⟩
 have hn:Zd Zb σ=false:=by simpa using hn
 rw [hn] at HS;simp only [Bool.false_eq_true,if_false] at HS;rw [Y9 (by simp [hn])] at hE;replace HE:=lh hE
 clear hE hn;refine HS.mono ?_;rintro e w8 ⟨rfl,h8,f8⟩;have j1:w8.cell? ⟨bx,0,none⟩=some (.pointer (some ⟨C.rb,0,none⟩)):=(f8.cell (Nat.lt_trans hbx1 hs7) hne).trans i1;have Q8:=lh h8;have F8:=lh (F7.out.trans f8);have hs8:tk < w8.heap.size:=Ye hs7 f8.size;have hbk8:w8.heap[tk]?=some (.cells #[.int .i64 k,.string tx,.int .i64 tn,.int .i64 ta] 58 (0,0)):=(f8.block tk hs7 HTKN.out).trans HBK7.out;obtain ⟨i8,hi8,hA8⟩:=h8;have HA8:=lh hA8;have HI8:=lh hi8;have hlt8:=lh hA8.lt;have hfew8:=lh hA8.few
 have hHLEN:tx.size≤maxLen:=by have h:=HSM.out; rw [← HI.out,← HT.out] at h; exact h
 have HLEN:=lh hHLEN;have hrb8:=hA8.rlt;clear f8 i1 i2 HS hA8 hi8 hHLEN HBK7 hs7;have hmm:=@run_makeMap Tryz.prog;have h0:=World.ownsMap_made (H:=Unit) w8 Tryz.prog 9 (plainElem Tryz.prog 3);have hB0:Below w8.heap.size w8 (w8.alloc (.map #[] 0)):=(Y8 _ _).alloc (Y5 _) _;have HB4:=lh (show ∀ v1 v2 v3 v4:World,(w8.alloc (.map #[] 0)).grownBy v1 (some w8.heap.size)→v1.grownBy v2 (some w8.heap.size)→v2.grownBy v3 (some w8.heap.size)→v3.grownBy v4 (some w8.heap.size)→Below w8.heap.size w8 v4 from fun v1 v2 v3 v4 g1 g2 g3 g4=>by
  have B1:=Zo hB0 g1 (Y5 _) hB0.size;have B2:=Zo B1 g2 (Y5 _) B1.size;have B3:=Zo B2 g3 (Y5 _) B2.size;exact Zo B3 g4 (Y5 _) B3.size)
 have HY4:=lh (show ∀ v1 v2 v3 v4:World,(w8.alloc (.map #[] 0)).grownBy v1 (some w8.heap.size)→v1.grownBy v2 (some w8.heap.size)→v2.grownBy v3 (some w8.heap.size)→v3.grownBy v4 (some w8.heap.size)→v4.cell? ⟨tk,0,none⟩=some (.int .i64 k)∧v4.cell? ⟨tk,1,none⟩=some (.string tx)∧v4.cell? ⟨bx,0,none⟩=some (.pointer (some ⟨C.rb,0,none⟩))∧v4.cell? ⟨C.rb,1,none⟩=some (.int .i64 i8)∧v4.frozen? ⟨C.rb,1,none⟩=false from fun v1 v2 v3 v4 g1 g2 g3 g4=>by
  have hb:=HB4.out v1 v2 v3 v4 g1 g2 g3 g4;have hk:=(hb.block tk hs8).trans hbk8;exact ⟨by simp [World.cell?,hk],by simp [World.cell?,hk],(Yj (hb.block bx (Nat.lt_trans hbx1 hs8))).trans j1,(Yj (hb.block C.rb hrb8)).trans HA8.out.c1,(World.frozen?_of_block (hb.block C.rb hrb8)).trans (HA8.out.fz 1)⟩)
 have CKEY:=lh (show ∀ c:Int,Z4z.atKey (.string tx.data.toList) (.lit (.int .i64 0))=.lit (.int .i64 c)→Z2o tx=c from fun c h=>by
  have e:=(Zgo tx).symm.trans h;simpa using e)
 clear hB0 hbk8 j1;have hE:=HE.out;by_cases hk2:k=2
 ·subst hk2;rcases Zbl tx with hc0 | hc0
  ·rw [Y9 (by simp [hc0])] at hE;obtain ⟨rfl, rfl⟩ : gT = t ∧ Z30 3 σ = σ' := by simpa using hE
   clear hE
   go_wp2_with (first | ((try rw [hdr]); refine Z7 _ rfl _ _ _ 88 rfl 9 3 Tryz.keyedS Tryz.underlying88 _ _ 0 _ rfl h0 (by unfold maxLen; omega) _ _ _ rfl rfl (Yw Yr (by decide)) _ [] (plainElem_int Ys (by decide)) ?_; intro v1 h1 g1) | (refine Z7 _ rfl _ _ _ 88 rfl 9 3 Tryz.keyedS Tryz.underlying88 _ _ 1 _ rfl h1 (by unfold maxLen; omega) _ _ _ rfl rfl (Yw Yr (by decide)) _ [] (plainElem_int Ys (by decide)) ?_; intro v2 h2 g2) | (refine Z7 _ rfl _ _ _ 88 rfl 9 3 Tryz.keyedS Tryz.underlying88 _ _ 2 _ rfl h2 (by unfold maxLen; omega) _ _ _ rfl rfl (Yw Yr (by decide)) _ [] (plainElem_int Ys (by decide)) ?_; intro v3 h3 g3) | (refine Z7 _ rfl _ _ _ 88 rfl 9 3 Tryz.keyedS Tryz.underlying88 _ _ 3 _ rfl h3 (by unfold maxLen; omega) _ _ _ rfl rfl (Yw Yr (by decide)) _ [] (plainElem_int Ys (by decide)) ?_; intro v4 h4 g4; obtain ⟨Y0,Y1,Y2,Y3,Y4⟩:=HY4.out v1 v2 v3 v4 g1 g2 g3 g4) | (at_lookup; refine wpList_lookup_own_int _ rfl _ _ 88 rfl 9 3 .i64 Tryz.keyedS Tryz.underlying88 Ys (Tryz.zeroI _) _ 4 _ rfl h4 _ _ rfl (Yw Yr HLEN.out) ?_; intro c hat hwc; obtain rfl:Z2o tx=c:=CKEY.out c hat))
   have hb4:=HB4.out v1 v2 v3 v4 g1 g2 g3 g4;have Q9:=lh (Q8.out.below hb4);have F9:=lh (F8.out.trans (RFr.below (rb:=C.rb) hb4));clear hb4 hat hwc h0 h1 h2 h3 h4 g1 g2 g3 g4 hmm;refine (Z2s Q9.out 3 (by decide) B HR.out (Ya HB.out F9.out.size)).mono ?_;rintro e w9 ⟨a,rfl,h9⟩;have H9:=lh h9;clear h9;go_wp2;go_ret;exact Z1l.pre F9.out ⟨a,rfl,H9.out⟩
  ·rw [Yb ⟨rfl, by omega⟩] at hE;obtain ⟨rfl, rfl⟩ : Tree.mk (Z2o tx) ByteArray.empty 0 [] = t ∧ advR σ = σ' := by simpa using hE
   clear hE;have hl8:i8≤4000:=by have:=hlt8.out; have:=hfew8.out; omega
   go_wp2_with (first | ((try rw [hdr]); refine Z7 _ rfl _ _ _ 88 rfl 9 3 Tryz.keyedS Tryz.underlying88 _ _ 0 _ rfl h0 (by unfold maxLen; omega) _ _ _ rfl rfl (Yw Yr (by decide)) _ [] (plainElem_int Ys (by decide)) ?_; intro v1 h1 g1) | (refine Z7 _ rfl _ _ _ 88 rfl 9 3 Tryz.keyedS Tryz.underlying88 _ _ 1 _ rfl h1 (by unfold maxLen; omega) _ _ _ rfl rfl (Yw Yr (by decide)) _ [] (plainElem_int Ys (by decide)) ?_; intro v2 h2 g2) | (refine Z7 _ rfl _ _ _ 88 rfl 9 3 Tryz.keyedS Tryz.underlying88 _ _ 2 _ rfl h2 (by unfold maxLen; omega) _ _ _ rfl rfl (Yw Yr (by decide)) _ [] (plainElem_int Ys (by decide)) ?_; intro v3 h3 g3) | (refine Z7 _ rfl _ _ _ 88 rfl 9 3 Tryz.keyedS Tryz.underlying88 _ _ 3 _ rfl h3 (by unfold maxLen; omega) _ _ _ rfl rfl (Yw Yr (by decide)) _ [] (plainElem_int Ys (by decide)) ?_; intro v4 h4 g4; obtain ⟨Y0,Y1,Y2,Y3,Y4⟩:=HY4.out v1 v2 v3 v4 g1 g2 g3 g4) | (at_lookup; refine wpList_lookup_own_int _ rfl _ _ 88 rfl 9 3 .i64 Tryz.keyedS Tryz.underlying88 Ys (Tryz.zeroI _) _ 4 _ rfl h4 _ _ rfl (Yw Yr HLEN.out) ?_; intro c hat hwc; obtain rfl:Z2o tx=c:=CKEY.out c hat))
   have hb4:=HB4.out v1 v2 v3 v4 g1 g2 g3 g4;have F9:=(F8.out.trans (RFr.below (rb:=C.rb) hb4)).set 1 (.int .i64 ((i8:Int) + 1));have Q9:QS (v4.setCell ⟨C.rb,1,none⟩ (.int .i64 ((i8:Int) + 1))) C (advR σ):=by
    have h:=QS.adv (HA8.out.below hb4) (x:=(i8:Int) + 1) (by rw [← HI8.out,← HT.out]; simp) rfl;have e:(⟨C.L.drop i8,σ.f⟩:RS)=σ:=by rw [← HI8.out]
    rwa [e] at h
   go_ret;have h:=Zh8 (k:=Z2o tx) (n:=0) (tx:=⟨#[]⟩) HR.out HB.out F9 Q9;rw [Yn] at h;exact h
 ·have n2 : (k == 2) = false := by simpa using hk2
  rw [Y9 (fun h=>hk2 h.1)] at hE;obtain ⟨rfl,rfl⟩:gT=t∧Z30 3 σ=σ':=by simpa using hE
  clear hE hk2
  go_wp2_with (first | ((try rw [hdr]); refine Z7 _ rfl _ _ _ 88 rfl 9 3 Tryz.keyedS Tryz.underlying88 _ _ 0 _ rfl h0 (by unfold maxLen; omega) _ _ _ rfl rfl (Yw Yr (by decide)) _ [] (plainElem_int Ys (by decide)) ?_; intro v1 h1 g1) | (refine Z7 _ rfl _ _ _ 88 rfl 9 3 Tryz.keyedS Tryz.underlying88 _ _ 1 _ rfl h1 (by unfold maxLen; omega) _ _ _ rfl rfl (Yw Yr (by decide)) _ [] (plainElem_int Ys (by decide)) ?_; intro v2 h2 g2) | (refine Z7 _ rfl _ _ _ 88 rfl 9 3 Tryz.keyedS Tryz.underlying88 _ _ 2 _ rfl h2 (by unfold maxLen; omega) _ _ _ rfl rfl (Yw Yr (by decide)) _ [] (plainElem_int Ys (by decide)) ?_; intro v3 h3 g3) | (refine Z7 _ rfl _ _ _ 88 rfl 9 3 Tryz.keyedS Tryz.underlying88 _ _ 3 _ rfl h3 (by unfold maxLen; omega) _ _ _ rfl rfl (Yw Yr (by decide)) _ [] (plainElem_int Ys (by decide)) ?_; intro v4 h4 g4; obtain ⟨Y0,Y1,Y2,Y3,Y4⟩:=HY4.out v1 v2 v3 v4 g1 g2 g3 g4) | (at_lookup; refine wpList_lookup_own_int _ rfl _ _ 88 rfl 9 3 .i64 Tryz.keyedS Tryz.underlying88 Ys (Tryz.zeroI _) _ 4 _ rfl h4 _ _ rfl (Yw Yr HLEN.out) ?_; intro c hat hwc; obtain rfl:Z2o tx=c:=CKEY.out c hat))
  have hb4:=HB4.out v1 v2 v3 v4 g1 g2 g3 g4;have Q9:=lh (Q8.out.below hb4);have F9:=lh (F8.out.trans (RFr.below (rb:=C.rb) hb4));clear hb4 hat hwc h0 h1 h2 h3 h4 g1 g2 g3 g4 hmm;refine (Z2s Q9.out 3 (by decide) B HR.out (Ya HB.out F9.out.size)).mono ?_;rintro e w9 ⟨a,rfl,h9⟩;have H9:=lh h9;clear h9;go_wp2;go_ret;exact Z1l.pre F9.out ⟨a,rfl,H9.out⟩
end Go.Proofs.YtmjfllklcpjddaaGreatDoor
