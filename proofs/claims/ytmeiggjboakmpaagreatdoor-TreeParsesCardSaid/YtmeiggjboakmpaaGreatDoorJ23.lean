/- The document's parser: statement: if with else, try. -/
import Derived.Test.YtmeiggjboakmpaaGreatDoorJ22
namespace Go.Proofs.YtmeiggjboakmpaaGreatDoor
open Go Go.RowKit
set_option maxRecDepth 100000
set_option maxHeartbeats 20000000
set_option linter.unusedVariables false
theorem Zd3 (f:Nat) (hH:Z1s 38 qd .head f) (hS2:Z1s 39 qd .stmt2 f) (x y z:Tree) (σ1 σ2:RS) (w:World) (C:QC) (B d:Nat) (σ:RS) (t:Tree) (σ':RS) (hQ:QS w C σ) (hr:C.rb < B) (hB:B≤w.heap.size) (hd:d≤30) (hdf:d + (f + 1)≤1000000000000) (hsee:∀ s:ByteArray,s≠s_if→Zl s σ=false) (hn:Zl s_if σ=true) (ht:t=.mk 7 ByteArray.empty 0 [x,y,z]) (hel:Zl Z1y σ2=true) (hp:refF f .head d (advR σ)=some (x,σ1)) (hp2:refF f .stmt2 d σ1=some (y,σ2)) (hp3:refF f .stmt2 d (advR σ2)=some (z,σ')) :
 Calls Tryz.prog 13 (qd C.rb d) w (Z27 w C B t σ'):=by
 have n30:¬ (d:Int) > 30:=by omega
 obtain ⟨nb,hnb⟩:=zX w.heap.size
 obtain ⟨w0,hw0⟩:=zX (w.alloc (.cells #[.int .i64 0,.string ⟨#[]⟩,.int .i64 0,.slice none 0 0] 38))
 have hal:Below w.heap.size w w0:=by rw [hw0]; exact (Y8 _ _).alloc (Y5 _) _
 have Q0:=lh (hQ.below hal);have F0:=lh (RFr.below (rb:=C.rb) hal);have G0:=lh (show Got w B w0 (.mk nb (.slice none 0 0) 0 ⟨#[]⟩ 0 []) (.mk 0 ⟨#[]⟩ 0 []) by rw [hw0,hnb]; exact Got.leaf hB (RFr.refl w C.rb));have HR:=lh hr;have HB:=lh hB;have HW0:=lh hw0;have HNB:=lh hnb;have HNBW:=lh (show nb < w0.heap.size by rw [hw0,hnb]; simp);have HD:=lh hd;have HDF:=lh hdf;have HSEE:=lh hsee;have HSN:=lh hn;have HH:=lh hH;have HS2:=lh hS2;have HP:=lh hp;have HP2:=lh hp2;subst ht;have HEL:=lh hel;have HP3:=lh hp3
 clear hQ hr hB hd hdf hsee hn hal hw0 hnb hH hS2 hp hp2 hp3 hel;unfold qd;go_enter Tryz.func13,Tryz.ntmps13
 go_wp2_with fail
 rw [← HW0.out,← HNB.out];have BA0:=lh (Y8 w0.heap.size w0);have HT:=Zk Q0.out Zi;rw [HSEE.out Zi (by first | decide | simp)] at HT;refine HT.mono ?_;rintro e wt1 ⟨rfl,hb⟩;have BA1:=zT BA0 hb;have Q1:=lh (Q0.out.below hb);clear hb HT;go_wp2_with fail
 have HT:=Z04 Q1.out Zs (HSEE.out Zs (by first | decide | simp));refine HT.mono ?_;rintro e wt2 ⟨rfl,hb⟩;have BA2:=zT BA1 hb;have Q2:=lh (Q1.out.below hb);clear hb HT;go_wp2_with fail
 have HT:=Z04 Q2.out Ze (HSEE.out Ze (by first | decide | simp));refine HT.mono ?_;rintro e wt3 ⟨rfl,hb⟩;have BA3:=zT BA2 hb;have Q3:=lh (Q2.out.below hb);clear hb HT;go_wp2_with fail
 have HT:=Z1i Q3.out s_if;rw [HSN.out,Yb rfl] at HT;refine HT.mono ?_;rintro e w3 ⟨rfl,h3,f3⟩;have Q3:=lh h3;have F3:=lh ((RFr.below (rb:=C.rb) BA3.out).trans f3);clear h3 f3 HT;have hG3:=G0.out.rfr HR.out F3.out;obtain ⟨y0,_,_,z0,_⟩:=hG3.cells;have z0:=z0 0;have K3:=Got.kind0 (k':=7) HR.out HB.out hG3 (F0.out.trans F3.out);have G4:=lh K3.1;have F4:=lh K3.2.1;have Q4:=lh (Q3.out.keep fun k hk=>K3.2.2 k (by have:=HR.out; omega));have hdd:=HD.out;clear hG3 K3;go_wp2_with fail
 refine (HH.out _ C B d _ _ _ Q4.out HR.out (Ya HB.out F4.out.size) (by have:=HDF.out; omega) HP.out).mono ?_;rintro e w8 ⟨a,rfl,h8,q8,f8⟩;have A8:=lh h8;have Q8:=lh q8;have F8:=lh f8;clear h8 q8 f8 y0 z0;go_wp2_with fail
 refine (HS2.out w8 C B d _ _ _ Q8.out HR.out (Ya HB.out (F4.out.trans F8.out).size) (by have:=HDF.out; omega) HP2.out).mono ?_;rintro e w9 ⟨c,rfl,h9,q9,f9⟩;obtain ⟨⟨y3,z3⟩,g1,g2,g3⟩:=Got.giveKids HR.out HB.out G4.out F4.out (F8.out.trans f9) (KidsAt.two (A8.out.rfr HR.out f9) (fun x hx=>(A8.out.new x hx).2) F8.out.size h9) (by simp) #[.pointer (some ⟨a.b,0,none⟩),.pointer (some ⟨c.b,0,none⟩)] rfl 2 rfl;have G10:=lh g1;have F10:=lh g2;have Q10:=lh (q9.keep fun k hk=>g3 k (by have:=HR.out; omega));clear h9 q9 f9 g1 g2 g3;go_wp2_with fail
 have HT:=Z1i Q10.out Z1y;rw [HEL.out,Yb rfl] at HT;refine HT.mono ?_;rintro e w11 ⟨rfl,h11,f11⟩;have G11:=lh (G10.out.rfr HR.out f11);have Q11:=lh h11;have F11:=lh (F10.out.trans f11);clear h11 f11 y3 z3 HT;obtain ⟨_,_,n3,_,_⟩:=G11.out.cells;have hdd:=HD.out;go_wp2_with fail
 refine Zf [0,2,4,6,8,10,12,15,17,19] [10,11,12] (fun W=>W.cell? ⟨nb,3,none⟩=some (.slice (some ⟨w9.heap.size,0,none⟩) 2 2)) n3 fun _=>?_;simp only [Zh,pD,zD,zE,zF,zG,zH,zI,zJ,zK]
 iterate 7
  first | refine Za _ ?_ | refine Zb ?_
  simp only [Act.put,zA,zB,zC]
 refine Z5 (fun K hK=>?_);go_simp
 refine (HS2.out w11.drew C B d _ _ _ Q11.out.drew HR.out (Ya HB.out F11.out.size) (by have:=HDF.out; omega) HP3.out).mono ?_;rintro e w12 ⟨a3,rfl,hA,hQ,hF⟩;have hF23:RFr w11 w12 C.rb:=(RFr.refl w11 C.rb).drew.trans hF;have hN:=G11.out.rfr HR.out hF23;obtain ⟨_,_,m3,mz0,hnb⟩:=hN.cells;have mz:=mz0 3;have NE:=lh hN.list.2.1;have N12:=lh hN;have A12:=lh hA;have Q12x:=lh hQ;have F12x:=lh (F11.out.trans hF23);obtain ⟨i0,hi,hz0,hz1,hz2⟩:=info_parts Tryz.infoPtr;refine hK _ _ m3 ?_;clear hK K hA hQ hF hF23 hN mz0 n3;refine Z5 (fun K hK=>?_);go_simp
 refine hK _ _ ((Z8 hnb).trans m3) ?_;clear hK K;refine Z5 (fun K hK=>?_)
 refine step_append_lies _ (by rfl) (.tmp 69) (.tmp 73) 36 (by rfl) B 22 i0 _ 1 8 Tryz.underlying36 hi hz0 hz1 hz2 rfl (by decide) (.slice (some ⟨w9.heap.size,0,none⟩) 2 2) ([a,c]:List ATree).length (([a,c]:List ATree).map ATree.ptr) (by rfl) (N12.out.at'.rowOf.alloc _) ⟨w12.heap.size,0,none⟩ 1 1 [a3.ptr] (by rfl) rfl (Yi (cs:=#[a3.ptr]) (t:=22) (fr:=(0,0)) (heap_alloc_new w12 _)) (by first | (simp [Value.oneCell']; done) | (simp [ATree.ptr,Value.oneCell']; done)) (by decide) (by unfold maxLen; simp) (by simp) (by simp; have:=F12x.out.size; have:=HB.out; omega) (w12.heap.size + 1) (by simp) ?_
 intro gg cap w4 hown4 hgrow4 hat4 hlt4;have m4:w4.cell? ⟨nb,3,none⟩=some (.slice (some ⟨w9.heap.size,0,none⟩) 2 2):=(hgrow4.cell_far ⟨nb,3,none⟩ (by simp; omega) (fun e=>NE.out e.symm)).trans ((Z8 hnb).trans m3);have mz4:w4.frozen? ⟨nb,3,none⟩=false:=(hgrow4.frozen_far ⟨nb,3,none⟩ (by simp; omega) (fun e=>NE.out e.symm)).trans ((Z0m hnb).trans mz);refine hK _ _ m4 ?_;clear hK K;simp only [Act.put,zA,zB,zC]
 have hfin:=Got.pushT HR.out HB.out N12.out (wA:=w11.drew) (fun x hx=>(G11.out.new x hx).2) A12.out F12x.out ((Y8 _ _).alloc (Y5 _) _) hgrow4 hown4 (by rcases hat4 with h | h; (exact .inl h); (exact .inr (by omega))) hlt4;have FIN:=lh hfin;clear hgrow4 hown4 hat4 hlt4 hfin;refine Z6 ?_;go_wp2;go_ret;exact ⟨_,rfl,FIN.out.1,Q12x.out.keep fun k hk=>(FIN.out.2.2 k (by have:=HR.out; omega)),FIN.out.2.1⟩
theorem Z8g (f:Nat) (hBr:Z1s 34 (Zaa false) (.braces false) f) (b:Tree) (σ1:RS) (w:World) (C:QC) (B d:Nat) (σ:RS) (t:Tree) (σ':RS) (hQ:QS w C σ) (hr:C.rb < B) (hB:B≤w.heap.size) (hd:d≤30) (hdf:d + (f + 1)≤1000000000000) (hsee:∀ s:ByteArray,s≠Z1j→Zl s σ=false) (hn:Zl Z1j σ=true) (hp:refF f (.braces false) d (advR σ)=some (b,σ1)) (hall:(Zl Z0r σ1=false∧Zl Zt σ1=false∧t=.mk 12 ByteArray.empty 0 [b]∧σ'=Z39 3 σ1)∨(∃ c,Zl Z0r σ1=false∧Zl Zt σ1=true∧t=.mk 12 ByteArray.empty 0 [b,.mk 14 ByteArray.empty 0 [c]]∧refF f (.braces false) d (advR σ1)=some (c,σ'))∨(∃ c,Zl Z0r σ1=true∧Zl Zt σ'=false∧t=.mk 12 ByteArray.empty 0 [b,.mk 13 (Zw (Z0y Z0u (advR σ1))).1 0 [c]]∧refF f (.braces false) d (Z0y Z0v (Zw (Z0y Z0u (advR σ1))).2)=some (c,σ'))∨(∃ c e' σ2,Zl Z0r σ1=true∧Zl Zt σ2=true∧t=.mk 12 ByteArray.empty 0 [b,.mk 13 (Zw (Z0y Z0u (advR σ1))).1 0 [c],.mk 14 ByteArray.empty 0 [e']]∧refF f (.braces false) d (Z0y Z0v (Zw (Z0y Z0u (advR σ1))).2)=some (c,σ2)∧refF f (.braces false) d (advR σ2)=some (e',σ'))) :
 Calls Tryz.prog 13 (qd C.rb d) w (Z27 w C B t σ'):=by
 have n30:¬ (d:Int) > 30:=by omega
 obtain ⟨nb,hnb⟩:=zX w.heap.size
 obtain ⟨w0,hw0⟩:=zX (w.alloc (.cells #[.int .i64 0,.string ⟨#[]⟩,.int .i64 0,.slice none 0 0] 38))
 have hal:Below w.heap.size w w0:=by rw [hw0]; exact (Y8 _ _).alloc (Y5 _) _
 have Q0:=lh (hQ.below hal);have F0:=lh (RFr.below (rb:=C.rb) hal);have G0:=lh (show Got w B w0 (.mk nb (.slice none 0 0) 0 ⟨#[]⟩ 0 []) (.mk 0 ⟨#[]⟩ 0 []) by rw [hw0,hnb]; exact Got.leaf hB (RFr.refl w C.rb));have HR:=lh hr;have HB:=lh hB;have HW0:=lh hw0;have HNB:=lh hnb;have HNBW:=lh (show nb < w0.heap.size by rw [hw0,hnb]; simp);have HD:=lh hd;have HDF:=lh hdf;have HSEE:=lh hsee;have HSN:=lh hn;have HBR:=lh hBr;have HP:=lh hp;rcases hall with ⟨hc,hf,ht,hs⟩ | ⟨c,hc,hf,ht,hpc⟩ | ⟨c,hc,hf,ht,hpc⟩ | ⟨c,e',σ2,hc,hf,ht,hpc,hpf⟩
 all_goals
  have HC:=lh hc;have HFI:=lh hf;subst ht;try subst hs
  try (have HPC:=lh hpc; clear hpc)
  try (have HPF:=lh hpf; clear hpf)
  clear hQ hr hB hd hdf hsee hn hal hw0 hnb hBr hp hc hf;unfold qd;go_enter Tryz.func13,Tryz.ntmps13
  go_wp2_with fail
  rw [← HW0.out,← HNB.out];have BA0:=lh (Y8 w0.heap.size w0);have HT:=Zk Q0.out Zi;rw [HSEE.out Zi (by first | decide | simp)] at HT;refine HT.mono ?_;rintro e wt1 ⟨rfl,hb⟩;have BA1:=zT BA0 hb;have Q1:=lh (Q0.out.below hb);clear hb HT;go_wp2_with fail
  have HT:=Z04 Q1.out Zs (HSEE.out Zs (by first | decide | simp));refine HT.mono ?_;rintro e wt2 ⟨rfl,hb⟩;have BA2:=zT BA1 hb;have Q2:=lh (Q1.out.below hb);clear hb HT;go_wp2_with fail
  have HT:=Z04 Q2.out Ze (HSEE.out Ze (by first | decide | simp));refine HT.mono ?_;rintro e wt3 ⟨rfl,hb⟩;have BA3:=zT BA2 hb;have Q3:=lh (Q2.out.below hb);clear hb HT;go_wp2_with fail
  have HT:=Z04 Q3.out s_if (HSEE.out s_if (by first | decide | simp));refine HT.mono ?_;rintro e wt4 ⟨rfl,hb⟩;have BA4:=zT BA3 hb;have Q4:=lh (Q3.out.below hb);clear hb HT;go_wp2_with fail
  have HT:=Zk Q4.out Zz;rw [HSEE.out Zz (by first | decide | simp)] at HT;refine HT.mono ?_;rintro e wt5 ⟨rfl,hb⟩;have BA5:=zT BA4 hb;have Q5:=lh (Q4.out.below hb);clear hb HT;go_wp2_with fail
  have HT:=Zk Q5.out Z0d;rw [HSEE.out Z0d (by first | decide | simp)] at HT;refine HT.mono ?_;rintro e wt6 ⟨rfl,hb⟩;have BA6:=zT BA5 hb;have Q6:=lh (Q5.out.below hb);clear hb HT;go_wp2_with fail
  have HT:=Z1i Q6.out Z1j;rw [HSN.out,Yb rfl] at HT;refine HT.mono ?_;rintro e w3 ⟨rfl,h3,f3⟩;have Q3:=lh h3;have F3:=lh ((RFr.below (rb:=C.rb) BA6.out).trans f3);clear h3 f3 HT;have hG3:=G0.out.rfr HR.out F3.out;obtain ⟨y0,_,_,z0,_⟩:=hG3.cells;have z0:=z0 0;have K3:=Got.kind0 (k':=12) HR.out HB.out hG3 (F0.out.trans F3.out);have G4:=lh K3.1;have F4:=lh K3.2.1;have Q4:=lh (Q3.out.keep fun k hk=>K3.2.2 k (by have:=HR.out; omega));have hdd:=HD.out;clear hG3 K3;go_wp2_with fail
  refine (HBR.out _ C B d _ _ _ Q4.out HR.out (Ya HB.out F4.out.size) (by have:=HDF.out; omega) HP.out).mono ?_;rintro e w5 ⟨a,rfl,h5,q5,f5⟩;obtain ⟨⟨y3,z3⟩,g1,g2,g3⟩:=Got.giveKids HR.out HB.out G4.out F4.out f5 (KidsAt.one h5) (by simp) #[.pointer (some ⟨a.b,0,none⟩)] rfl 1 rfl;have G6:=lh g1;have F6:=lh g2;have Q6:=lh (q5.keep fun k hk=>g3 k (by have:=HR.out; omega));clear h5 q5 f5 g1 g2 g3 y0 z0;go_wp2_with fail
 ·refine (Z04 Q6.out Z0r HC.out).mono ?_;rintro e w7 ⟨rfl, hb⟩;have Q7 := lh (Q6.out.below hb);have G7 := lh (G6.out.rfr HR.out (RFr.below (rb := C.rb) hb));have F7 := lh (F6.out.trans (RFr.below (rb := C.rb) hb));clear hb y3 z3;go_wp2_with fail
  refine (Z04 Q7.out Zt HFI.out).mono ?_;rintro e w8 ⟨rfl,hb⟩;have Q8:=lh (Q7.out.below hb);have G8:=lh (G7.out.rfr HR.out (RFr.below (rb:=C.rb) hb));have F8:=lh (F7.out.trans (RFr.below (rb:=C.rb) hb));clear hb;obtain ⟨_,_,n3,_,_⟩:=G8.out.cells;go_wp2_with fail
  refine (Z2t Q8.out 3 (by decide) B HR.out (Ya HB.out F8.out.size)).mono ?_;rintro e w9 ⟨b9,rfl,h9,q9,f9⟩;have G9:=lh (G8.out.rfr HR.out f9);have Q9:=lh q9;have F9:=lh (F8.out.trans f9);clear h9 q9 f9 n3;go_wp2;go_ret;exact ⟨_,rfl,G9.out,Q9.out,F9.out⟩
 ·refine (Z04 Q6.out Z0r HC.out).mono ?_;rintro e w7 ⟨rfl, hb⟩;have Q7 := lh (Q6.out.below hb);have G7 := lh (G6.out.rfr HR.out (RFr.below (rb := C.rb) hb));have F7 := lh (F6.out.trans (RFr.below (rb := C.rb) hb));clear hb y3 z3;go_wp2_with fail
  have HT:=Z1i Q7.out Zt;rw [HFI.out,Yb rfl] at HT;refine HT.mono ?_;rintro e w8 ⟨rfl,h,f'⟩;have Q8:=lh h;have G8:=lh (G7.out.rfr HR.out f');have F8:=lh (F7.out.trans f');clear h f' HT;obtain ⟨_,_,n3,_,_⟩:=G8.out.cells;have hdd:=HD.out;go_wp2_with fail
  refine Zf [0,2,4,6,8,10,12,15,17,18,21,23,25] [13,14,15] (fun W=>W.cell? ⟨nb,3,none⟩=some (.slice (some ⟨w5.heap.size,0,none⟩) 1 1)) n3 fun _=>?_;simp only [Zh,pD,zD,zE,zF,zG,zH,zI,zJ,zK]
  iterate 7
   first | refine Za _ ?_ | refine Zb ?_
   simp only [Act.put,zA,zB,zC]
  refine Z5 (fun K hK=>?_);go_simp
  refine (HBR.out w8.drew C B d _ _ _ Q8.out.drew HR.out (Ya HB.out F8.out.size) (by have:=HDF.out; omega) HPC.out).mono ?_;rintro e wxc ⟨axc,rfl,hA,hQ,hF⟩;have hF23:RFr w8 wxc C.rb:=(RFr.refl w8 C.rb).drew.trans hF;have hN:=G8.out.rfr HR.out hF23;obtain ⟨_,_,m3,mz0,hnb⟩:=hN.cells;have mz:=mz0 3;have NE:=lh hN.list.2.1;have NX:=lh hN;have AX:=lh hA;have QX:=lh hQ;have FW:=lh hF;have FX:=lh (F8.out.trans hF23);have WX:=lh hF.size;obtain ⟨i0,hi,hz0,hz1,hz2⟩:=info_parts Tryz.infoPtr;refine hK _ _ m3 ?_;clear hK K hA hQ hF hF23 hN mz0 n3
  refine Z5 (fun K hK=>?_);go_simp
  refine hK _ _ ((Z8 hnb).trans m3) ?_;clear hK K
  iterate 1
   first | refine Za _ ?_ | refine Zb ?_
   simp only [Act.put,zA,zB,zC]
  refine Z5 (fun K hK=>?_);go_simp
  obtain ⟨Yc,hY⟩:=zX ((wxc.alloc (.cells #[.pointer (some ⟨axc.b,0,none⟩)] 22)).alloc (.cells #[.int .i64 14,.string ⟨#[]⟩,.int .i64 0,.slice (some ⟨wxc.heap.size,0,none⟩) 1 1] 38))
  have hBY:Below wxc.heap.size wxc Yc:=by rw [hY]; exact ((Y8 _ _).alloc (Y5 _) _).alloc (by simp) _
  have hone:=Got.one (w0:=w8.drew) (k:=14) (t:=⟨#[]⟩) (Ya HB.out F8.out.size) FW.out AX.out;unfold ATree.ptr at hone;rw [← hY] at hone;have m5:Yc.cell? ⟨nb,3,none⟩=some (.slice (some ⟨w5.heap.size,0,none⟩) 1 1):=(Yj (hBY.block nb hnb)).trans m3;have mz5:Yc.frozen? ⟨nb,3,none⟩=false:=by rw [hY]; exact (Z0m (by simp; omega)).trans ((Z0m hnb).trans mz)
  have hnb5:nb < Yc.heap.size:=Ye hnb hBY.size;have hNB:wxc.heap.size + 1 + 1=Yc.heap.size:=by rw [hY]; simp
  have hRY:=RFr.below (rb:=C.rb) hBY;have NY:=lh (NX.out.rfr HR.out hRY);have AY:=lh hone;have QY:=lh (QX.out.below hBY);have FY:=lh (FX.out.trans hRY);refine hK _ _ ?_ ?_;·first | exact m5 | (rw [← hY]; exact m5)
  clear hK K;try rw [← hY]
  replace m3:=m5
  replace mz:=mz5
  replace hnb:=hnb5
  clear hY hBY hone m5 mz5 hnb5 hRY NX AX QX FX WX FW;refine Z5 (fun K hK=>?_);go_simp
  refine hK _ _ ((Z8 hnb).trans m3) ?_;clear hK K;refine Z5 (fun K hK=>?_)
  refine step_append_lies _ (by rfl) (.tmp 152) (.tmp 159) 36 (by rfl) B 22 i0 _ 1 8 Tryz.underlying36 hi hz0 hz1 hz2 rfl (by decide) (.slice (some ⟨w5.heap.size,0,none⟩) 1 1) ([a]:List ATree).length (([a]:List ATree).map ATree.ptr) (by rfl) (NY.out.at'.rowOf.alloc _) ⟨Yc.heap.size,0,none⟩ 1 1 [.pointer (some ⟨wxc.heap.size + 1,0,none⟩)] (by rfl) rfl (Yi (cs:=#[.pointer (some ⟨wxc.heap.size + 1,0,none⟩)]) (t:=22) (fr:=(0,0)) (heap_alloc_new Yc _)) (by first | (simp [Value.oneCell']; done) | (simp [ATree.ptr,Value.oneCell']; done)) (by decide) (by unfold maxLen; simp) (by simp) (by simp; have:=FY.out.size; have:=HB.out; omega) (Yc.heap.size + 1) (by simp) ?_
  intro gg cap w4 hown4 hgrow4 hat4 hlt4;have m4:w4.cell? ⟨nb,3,none⟩=some (.slice (some ⟨w5.heap.size,0,none⟩) 1 1):=(hgrow4.cell_far ⟨nb,3,none⟩ (by simp; omega) (fun e=>NE.out e.symm)).trans ((Z8 hnb).trans m3);have mz4:w4.frozen? ⟨nb,3,none⟩=false:=(hgrow4.frozen_far ⟨nb,3,none⟩ (by simp; omega) (fun e=>NE.out e.symm)).trans ((Z0m hnb).trans mz);refine hK _ _ m4 ?_;clear hK K;simp only [Act.put,zA,zB,zC]
  have hfin:=Got.pushT HR.out HB.out NY.out (wA:=w8.drew) (fun x hx=>(G8.out.new x hx).2) AY.out FY.out ((Y8 _ _).alloc (Y5 _) _) hgrow4 hown4 (by rcases hat4 with h | h; (exact .inl h); (exact .inr (by omega))) hlt4;have FIN:=lh hfin;clear hgrow4 hown4 hat4 hlt4 hfin;refine Z6 ?_;have G11:=lh FIN.out.1;have F11:=lh FIN.out.2.1;have Q11:=lh (QY.out.keep fun k hk=>(FIN.out.2.2 k (by have:=HR.out; omega)));clear FIN;obtain ⟨_,_,n3,_,_⟩:=G11.out.cells;clear m3 mz hnb;go_wp2;go_ret;exact ⟨_,rfl,G11.out,Q11.out,F11.out⟩
 all_goals
  have HT:=Z1i Q6.out Z0r;rw [HC.out,Yb rfl] at HT;refine HT.mono ?_;rintro e w7 ⟨rfl,h,f'⟩;have Q7:=lh h;have G7:=lh (G6.out.rfr HR.out f');have F7:=lh (F6.out.trans f');clear h f' HT;clear y3 z3;go_wp2_with fail
  refine (Z0w Q7.out Z0u B HR.out (Ya HB.out F7.out.size)).mono ?_;rintro e w8 ⟨rfl,h,f'⟩;have Q8:=lh h;have G8:=lh (G7.out.rfr HR.out f');have F8:=lh (F7.out.trans f');clear h f';go_wp2_with fail
  refine (Z34 Q8.out B HR.out (Ya HB.out F8.out.size)).mono ?_;rintro e w9 ⟨rfl,h,f'⟩;have Q9:=lh h;have G9:=lh (G8.out.rfr HR.out f');have F9:=lh (F8.out.trans f');clear h f';go_wp2_with fail
  refine (Z0w Q9.out Z0v B HR.out (Ya HB.out F9.out.size)).mono ?_;rintro e w10 ⟨rfl,h,f'⟩;have Q10:=lh h;have G10:=lh (G9.out.rfr HR.out f');have F10:=lh (F9.out.trans f');clear h f';obtain ⟨_,_,n3,_,_⟩:=G10.out.cells;have hdd:=HD.out;go_wp2_with fail
  refine Zf [0,2,4,6,8,10,12,14,17,19,20,23,25,27] [14,15,16] (fun W=>W.cell? ⟨nb,3,none⟩=some (.slice (some ⟨w5.heap.size,0,none⟩) 1 1)) n3 fun _=>?_;simp only [Zh,pD,zD,zE,zF,zG,zH,zI,zJ,zK]
  iterate 8
   first | refine Za _ ?_ | refine Zb ?_
   simp only [Act.put,zA,zB,zC]
  refine Z5 (fun K hK=>?_);go_simp
  refine (HBR.out w10.drew C B d _ _ _ Q10.out.drew HR.out (Ya HB.out F10.out.size) (by have:=HDF.out; omega) HPC.out).mono ?_;rintro e wxc ⟨axc,rfl,hA,hQ,hF⟩;have hF23:RFr w10 wxc C.rb:=(RFr.refl w10 C.rb).drew.trans hF;have hN:=G10.out.rfr HR.out hF23;obtain ⟨_,_,m3,mz0,hnb⟩:=hN.cells;have mz:=mz0 3;have NE:=lh hN.list.2.1;have NX:=lh hN;have AX:=lh hA;have QX:=lh hQ;have FW:=lh hF;have FX:=lh (F10.out.trans hF23);have WX:=lh hF.size;obtain ⟨i0,hi,hz0,hz1,hz2⟩:=info_parts Tryz.infoPtr;refine hK _ _ m3 ?_;clear hK K hA hQ hF hF23 hN mz0 n3
  refine Z5 (fun K hK=>?_);go_simp
  refine hK _ _ ((Z8 hnb).trans m3) ?_;clear hK K
  iterate 1
   first | refine Za _ ?_ | refine Zb ?_
   simp only [Act.put,zA,zB,zC]
  refine Z5 (fun K hK=>?_);go_simp
  obtain ⟨Yc,hY⟩:=zX ((wxc.alloc (.cells #[.pointer (some ⟨axc.b,0,none⟩)] 22)).alloc (.cells #[.int .i64 13,.string (Zw (Z0y Z0u (advR σ1))).1,.int .i64 0,.slice (some ⟨wxc.heap.size,0,none⟩) 1 1] 38))
  have hBY:Below wxc.heap.size wxc Yc:=by rw [hY]; exact ((Y8 _ _).alloc (Y5 _) _).alloc (by simp) _
  have hone:=Got.one (w0:=w10.drew) (k:=13) (t:=(Zw (Z0y Z0u (advR σ1))).1) (Ya HB.out F10.out.size) FW.out AX.out;unfold ATree.ptr at hone;rw [← hY] at hone;have m5:Yc.cell? ⟨nb,3,none⟩=some (.slice (some ⟨w5.heap.size,0,none⟩) 1 1):=(Yj (hBY.block nb hnb)).trans m3;have mz5:Yc.frozen? ⟨nb,3,none⟩=false:=by rw [hY]; exact (Z0m (by simp; omega)).trans ((Z0m hnb).trans mz)
  have hnb5:nb < Yc.heap.size:=Ye hnb hBY.size;have hNB:wxc.heap.size + 1 + 1=Yc.heap.size:=by rw [hY]; simp
  have hRY:=RFr.below (rb:=C.rb) hBY;have NY:=lh (NX.out.rfr HR.out hRY);have AY:=lh hone;have QY:=lh (QX.out.below hBY);have FY:=lh (FX.out.trans hRY);refine hK _ _ ?_ ?_;·first | exact m5 | (rw [← hY]; exact m5)
  clear hK K;try rw [← hY]
  replace m3:=m5
  replace mz:=mz5
  replace hnb:=hnb5
  clear hY hBY hone m5 mz5 hnb5 hRY NX AX QX FX WX FW;refine Z5 (fun K hK=>?_);go_simp
  refine hK _ _ ((Z8 hnb).trans m3) ?_;clear hK K;refine Z5 (fun K hK=>?_)
  refine step_append_lies _ (by rfl) (.tmp 134) (.tmp 142) 36 (by rfl) B 22 i0 _ 1 8 Tryz.underlying36 hi hz0 hz1 hz2 rfl (by decide) (.slice (some ⟨w5.heap.size,0,none⟩) 1 1) ([a]:List ATree).length (([a]:List ATree).map ATree.ptr) (by rfl) (NY.out.at'.rowOf.alloc _) ⟨Yc.heap.size,0,none⟩ 1 1 [.pointer (some ⟨wxc.heap.size + 1,0,none⟩)] (by rfl) rfl (Yi (cs:=#[.pointer (some ⟨wxc.heap.size + 1,0,none⟩)]) (t:=22) (fr:=(0,0)) (heap_alloc_new Yc _)) (by first | (simp [Value.oneCell']; done) | (simp [ATree.ptr,Value.oneCell']; done)) (by decide) (by unfold maxLen; simp) (by simp) (by simp; have:=FY.out.size; have:=HB.out; omega) (Yc.heap.size + 1) (by simp) ?_
  intro gg cap w4 hown4 hgrow4 hat4 hlt4;have m4:w4.cell? ⟨nb,3,none⟩=some (.slice (some ⟨w5.heap.size,0,none⟩) 1 1):=(hgrow4.cell_far ⟨nb,3,none⟩ (by simp; omega) (fun e=>NE.out e.symm)).trans ((Z8 hnb).trans m3);have mz4:w4.frozen? ⟨nb,3,none⟩=false:=(hgrow4.frozen_far ⟨nb,3,none⟩ (by simp; omega) (fun e=>NE.out e.symm)).trans ((Z0m hnb).trans mz);refine hK _ _ m4 ?_;clear hK K;simp only [Act.put,zA,zB,zC]
  have hfin:=Got.pushT HR.out HB.out NY.out (wA:=w10.drew) (fun x hx=>(G10.out.new x hx).2) AY.out FY.out ((Y8 _ _).alloc (Y5 _) _) hgrow4 hown4 (by rcases hat4 with h | h; (exact .inl h); (exact .inr (by omega))) hlt4;have FIN:=lh hfin;clear hgrow4 hown4 hat4 hlt4 hfin;refine Z6 ?_
 ·have G11 := lh FIN.out.1;have F11 := lh FIN.out.2.1;have Q11 := lh (QY.out.keep fun k hk => (FIN.out.2.2 k (by have := HR.out; omega)));clear FIN;go_wp2_with fail
  refine (Z04 Q11.out Zt HFI.out).mono ?_;rintro e w13 ⟨rfl,hb⟩;have Q13:=lh (Q11.out.below hb);have G13:=lh (G11.out.rfr HR.out (RFr.below (rb:=C.rb) hb));have F13:=lh (F11.out.trans (RFr.below (rb:=C.rb) hb));clear hb m3 mz m4 mz4 hnb;obtain ⟨_,_,n3,_,_⟩:=G13.out.cells;go_wp2;go_ret;exact ⟨_,rfl,G13.out,Q13.out,F13.out⟩
 ·have G11 := lh (show Got w B (w4.setCell ⟨nb, 3, none⟩ (.slice (some ⟨gg, 0, none⟩) (1 + 1) cap)) (.mk nb (.slice (some ⟨gg, 0, none⟩) (1 + 1) cap) 12 ⟨#[]⟩ 0 [a, .mk (wxc.heap.size + 1) (.slice (some ⟨wxc.heap.size, 0, none⟩) 1 1) 13 (Zw (Z0y Z0u (advR σ1))).1 0 [axc]]) (.mk 12 ⟨#[]⟩ 0 [b, .mk 13 (Zw (Z0y Z0u (advR σ1))).1 0 [c]]) from FIN.out.1);have F11 := lh FIN.out.2.1;have Q11 := lh (QY.out.keep fun k hk => (FIN.out.2.2 k (by have := HR.out; omega)));clear FIN;go_wp2_with fail
  have HT:=Z1i Q11.out Zt;rw [HFI.out,Yb rfl] at HT;refine HT.mono ?_;rintro e w13 ⟨rfl,h,f'⟩;have Q13:=lh h;have G13:=lh (G11.out.rfr HR.out f');have F13:=lh (F11.out.trans f');clear h f' HT m3 mz m4 mz4 hnb NE NY AY QY FY i0 hi hz0 hz1 hz2;obtain ⟨_,_,n3,_,_⟩:=G13.out.cells;have hdd:=HD.out;go_wp2_with fail
  refine Zf [0,2,4,6,8,10,12,15,17,18,21,23,25] [13,14,15] (fun W=>W.cell? ⟨nb,3,none⟩=some (.slice (some ⟨gg,0,none⟩) (1 + 1) cap)) n3 fun _=>?_;simp only [Zh,pD,zD,zE,zF,zG,zH,zI,zJ,zK]
  iterate 7
   first | refine Za _ ?_ | refine Zb ?_
   simp only [Act.put,zA,zB,zC]
  refine Z5 (fun K hK=>?_);go_simp
  refine (HBR.out w13.drew C B d _ _ _ Q13.out.drew HR.out (Ya HB.out F13.out.size) (by have:=HDF.out; omega) HPF.out).mono ?_;rintro e wxf ⟨axf,rfl,hA,hQ,hF⟩;have hF23:RFr w13 wxf C.rb:=(RFr.refl w13 C.rb).drew.trans hF;have hN:=G13.out.rfr HR.out hF23;obtain ⟨_,_,m3,mz0,hnb⟩:=hN.cells;have mz:=mz0 3;have NE:=lh hN.list.2.1;have NX:=lh hN;have AX:=lh hA;have QX:=lh hQ;have FW:=lh hF;have FX:=lh (F13.out.trans hF23);have WX:=lh hF.size;obtain ⟨i0,hi,hz0,hz1,hz2⟩:=info_parts Tryz.infoPtr;refine hK _ _ m3 ?_;clear hK K hA hQ hF hF23 hN mz0 n3
  refine Z5 (fun K hK=>?_);go_simp
  refine hK _ _ ((Z8 hnb).trans m3) ?_;clear hK K
  iterate 1
   first | refine Za _ ?_ | refine Zb ?_
   simp only [Act.put,zA,zB,zC]
  refine Z5 (fun K hK=>?_);go_simp
  obtain ⟨Yf,hY⟩:=zX ((wxf.alloc (.cells #[.pointer (some ⟨axf.b,0,none⟩)] 22)).alloc (.cells #[.int .i64 14,.string ⟨#[]⟩,.int .i64 0,.slice (some ⟨wxf.heap.size,0,none⟩) 1 1] 38))
  have hBY:Below wxf.heap.size wxf Yf:=by rw [hY]; exact ((Y8 _ _).alloc (Y5 _) _).alloc (by simp) _
  have hone:=Got.one (w0:=w13.drew) (k:=14) (t:=⟨#[]⟩) (Ya HB.out F13.out.size) FW.out AX.out;unfold ATree.ptr at hone;rw [← hY] at hone;have m5:Yf.cell? ⟨nb,3,none⟩=some (.slice (some ⟨gg,0,none⟩) (1 + 1) cap):=(Yj (hBY.block nb hnb)).trans m3;have mz5:Yf.frozen? ⟨nb,3,none⟩=false:=by rw [hY]; exact (Z0m (by simp; omega)).trans ((Z0m hnb).trans mz)
  have hnb5:nb < Yf.heap.size:=Ye hnb hBY.size;have hNB:wxf.heap.size + 1 + 1=Yf.heap.size:=by rw [hY]; simp
  have hRY:=RFr.below (rb:=C.rb) hBY;have NY:=lh (NX.out.rfr HR.out hRY);have AY:=lh hone;have QY:=lh (QX.out.below hBY);have FY:=lh (FX.out.trans hRY);refine hK _ _ ?_ ?_;·first | exact m5 | (rw [← hY]; exact m5)
  clear hK K;try rw [← hY]
  replace m3:=m5
  replace mz:=mz5
  replace hnb:=hnb5
  clear hY hBY hone m5 mz5 hnb5 hRY NX AX QX FX WX FW;refine Z5 (fun K hK=>?_);go_simp
  refine hK _ _ ((Z8 hnb).trans m3) ?_;clear hK K;refine Z5 (fun K hK=>?_)
  refine step_append_lies _ (by rfl) (.tmp 152) (.tmp 159) 36 (by rfl) B 22 i0 _ 1 8 Tryz.underlying36 hi hz0 hz1 hz2 rfl (by decide) (.slice (some ⟨gg,0,none⟩) (1 + 1) cap) ([a,.mk (wxc.heap.size + 1) (.slice (some ⟨wxc.heap.size,0,none⟩) 1 1) 13 (Zw (Z0y Z0u (advR σ1))).1 0 [axc]]:List ATree).length (([a,.mk (wxc.heap.size + 1) (.slice (some ⟨wxc.heap.size,0,none⟩) 1 1) 13 (Zw (Z0y Z0u (advR σ1))).1 0 [axc]]:List ATree).map ATree.ptr) (by rfl) (NY.out.at'.rowOf.alloc _) ⟨Yf.heap.size,0,none⟩ 1 1 [.pointer (some ⟨wxf.heap.size + 1,0,none⟩)] (by rfl) rfl (Yi (cs:=#[.pointer (some ⟨wxf.heap.size + 1,0,none⟩)]) (t:=22) (fr:=(0,0)) (heap_alloc_new Yf _)) (by first | (simp [Value.oneCell']; done) | (simp [ATree.ptr,Value.oneCell']; done)) (by decide) (by unfold maxLen; simp) (by simp) (by simp; have:=FY.out.size; have:=HB.out; omega) (Yf.heap.size + 1) (by simp) ?_
  intro gg2 cap2 w42 hown4 hgrow4 hat4 hlt4;have m4:w42.cell? ⟨nb,3,none⟩=some (.slice (some ⟨gg,0,none⟩) (1 + 1) cap):=(hgrow4.cell_far ⟨nb,3,none⟩ (by simp; omega) (fun e=>NE.out e.symm)).trans ((Z8 hnb).trans m3);have mz4:w42.frozen? ⟨nb,3,none⟩=false:=(hgrow4.frozen_far ⟨nb,3,none⟩ (by simp; omega) (fun e=>NE.out e.symm)).trans ((Z0m hnb).trans mz);refine hK _ _ m4 ?_;clear hK K;simp only [Act.put,zA,zB,zC]
  have hfin:=Got.pushT HR.out HB.out NY.out (wA:=w13.drew) (fun x hx=>(G13.out.new x hx).2) AY.out FY.out ((Y8 _ _).alloc (Y5 _) _) hgrow4 hown4 (by rcases hat4 with h | h; (exact .inl h); (exact .inr (by omega))) hlt4;have FIN:=lh hfin;clear hgrow4 hown4 hat4 hlt4 hfin;refine Z6 ?_;have G15:=lh FIN.out.1;have F15:=lh FIN.out.2.1;have Q15:=lh (QY.out.keep fun k hk=>(FIN.out.2.2 k (by have:=HR.out; omega)));clear FIN;obtain ⟨_,_,n3,_,_⟩:=G15.out.cells;clear m3 mz hnb;go_wp2;go_ret;exact ⟨_,rfl,G15.out,Q15.out,F15.out⟩
end Go.Proofs.YtmeiggjboakmpaaGreatDoor
