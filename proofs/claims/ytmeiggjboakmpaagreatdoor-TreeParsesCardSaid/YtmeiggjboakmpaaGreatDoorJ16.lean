/- The document's parser: statement: while, with, if. -/
import Derived.Test.YtmeiggjboakmpaaGreatDoorJ15
namespace Go.Proofs.YtmeiggjboakmpaaGreatDoor
open Go Go.RowKit
set_option maxRecDepth 100000
set_option maxHeartbeats 20000000
theorem Zee (f:Nat) (hH:Z1s 38 qd .head f) (hS2:Z1s 39 qd .stmt2 f) (x y:Tree) (σ1:RS) (w:World) (C:QC) (B d:Nat) (σ:RS) (t:Tree) (σ':RS) (hQ:QS w C σ) (hr:C.rb < B) (hB:B≤w.heap.size) (hd:d≤30) (hdf:d + (f + 1)≤1000000000000) (hsee:∀ s:ByteArray,s≠Zz→Zl s σ=false) (hn:Zl Zz σ=true) (ht:t=.mk 8 ByteArray.empty 0 [x,y]) (hp:refF f .head d (advR σ)=some (x,σ1)) (hp2:refF f .stmt2 d σ1=some (y,σ')) :
 Calls Tryz.prog 13 (qd C.rb d) w (Z26 w C B t σ'):=by
 have n30:¬ (d:Int) > 30:=by omega
 obtain ⟨nb,hnb⟩:=zX w.heap.size
 obtain ⟨w0,hw0⟩:=zX (w.alloc (.cells #[.int .i64 0,.string ⟨#[]⟩,.int .i64 0,.slice none 0 0] 38))
 have hal:Below w.heap.size w w0:=by rw [hw0]; exact (Y8 _ _).alloc (Y5 _) _
 have Q0:=lh (hQ.below hal);have F0:=lh (RFr.below (rb:=C.rb) hal);have G0:=lh (show Got w B w0 (.mk nb (.slice none 0 0) 0 ⟨#[]⟩ 0 []) (.mk 0 ⟨#[]⟩ 0 []) by rw [hw0,hnb]; exact Got.leaf hB (RFr.refl w C.rb));have HR:=lh hr;have HB:=lh hB;have HW0:=lh hw0;have HNB:=lh hnb;have HNBW:=lh (show nb < w0.heap.size by rw [hw0,hnb]; simp);have HD:=lh hd;have HDF:=lh hdf;have HSEE:=lh hsee;have HSN:=lh hn;have HH:=lh hH;have HS2:=lh hS2;have HP:=lh hp;have HP2:=lh hp2;subst ht;clear hQ hr hB hd hdf hsee hn hal hw0 hnb hH hS2 hp hp2;unfold qd
 go_enter Tryz.func13,Tryz.ntmps13
 go_wp2_with fail
 rw [← HW0.out,← HNB.out];have BA0:=lh (Y8 w0.heap.size w0);have HT:=Zk Q0.out Zi;rw [HSEE.out Zi (by decide)] at HT;refine HT.mono ?_;rintro e wt1 ⟨rfl,hb⟩;have BA1:=zT BA0 hb;have Q1:=lh (Q0.out.below hb);clear hb HT;go_wp2_with fail
 have HT:=Z04 Q1.out Zs (HSEE.out Zs (by decide));refine HT.mono ?_;rintro e wt2 ⟨rfl,hb⟩;have BA2:=zT BA1 hb;have Q2:=lh (Q1.out.below hb);clear hb HT;go_wp2_with fail
 have HT:=Z04 Q2.out Ze (HSEE.out Ze (by decide));refine HT.mono ?_;rintro e wt3 ⟨rfl,hb⟩;have BA3:=zT BA2 hb;have Q3:=lh (Q2.out.below hb);clear hb HT;go_wp2_with fail
 have HT:=Z04 Q3.out s_if (HSEE.out s_if (by decide));refine HT.mono ?_;rintro e wt4 ⟨rfl,hb⟩;have BA4:=zT BA3 hb;have Q4:=lh (Q3.out.below hb);clear hb HT;go_wp2_with fail
 have HT:=Zk Q4.out Zz;rw [HSN.out] at HT;refine HT.mono ?_;rintro e w3 ⟨rfl,hb⟩;have F3:=lh ((RFr.below (rb:=C.rb) BA4.out).trans (RFr.below hb));have Q3:=lh (Q4.out.below hb);clear hb HT Q4;have hG3:=G0.out.rfr HR.out F3.out;obtain ⟨y0,_,_,z0,_⟩:=hG3.cells;have z0:=z0 0;have K3:=Got.kind0 (k':=8) HR.out HB.out hG3 (F0.out.trans F3.out);have G4:=lh K3.1;have F4:=lh K3.2.1;have Q4:=lh (Q3.out.keep fun k hk=>K3.2.2 k (by have:=HR.out; omega));have hdd:=HD.out;clear hG3 K3;go_wp2_with fail
 have HT:=Zk Q4.out Z0d;rw [HSEE.out Z0d (by decide)] at HT;refine HT.mono ?_;rintro e w5 ⟨rfl,hb⟩;have Q5:=lh (Q4.out.below hb);have G5:=lh (G4.out.rfr HR.out (RFr.below (rb:=C.rb) hb));have F5:=lh (F4.out.trans (RFr.below (rb:=C.rb) hb));clear hb HT Q4 G4 F4 y0 z0;obtain ⟨i,hi,hA⟩:=Q5.out;have c1:=hA.c1;have z1:=hA.fz 1;have hk:(hdT (C.L.drop i)).kind≠6:=by rw [← hi]; exact Z56 (Z33 HSN.out)
 have hadv:=QS.adv hA (x:=(i:Int) + 1) hk rfl;have e:(⟨C.L.drop i,σ.f⟩:RS)=σ:=by rw [← hi]
 rw [e] at hadv;have Q7:=lh hadv;have F57:=(RFr.of_set (w:=w5) (rb:=C.rb) 1 (.int .i64 ((i:Int) + 1)))
 have F7:=lh (F5.out.trans F57);have G7:=lh (G5.out.rfr HR.out F57);have hil:=hA.lt;have hfew:=hA.few;have HIL:=lh (show (i:Int) < 4000 by omega);clear hA hi hk hadv e F57 hil hfew;have hil:=HIL.out;have hdd:=HD.out;go_wp2_with fail
 refine (HH.out _ C B d _ _ _ Q7.out HR.out (Ya HB.out F7.out.size) (by have:=HDF.out; omega) HP.out).mono ?_;rintro e w8 ⟨a,rfl,h8,q8,f8⟩;have A8:=lh h8;have Q8:=lh q8;have F8:=lh f8;clear h8 q8 f8 c1 z1;go_wp2_with fail
 refine (HS2.out w8 C B d _ _ _ Q8.out HR.out (Ya HB.out (F7.out.trans F8.out).size) (by have:=HDF.out; omega) HP2.out).mono ?_;rintro e w9 ⟨c,rfl,h9,q9,f9⟩;obtain ⟨⟨y3,z3⟩,g1,g2,g3⟩:=Got.giveKids HR.out HB.out G7.out F7.out (F8.out.trans f9) (KidsAt.two (A8.out.rfr HR.out f9) (fun x hx=>(A8.out.new x hx).2) F8.out.size h9) (by simp) #[.pointer (some ⟨a.b,0,none⟩),.pointer (some ⟨c.b,0,none⟩)] rfl 2 rfl;have G10:=lh g1;have F10:=lh g2;have Q10:=lh (q9.keep fun k hk=>g3 k (by have:=HR.out; omega));clear h9 q9 f9 g1 g2 g3;go_wp2;go_ret
 exact ⟨_,rfl,G10.out,Q10.out,F10.out⟩
theorem Zg1 (f:Nat) (hH:Z1s 38 qd .head f) (hS2:Z1s 39 qd .stmt2 f) (x y:Tree) (σ1:RS) (w:World) (C:QC) (B d:Nat) (σ:RS) (t:Tree) (σ':RS) (hQ:QS w C σ) (hr:C.rb < B) (hB:B≤w.heap.size) (hd:d≤30) (hdf:d + (f + 1)≤1000000000000) (hsee:∀ s:ByteArray,s≠Z0d→Zl s σ=false) (hn:Zl Z0d σ=true) (ht:t=.mk 9 ByteArray.empty 0 [x,y]) (hp:refF f .head d (advR σ)=some (x,σ1)) (hp2:refF f .stmt2 d σ1=some (y,σ')) :
 Calls Tryz.prog 13 (qd C.rb d) w (Z26 w C B t σ'):=by
 have n30:¬ (d:Int) > 30:=by omega
 obtain ⟨nb,hnb⟩:=zX w.heap.size
 obtain ⟨w0,hw0⟩:=zX (w.alloc (.cells #[.int .i64 0,.string ⟨#[]⟩,.int .i64 0,.slice none 0 0] 38))
 have hal:Below w.heap.size w w0:=by rw [hw0]; exact (Y8 _ _).alloc (Y5 _) _
 have Q0:=lh (hQ.below hal);have F0:=lh (RFr.below (rb:=C.rb) hal);have G0:=lh (show Got w B w0 (.mk nb (.slice none 0 0) 0 ⟨#[]⟩ 0 []) (.mk 0 ⟨#[]⟩ 0 []) by rw [hw0,hnb]; exact Got.leaf hB (RFr.refl w C.rb));have HR:=lh hr;have HB:=lh hB;have HW0:=lh hw0;have HNB:=lh hnb;have HNBW:=lh (show nb < w0.heap.size by rw [hw0,hnb]; simp);have HD:=lh hd;have HDF:=lh hdf;have HSEE:=lh hsee;have HSN:=lh hn;have HH:=lh hH;have HS2:=lh hS2;have HP:=lh hp;have HP2:=lh hp2;subst ht;clear hQ hr hB hd hdf hsee hn hal hw0 hnb hH hS2 hp hp2;unfold qd
 go_enter Tryz.func13,Tryz.ntmps13
 go_wp2_with fail
 rw [← HW0.out,← HNB.out];have BA0:=lh (Y8 w0.heap.size w0);have HT:=Zk Q0.out Zi;rw [HSEE.out Zi (by decide)] at HT;refine HT.mono ?_;rintro e wt1 ⟨rfl,hb⟩;have BA1:=zT BA0 hb;have Q1:=lh (Q0.out.below hb);clear hb HT;go_wp2_with fail
 have HT:=Z04 Q1.out Zs (HSEE.out Zs (by decide));refine HT.mono ?_;rintro e wt2 ⟨rfl,hb⟩;have BA2:=zT BA1 hb;have Q2:=lh (Q1.out.below hb);clear hb HT;go_wp2_with fail
 have HT:=Z04 Q2.out Ze (HSEE.out Ze (by decide));refine HT.mono ?_;rintro e wt3 ⟨rfl,hb⟩;have BA3:=zT BA2 hb;have Q3:=lh (Q2.out.below hb);clear hb HT;go_wp2_with fail
 have HT:=Z04 Q3.out s_if (HSEE.out s_if (by decide));refine HT.mono ?_;rintro e wt4 ⟨rfl,hb⟩;have BA4:=zT BA3 hb;have Q4:=lh (Q3.out.below hb);clear hb HT;go_wp2_with fail
 have HT:=Zk Q4.out Zz;rw [HSEE.out Zz (by decide)] at HT;refine HT.mono ?_;rintro e wt5 ⟨rfl,hb⟩;have BA5:=zT BA4 hb;have Q5:=lh (Q4.out.below hb);clear hb HT;go_wp2_with fail
 have HT:=Zk Q5.out Z0d;rw [HSN.out] at HT;refine HT.mono ?_;rintro e w3 ⟨rfl,hb⟩;have F3:=lh ((RFr.below (rb:=C.rb) BA5.out).trans (RFr.below hb));have Q3:=lh (Q5.out.below hb);clear hb HT Q5;have hG3:=G0.out.rfr HR.out F3.out;obtain ⟨y0,_,_,z0,_⟩:=hG3.cells;have z0:=z0 0;have K3:=Got.kind0 (k':=8) HR.out HB.out hG3 (F0.out.trans F3.out);have G4:=lh K3.1;have F4:=lh K3.2.1;have Q4:=lh (Q3.out.keep fun k hk=>K3.2.2 k (by have:=HR.out; omega));have hdd:=HD.out;clear hG3 K3;go_wp2_with fail
 have HT:=Zk Q4.out Z0d;rw [HSN.out] at HT;refine HT.mono ?_;rintro e w5 ⟨rfl,hb⟩;have Q5:=lh (Q4.out.below hb);have G5:=lh (G4.out.rfr HR.out (RFr.below (rb:=C.rb) hb));have F5:=lh (F4.out.trans (RFr.below (rb:=C.rb) hb));clear hb HT Q4 G4 F4 y0 z0;obtain ⟨y0,_,_,z0,hbl⟩:=G5.out.cells;have z0:=z0 0;have K5:=Got.kind0 (k':=9) HR.out HB.out G5.out F5.out;obtain ⟨W5,hW5⟩:=zX (w5.setCell ⟨nb,0,none⟩ (.int .i64 9))
 rw [← hW5] at K5;have G6:=lh K5.1;have F6:=lh K5.2.1;have Q6:=Q5.out.keep fun k hk=>K5.2.2 k (by have:=HR.out; omega);have HW5:=lh hW5;obtain ⟨i,hi,hA⟩:=Q6;have c1:=hA.c1;have z1:=hA.fz 1;rw [hW5] at c1 z1;clear K5 hW5 hbl;have hk:(hdT (C.L.drop i)).kind≠6:=by rw [← hi]; exact Z56 (Z33 HSN.out)
 have hadv:=QS.adv hA (x:=(i:Int) + 1) hk rfl;have e:(⟨C.L.drop i,σ.f⟩:RS)=σ:=by rw [← hi]
 rw [e] at hadv;have Q7:=lh hadv;have F57:=(RFr.of_set (w:=W5) (rb:=C.rb) 1 (.int .i64 ((i:Int) + 1)))
 have F7:=lh (F6.out.trans F57);have G7:=lh (G6.out.rfr HR.out F57);have hil:=hA.lt;have hfew:=hA.few;have HIL:=lh (show (i:Int) < 4000 by omega);clear hA hi hk hadv e F57 hil hfew;have hil:=HIL.out;have hdd:=HD.out;go_wp2_with fail
 rw [← HW5.out];refine (HH.out _ C B d _ _ _ Q7.out HR.out (Ya HB.out F7.out.size) (by have:=HDF.out; omega) HP.out).mono ?_;rintro e w8 ⟨a,rfl,h8,q8,f8⟩;have A8:=lh h8;have Q8:=lh q8;have F8:=lh f8;clear h8 q8 f8 c1 z1 y0 z0;go_wp2_with fail
 refine (HS2.out w8 C B d _ _ _ Q8.out HR.out (Ya HB.out (F7.out.trans F8.out).size) (by have:=HDF.out; omega) HP2.out).mono ?_;rintro e w9 ⟨c,rfl,h9,q9,f9⟩;obtain ⟨⟨y3,z3⟩,g1,g2,g3⟩:=Got.giveKids HR.out HB.out G7.out F7.out (F8.out.trans f9) (KidsAt.two (A8.out.rfr HR.out f9) (fun x hx=>(A8.out.new x hx).2) F8.out.size h9) (by simp) #[.pointer (some ⟨a.b,0,none⟩),.pointer (some ⟨c.b,0,none⟩)] rfl 2 rfl;have G10:=lh g1;have F10:=lh g2;have Q10:=lh (q9.keep fun k hk=>g3 k (by have:=HR.out; omega));clear h9 q9 f9 g1 g2 g3;go_wp2;go_ret
 exact ⟨_,rfl,G10.out,Q10.out,F10.out⟩
theorem Zl0 (f:Nat) (hH:Z1s 38 qd .head f) (hS2:Z1s 39 qd .stmt2 f) (x y:Tree) (σ1:RS) (w:World) (C:QC) (B d:Nat) (σ:RS) (t:Tree) (σ':RS) (hQ:QS w C σ) (hr:C.rb < B) (hB:B≤w.heap.size) (hd:d≤30) (hdf:d + (f + 1)≤1000000000000) (hsee:∀ s:ByteArray,s≠s_if→Zl s σ=false) (hn:Zl s_if σ=true) (ht:t=.mk 7 ByteArray.empty 0 [x,y]) (hel:Zl Z1y σ'=false) (hp:refF f .head d (advR σ)=some (x,σ1)) (hp2:refF f .stmt2 d σ1=some (y,σ')) :
 Calls Tryz.prog 13 (qd C.rb d) w (Z26 w C B t σ'):=by
 have n30:¬ (d:Int) > 30:=by omega
 obtain ⟨nb,hnb⟩:=zX w.heap.size
 obtain ⟨w0,hw0⟩:=zX (w.alloc (.cells #[.int .i64 0,.string ⟨#[]⟩,.int .i64 0,.slice none 0 0] 38))
 have hal:Below w.heap.size w w0:=by rw [hw0]; exact (Y8 _ _).alloc (Y5 _) _
 have Q0:=lh (hQ.below hal);have F0:=lh (RFr.below (rb:=C.rb) hal);have G0:=lh (show Got w B w0 (.mk nb (.slice none 0 0) 0 ⟨#[]⟩ 0 []) (.mk 0 ⟨#[]⟩ 0 []) by rw [hw0,hnb]; exact Got.leaf hB (RFr.refl w C.rb));have HR:=lh hr;have HB:=lh hB;have HW0:=lh hw0;have HNB:=lh hnb;have HNBW:=lh (show nb < w0.heap.size by rw [hw0,hnb]; simp);have HD:=lh hd;have HDF:=lh hdf;have HSEE:=lh hsee;have HSN:=lh hn;have HH:=lh hH;have HS2:=lh hS2;have HP:=lh hp;have HP2:=lh hp2;subst ht;have HEL:=lh hel;clear hQ hr hB hd hdf hsee hn hal hw0 hnb hH hS2 hp hp2 hel;unfold qd
 go_enter Tryz.func13,Tryz.ntmps13
 go_wp2_with fail
 rw [← HW0.out,← HNB.out];have BA0:=lh (Y8 w0.heap.size w0);have HT:=Zk Q0.out Zi;rw [HSEE.out Zi (by decide)] at HT;refine HT.mono ?_;rintro e wt1 ⟨rfl,hb⟩;have BA1:=zT BA0 hb;have Q1:=lh (Q0.out.below hb);clear hb HT;go_wp2_with fail
 have HT:=Z04 Q1.out Zs (HSEE.out Zs (by decide));refine HT.mono ?_;rintro e wt2 ⟨rfl,hb⟩;have BA2:=zT BA1 hb;have Q2:=lh (Q1.out.below hb);clear hb HT;go_wp2_with fail
 have HT:=Z04 Q2.out Ze (HSEE.out Ze (by decide));refine HT.mono ?_;rintro e wt3 ⟨rfl,hb⟩;have BA3:=zT BA2 hb;have Q3:=lh (Q2.out.below hb);clear hb HT;go_wp2_with fail
 have HT:=Z1h Q3.out s_if;rw [HSN.out,Yb rfl] at HT;refine HT.mono ?_;rintro e w3 ⟨rfl,h3,f3⟩;have Q3:=lh h3;have F3:=lh ((RFr.below (rb:=C.rb) BA3.out).trans f3);clear h3 f3 HT;have hG3:=G0.out.rfr HR.out F3.out;obtain ⟨y0,_,_,z0,_⟩:=hG3.cells;have z0:=z0 0;have K3:=Got.kind0 (k':=7) HR.out HB.out hG3 (F0.out.trans F3.out);have G4:=lh K3.1;have F4:=lh K3.2.1;have Q4:=lh (Q3.out.keep fun k hk=>K3.2.2 k (by have:=HR.out; omega));have hdd:=HD.out;clear hG3 K3;go_wp2_with fail
 refine (HH.out _ C B d _ _ _ Q4.out HR.out (Ya HB.out F4.out.size) (by have:=HDF.out; omega) HP.out).mono ?_;rintro e w8 ⟨a,rfl,h8,q8,f8⟩;have A8:=lh h8;have Q8:=lh q8;have F8:=lh f8;clear h8 q8 f8 y0 z0;go_wp2_with fail
 refine (HS2.out w8 C B d _ _ _ Q8.out HR.out (Ya HB.out (F4.out.trans F8.out).size) (by have:=HDF.out; omega) HP2.out).mono ?_;rintro e w9 ⟨c,rfl,h9,q9,f9⟩;obtain ⟨⟨y3,z3⟩,g1,g2,g3⟩:=Got.giveKids HR.out HB.out G4.out F4.out (F8.out.trans f9) (KidsAt.two (A8.out.rfr HR.out f9) (fun x hx=>(A8.out.new x hx).2) F8.out.size h9) (by simp) #[.pointer (some ⟨a.b,0,none⟩),.pointer (some ⟨c.b,0,none⟩)] rfl 2 rfl;have G10:=lh g1;have F10:=lh g2;have Q10:=lh (q9.keep fun k hk=>g3 k (by have:=HR.out; omega));clear h9 q9 f9 g1 g2 g3;go_wp2_with fail
 refine (Z04 Q10.out Z1y HEL.out).mono ?_;rintro e w11 ⟨rfl,hb⟩;have G11:=lh (G10.out.rfr HR.out (RFr.below (rb:=C.rb) hb));have Q11:=lh (Q10.out.below hb);have F11:=lh (F10.out.trans (RFr.below (rb:=C.rb) hb));clear hb y3 z3;go_wp2;go_ret;exact ⟨_,rfl,G11.out,Q11.out,F11.out⟩
end Go.Proofs.YtmeiggjboakmpaaGreatDoor
