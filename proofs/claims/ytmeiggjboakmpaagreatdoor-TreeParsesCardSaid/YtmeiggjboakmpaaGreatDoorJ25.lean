/- The document's parser: statement: var, let, const. -/
import Derived.Test.YtmeiggjboakmpaaGreatDoorJ22
import Derived.Test.YtmeiggjboakmpaaGreatDoorJ24
namespace Go.Proofs.YtmeiggjboakmpaaGreatDoor
open Go Go.RowKit Go.Maps
set_option linter.unusedSimpArgs false
set_option maxRecDepth 100000
set_option maxHeartbeats 20000000
set_option linter.unusedVariables false
theorem Z7r {P:Program} {c:Code} {Q:Exit→Act→World→Prop} {a:Act} {w:World} {A:Act} {R:World→Prop} (h1:c.wp P (fun e a' w'=>e=Exit.normal∧a'=A∧R w') a w) (h2:∀ w',R w'→Q Exit.normal A w'):c.wp P Q a w:=
 wp_mono h1 fun e a' w' h=>by
  obtain ⟨rfl,rfl,h⟩:=h;exact h2 _ h
theorem Zcg {s:ByteArray} {ts:List Tok} (h:isT s ts=true):(hdT ts).text=s:=by
 unfold isT at h;simp only [Bool.and_eq_true] at h;have:=h.2;unfold Z15 at this;simpa using this
theorem Zjl (f:Nat) (hV:Z1s 41 qd .value f) (w:World) (C:QC) (B d:Nat) (σ:RS) (t:Tree) (σ':RS) (hQ:QS w C σ) (hr:C.rb < B) (hB:B≤w.heap.size) (hd:d≤30) (hdf:d + (f + 1)≤1000000000000) (hsee:∀ s:ByteArray,s≠Z18→Zl s σ=false) (hn:Zl Z18 σ=true) (hpp:(if Zl s_eq (Zw (advR σ)).2=true then Z0n (refF f .value (d + 1) (advR (Zw (advR σ)).2)) fun x σ'=>some (.mk 2 (Zw (advR σ)).1 0 [x],Z0y Zs σ') else some (.mk 2 (Zw (advR σ)).1 0 [],Z0y Zs (Zw (advR σ)).2))=some (t,σ')) :
 Calls Tryz.prog 13 (qd C.rb d) w (Z27 w C B t σ'):=by
 have n30:¬ (d:Int) > 30:=by omega
 obtain ⟨nb,hnb⟩:=zX w.heap.size
 obtain ⟨w0,hw0⟩:=zX (w.alloc (.cells #[.int .i64 0,.string ⟨#[]⟩,.int .i64 0,.slice none 0 0] 38))
 have hal:Below w.heap.size w w0:=by rw [hw0]; exact (Y8 _ _).alloc (Y5 _) _
 have Q0:=lh (hQ.below hal);have F0:=lh (RFr.below (rb:=C.rb) hal);have G0:=lh (show Got w B w0 (.mk nb (.slice none 0 0) 0 ⟨#[]⟩ 0 []) (.mk 0 ⟨#[]⟩ 0 []) by rw [hw0,hnb]; exact Got.leaf hB (RFr.refl w C.rb));have HR:=lh hr;have HB:=lh hB;have HW0:=lh hw0;have HNB:=lh hnb;have HNBW:=lh (show nb < w0.heap.size by rw [hw0,hnb]; simp);have HD:=lh hd;have HDF:=lh hdf;have HSEE:=lh hsee;have HSN:=lh hn;have HPP:=lh hpp;have HV:=lh hV;clear hQ hr hB hd hdf hsee hn hal hw0 hnb hpp hV;unfold qd;go_enter Tryz.func13,Tryz.ntmps13
 go_wp2_with fail
 rw [← HW0.out,← HNB.out];have BA0:=lh (Y8 w0.heap.size w0);have HT:=Zk Q0.out Zi;rw [HSEE.out Zi (by first | decide | simp)] at HT;refine HT.mono ?_;rintro e wt1 ⟨rfl,hb⟩;have BA1:=zT BA0 hb;have Q1:=lh (Q0.out.below hb);clear hb HT;go_wp2_with fail
 have HT:=Z04 Q1.out Zs (HSEE.out Zs (by first | decide | simp));refine HT.mono ?_;rintro e wt2 ⟨rfl,hb⟩;have BA2:=zT BA1 hb;have Q2:=lh (Q1.out.below hb);clear hb HT;go_wp2_with fail
 have HT:=Z04 Q2.out Ze (HSEE.out Ze (by first | decide | simp));refine HT.mono ?_;rintro e wt3 ⟨rfl,hb⟩;have BA3:=zT BA2 hb;have Q3:=lh (Q2.out.below hb);clear hb HT;go_wp2_with fail
 have HT:=Z04 Q3.out s_if (HSEE.out s_if (by first | decide | simp));refine HT.mono ?_;rintro e wt4 ⟨rfl,hb⟩;have BA4:=zT BA3 hb;have Q4:=lh (Q3.out.below hb);clear hb HT;go_wp2_with fail
 have HT:=Zk Q4.out Zz;rw [HSEE.out Zz (by first | decide | simp)] at HT;refine HT.mono ?_;rintro e wt5 ⟨rfl,hb⟩;have BA5:=zT BA4 hb;have Q5:=lh (Q4.out.below hb);clear hb HT;go_wp2_with fail
 have HT:=Zk Q5.out Z0d;rw [HSEE.out Z0d (by first | decide | simp)] at HT;refine HT.mono ?_;rintro e wt6 ⟨rfl,hb⟩;have BA6:=zT BA5 hb;have Q6:=lh (Q5.out.below hb);clear hb HT;go_wp2_with fail
 have HT:=Z04 Q6.out Z1j (HSEE.out Z1j (by first | decide | simp));refine HT.mono ?_;rintro e wt7 ⟨rfl,hb⟩;have BA7:=zT BA6 hb;have Q7:=lh (Q6.out.below hb);clear hb HT;go_wp2_with fail
 have HT:=Zk Q7.out Z18;rw [HSN.out] at HT;refine HT.mono ?_;rintro e w3 ⟨rfl,hb⟩;have F3:=lh ((RFr.below (rb:=C.rb) BA7.out).trans (RFr.below hb));have Q3:=lh (Q7.out.below hb);have hG3:=G0.out.rfr HR.out F3.out;have G3:=lh hG3;clear hb HT;obtain ⟨i,hi,hA⟩:=Q3.out;have hk6:(hdT (C.L.drop i)).kind≠6:=by rw [← hi]; exact Z54 (Z31 HSN.out)
 have c0:=hA.c0;have c1:=hA.c1;have t1:=hA.hd (j:=1) rfl;have htx:(hdT (C.L.drop i)).text=Z18:=by rw [← hi]; exact Zcg (Z31 HSN.out)
 obtain ⟨tx,hte⟩:=zX ((hdT (C.L.drop i)).text)
 rw [← hte] at t1 htx;have hil:=hA.lt;have hle:=hA.le;have hmo:=hA.most;have hrl:=hA.rlt;have hfew:=hA.few;have htb:C.tb < w3.heap.size:=Nat.lt_trans hA.ord hrl;have hnb3:nb < w3.heap.size:=(hG3.new nb (by simp [ATree.blocks])).2;have HA:=lh hA;have HI:=lh hi;have HTX:=lh htx;have HK6:=lh hk6;obtain ⟨n,hn⟩:=zX C.L.length
 rw [← hn] at c0 hil hle hfew;obtain ⟨tb,htbe⟩:=zX C.tb
 obtain ⟨off,hoff⟩:=zX C.off
 obtain ⟨cap,hcap⟩:=zX C.cap
 rw [← htbe,← hoff] at c0 t1;rw [← hcap] at c0 hle hmo;rw [← htbe] at htb;have HS3:=lh (show ∀ W,Below w3.heap.size w3 W→W.cell? ⟨C.rb,0,none⟩=some (.slice (some ⟨tb,off,none⟩) n cap)∧W.cell? ⟨C.rb,1,none⟩=some (.int .i64 i)∧W.cell? ⟨tb,off + i * 4 + 1,none⟩=some (.string tx) from fun W hW=>⟨(Yj (hW.block _ hrl)).trans c0,(Yj (hW.block _ hrl)).trans c1,(Yj (hW.block _ htb)).trans t1⟩);have hmm:=@run_makeMap Tryz.prog;have h0:=World.ownsMap_made (H:=Unit) w3.drew Tryz.prog 9 (plainElem Tryz.prog 3)
 have hBm:=lh (show Below w3.heap.size w3 (w3.drew.alloc (.map #[] 0)) from (Y8 _ _).drew.alloc (Y5 _) _);have SZ3:w3.drew.heap.size=w3.heap.size:=rfl;clear hG3 hA hi hk6 hte htx hn htbe hoff hcap;go_wp2_with fail
 apply Z7r (R:=fun w'=>∃ v3,Below w3.heap.size w3 v3∧w'=v3.setCell ⟨nb,0,none⟩ (.int .i64 2));case h1=>
  refine Z4w (.take 0 (.take 6 (.take 7 (.take 8 (.take 9 (.take 10 (.take 11 (.take 12 (.take 13 (.take 14 (.take 15 (.take 16 (.go 1 (.three 2 (.two 3 (.go 4 (.take 5 (.go 17 (.take 18 (.take 19 (.go 20 .nil)))))) 4 (.go 3 (.take 5 (.go 17 (.take 18 (.take 19 (.go 20 .nil))))))) 3 (.two 2 (.go 4 (.take 5 (.go 17 (.take 18 (.take 19 (.go 20 .nil)))))) 4 (.go 2 (.take 5 (.go 17 (.take 18 (.take 19 (.go 20 .nil))))))) 4 (.two 2 (.go 3 (.take 5 (.go 17 (.take 18 (.take 19 (.go 20 .nil)))))) 3 (.go 2 (.take 5 (.go 17 (.take 18 (.take 19 (.go 20 .nil))))))))))))))))))))) 20 (fun W=>W.cell? ⟨C.rb,0,none⟩=some (.slice (some ⟨tb,off,none⟩) n cap)∧W.cell? ⟨C.rb,1,none⟩=some (.int .i64 i)∧W.cell? ⟨tb,off + i * 4 + 1,none⟩=some (.string tx)) (by kernel_rfl) (by kernel_rfl) (fun _ _ d _ _ h=>by cases h.1) (HS3.out _ (Y8 _ _).drew) ?_
  iterate 4 (refine Z1v ?_ (by rfl) (by rfl) (fun w'=>?_) ?_; rotate_left; (go_simp; first | done | with_reducible rfl); simp only [Act.put,zA,zB,zC])
  (refine Z2o ?_ (by rfl) (by kernel_rfl) (by rfl) (fun w' hS'=>?_) ?_; rotate_left; (obtain ⟨s0,s1,s2⟩:=hS'; go_simp; first | done | with_reducible rfl); simp only [Act.put,zA,zB,zC])
  iterate 3 (refine Z1v ?_ (by rfl) (by rfl) (fun w'=>?_) ?_; rotate_left; (go_simp; first | done | with_reducible rfl); simp only [Act.put,zA,zB,zC])
  (refine Z2o ?_ (by rfl) (by kernel_rfl) (by rfl) (fun w' hS'=>?_) ?_; rotate_left; (obtain ⟨s0,s1,s2⟩:=hS'; go_simp; first | done | with_reducible rfl); simp only [Act.put,zA,zB,zC])
  iterate 2 (refine Z1v ?_ (by rfl) (by rfl) (fun w'=>?_) ?_; rotate_left; (go_simp; first | done | with_reducible rfl); simp only [Act.put,zA,zB,zC])
  (refine Z2o ?_ (by rfl) (by kernel_rfl) (by rfl) (fun w' hS'=>?_) ?_; rotate_left; (obtain ⟨s0,s1,s2⟩:=hS'; go_simp; first | done | with_reducible rfl); simp only [Act.put,zA,zB,zC])
  refine Z2m (by rfl) (by rfl) (by rfl) (fun K hK=>?_);go_simp
  refine hK _ _ (HS3.out _ hBm.out) ?_;clear hK K;refine Z70 ?_ ?_ ?_
  all_goals
   refine Z2m (by rfl) (by rfl) (by rfl) (fun K hK=>?_);refine Z1z _ _ _ 82 (by rfl) 9 3 Tryz.keyedS Tryz.underlying82 _ _ 0 _ (by rfl) h0 (by unfold maxLen; omega) _ _ _ (by rfl) (by rfl) (Yw Yr (by decide)) _ [] (plainElem_int Ys (by decide)) fun v1 h1 g1=>?_;have hB1:=lh (Z00 hBm.out g1 (Yt SZ3.symm) hBm.out.size);refine hK _ _ (HS3.out _ hB1.out) ?_;clear hK K g1;refine Z9h ?_ ?_
   all_goals
    refine Z2m (by rfl) (by rfl) (by rfl) (fun K hK=>?_);refine Z1z _ _ _ 82 (by rfl) 9 3 Tryz.keyedS Tryz.underlying82 _ _ 1 _ (by rfl) h1 (by unfold maxLen; omega) _ _ _ (by rfl) (by rfl) (Yw Yr (by decide)) _ [] (plainElem_int Ys (by decide)) fun v2 h2 g2=>?_;have hB2:=lh (Z00 hB1.out g2 (Yt SZ3.symm) hB1.out.size);refine hK _ _ (HS3.out _ hB2.out) ?_;clear hK K g2;refine Z2m (by rfl) (by rfl) (by rfl) (fun K hK=>?_)
    refine Z1z _ _ _ 82 (by rfl) 9 3 Tryz.keyedS Tryz.underlying82 _ _ 2 _ (by rfl) h2 (by unfold maxLen; omega) _ _ _ (by rfl) (by rfl) (Yw Yr (by decide)) _ [] (plainElem_int Ys (by decide)) fun v3 h3 g3=>?_;have hB3:=lh (Z00 hB2.out g3 (Yt SZ3.symm) hB2.out.size);refine hK _ _ (HS3.out _ hB3.out) ?_;clear hK K g3;refine Z1v ?_ (by rfl) (by rfl) (fun w'=>?_) ?_; rotate_left; (go_simp; first | done | with_reducible rfl);simp only [Act.put,zA,zB,zC];refine Z2m (by rfl) (by rfl) (by rfl) (fun K hK=>?_)
    refine Z3p _ _ 82 (by rfl) 9 3 .i64 Tryz.keyedS Tryz.underlying82 Ys (Tryz.zeroI _) _ 3 _ (by rfl) h3 (.string tx) _ (by rfl) (Yw Yr (by rw [HTX.out]; decide)) fun c hat=>?_;obtain rfl:2=c:=by
     rw [HTX.out] at hat;have e2:(DataW.lit (.int .i64 2):DataW Unit)=.lit (.int .i64 c):=by rw [← hat]; kernel_rfl
     simpa using e2
    refine hK _ _ (HS3.out _ hB3.out) ?_;clear hK K hat h3;simp only [Act.put,zA,zB,zC];iterate 2 (refine Z1v ?_ (by rfl) (by rfl) (fun w'=>?_) ?_; rotate_left; (go_simp; first | done | with_reducible rfl); simp only [Act.put,zA,zB,zC])
    have hG4:=G3.out.rfr HR.out (RFr.below (rb:=C.rb) hB3.out);obtain ⟨y0,_,_,z0,_⟩:=hG4.cells;have z0:=z0 0;refine Z86 (by rfl) (by rfl) (by rfl) (fun K hK=>?_);go_simp
    refine hK _ _ (Z96 ⟨rfl,rfl,v3,hB3.out,rfl⟩)
 rintro _ ⟨v3,hb3,rfl⟩;have hB3:=lh hb3;clear hb3 c0 c1 t1 hmm h0;have hRF:=RFr.below (rb:=C.rb) hB3.out;have hG4:=G3.out.rfr HR.out hRF;obtain ⟨y0,_,_,z0,_⟩:=hG4.cells;have z0:=z0 0;obtain ⟨f1,f2,f3⟩:=Got.kind0 (k':=2) HR.out HB.out hG4 ((F0.out.trans F3.out).trans hRF);obtain ⟨W5,hW5⟩:=zX (v3.setCell ⟨nb,0,none⟩ (.int .i64 2))
 rw [← hW5] at f1 f2 f3;have hA5:=(HA.out.below hB3.out).keep (w':=W5) fun k hk=>f3 k (by have:=HR.out; omega);have c1:=hA5.c1;have z1:=hA5.fz 1;have G5:=lh f1;have F5:=lh f2;have hadv:=QS.adv hA5 (x:=(i:Int) + 1) HK6.out rfl;have e:(⟨C.L.drop i,σ.f⟩:RS)=σ:=by rw [← HI.out]
 rw [e] at hadv;have F56:=RFr.of_set (w:=W5) (rb:=C.rb) 1 (.int .i64 ((i:Int) + 1));have Q6:=lh hadv;have G6:=lh (G5.out.rfr HR.out F56);have F6:=lh (F5.out.trans F56);have HW5:=lh hW5;rw [hW5] at c1 z1;have HIL:=lh (show (i:Int) < 4000 by omega);clear f1 f2 f3 hA5 hW5 hadv e F56 hRF hG4 hil hle hmo hrl hfew htb hnb3 SZ3;have hil:=HIL.out;go_wp2_with fail
 rw [← HW5.out];refine (Z34 Q6.out B HR.out (Ya HB.out F6.out.size)).mono ?_;rintro e w7 ⟨rfl,h7,f7⟩;have G7:=G6.out.rfr HR.out f7;have F7:=F6.out.trans f7;obtain ⟨k0,k1,k3,kz,_⟩:=G7.cells;have kz1:=kz 1;obtain ⟨f1,f2,f3⟩:=Got.text0 (t':=(Zw (advR σ)).1) HR.out HB.out G7 F7;have G8:=lh f1;have F8:=lh f2;have Q8:=lh (h7.keep fun k hk=>f3 k (by have:=HR.out; omega));have hdd:=HD.out;clear h7 f7 G7 F7 f1 f2 f3 c1 z1 y0 z0 kz hil;go_wp2_with fail
 have hpp:=HPP.out;clear HPP;by_cases he:Zl s_eq (Zw (advR σ)).2=true
 ·rw [Yb he] at hpp;obtain ⟨x, σ1, hx, hpp⟩ := Zn hpp;simp only [Option.some.injEq, Prod.mk.injEq] at hpp;obtain ⟨rfl, rfl⟩ := hpp;have HE := lh he;have HP := lh hx;clear he hx;have HT := Z1i Q8.out s_eq;rw [HE.out, Yb rfl] at HT;refine HT.mono ?_;rintro e w9 ⟨rfl, h, f'⟩;have Q9 := lh h;have G9 := lh (G8.out.rfr HR.out f');have F9 := lh (F8.out.trans f');clear h f' HT;go_wp2_with fail
  refine (HV.out w9 C B (d + 1) _ _ _ Q9.out HR.out (Ya HB.out F9.out.size) (by have:=HDF.out; omega) HP.out).mono ?_;rintro e w10 ⟨a,rfl,h4,h5,h6⟩;obtain ⟨⟨y3,z3⟩,g1,g2,g3⟩:=Got.giveKids HR.out HB.out G9.out F9.out h6 (KidsAt.one h4) (by simp) #[.pointer (some ⟨a.b,0,none⟩)] rfl 1 rfl;have G10:=lh g1;have F10:=lh g2;have Q10:=lh (h5.keep fun k hk=>g3 k (by have:=HR.out; omega));clear h4 h5 h6 g1 g2 g3;go_wp2_with fail
  refine (Z0w Q10.out Zs B HR.out (Ya HB.out F10.out.size)).mono ?_;rintro e wm ⟨rfl,hm,fm⟩;have GM:=lh (G10.out.rfr HR.out fm);have QM:=lh hm;have FM:=lh (F10.out.trans fm);clear hm fm y3 z3;go_wp2;go_ret;exact ⟨_,rfl,GM.out,QM.out,FM.out⟩
 ·rw [Y9 he] at hpp;simp only [Option.some.injEq, Prod.mk.injEq] at hpp;obtain ⟨rfl, rfl⟩ := hpp;have HE := lh (Bool.eq_false_iff.2 he);clear he;refine (Z04 Q8.out s_eq HE.out).mono ?_;rintro e w9 ⟨rfl, hb⟩;have Q9 := lh (Q8.out.below hb);have G9 := lh (G8.out.rfr HR.out (RFr.below (rb := C.rb) hb));have F9 := lh (F8.out.trans (RFr.below (rb := C.rb) hb));clear hb;go_wp2_with fail
  refine (Z0w Q9.out Zs B HR.out (Ya HB.out F9.out.size)).mono ?_;rintro e wm ⟨rfl,hm,fm⟩;have GM:=lh (G9.out.rfr HR.out fm);have QM:=lh hm;have FM:=lh (F9.out.trans fm);clear hm fm;go_wp2;go_ret;exact ⟨_,rfl,GM.out,QM.out,FM.out⟩
theorem Zji (f:Nat) (hV:Z1s 41 qd .value f) (w:World) (C:QC) (B d:Nat) (σ:RS) (t:Tree) (σ':RS) (hQ:QS w C σ) (hr:C.rb < B) (hB:B≤w.heap.size) (hd:d≤30) (hdf:d + (f + 1)≤1000000000000) (hsee:∀ s:ByteArray,s≠Z1c→Zl s σ=false) (hn:Zl Z1c σ=true) (hpp:(if Zl s_eq (Zw (advR σ)).2=true then Z0n (refF f .value (d + 1) (advR (Zw (advR σ)).2)) fun x σ'=>some (.mk 3 (Zw (advR σ)).1 0 [x],Z0y Zs σ') else some (.mk 3 (Zw (advR σ)).1 0 [],Z0y Zs (Zw (advR σ)).2))=some (t,σ')) :
 Calls Tryz.prog 13 (qd C.rb d) w (Z27 w C B t σ'):=by
 have n30:¬ (d:Int) > 30:=by omega
 obtain ⟨nb,hnb⟩:=zX w.heap.size
 obtain ⟨w0,hw0⟩:=zX (w.alloc (.cells #[.int .i64 0,.string ⟨#[]⟩,.int .i64 0,.slice none 0 0] 38))
 have hal:Below w.heap.size w w0:=by rw [hw0]; exact (Y8 _ _).alloc (Y5 _) _
 have Q0:=lh (hQ.below hal);have F0:=lh (RFr.below (rb:=C.rb) hal);have G0:=lh (show Got w B w0 (.mk nb (.slice none 0 0) 0 ⟨#[]⟩ 0 []) (.mk 0 ⟨#[]⟩ 0 []) by rw [hw0,hnb]; exact Got.leaf hB (RFr.refl w C.rb));have HR:=lh hr;have HB:=lh hB;have HW0:=lh hw0;have HNB:=lh hnb;have HNBW:=lh (show nb < w0.heap.size by rw [hw0,hnb]; simp);have HD:=lh hd;have HDF:=lh hdf;have HSEE:=lh hsee;have HSN:=lh hn;have HPP:=lh hpp;have HV:=lh hV;clear hQ hr hB hd hdf hsee hn hal hw0 hnb hpp hV;unfold qd;go_enter Tryz.func13,Tryz.ntmps13
 go_wp2_with fail
 rw [← HW0.out,← HNB.out];have BA0:=lh (Y8 w0.heap.size w0);have HT:=Zk Q0.out Zi;rw [HSEE.out Zi (by first | decide | simp)] at HT;refine HT.mono ?_;rintro e wt1 ⟨rfl,hb⟩;have BA1:=zT BA0 hb;have Q1:=lh (Q0.out.below hb);clear hb HT;go_wp2_with fail
 have HT:=Z04 Q1.out Zs (HSEE.out Zs (by first | decide | simp));refine HT.mono ?_;rintro e wt2 ⟨rfl,hb⟩;have BA2:=zT BA1 hb;have Q2:=lh (Q1.out.below hb);clear hb HT;go_wp2_with fail
 have HT:=Z04 Q2.out Ze (HSEE.out Ze (by first | decide | simp));refine HT.mono ?_;rintro e wt3 ⟨rfl,hb⟩;have BA3:=zT BA2 hb;have Q3:=lh (Q2.out.below hb);clear hb HT;go_wp2_with fail
 have HT:=Z04 Q3.out s_if (HSEE.out s_if (by first | decide | simp));refine HT.mono ?_;rintro e wt4 ⟨rfl,hb⟩;have BA4:=zT BA3 hb;have Q4:=lh (Q3.out.below hb);clear hb HT;go_wp2_with fail
 have HT:=Zk Q4.out Zz;rw [HSEE.out Zz (by first | decide | simp)] at HT;refine HT.mono ?_;rintro e wt5 ⟨rfl,hb⟩;have BA5:=zT BA4 hb;have Q5:=lh (Q4.out.below hb);clear hb HT;go_wp2_with fail
 have HT:=Zk Q5.out Z0d;rw [HSEE.out Z0d (by first | decide | simp)] at HT;refine HT.mono ?_;rintro e wt6 ⟨rfl,hb⟩;have BA6:=zT BA5 hb;have Q6:=lh (Q5.out.below hb);clear hb HT;go_wp2_with fail
 have HT:=Z04 Q6.out Z1j (HSEE.out Z1j (by first | decide | simp));refine HT.mono ?_;rintro e wt7 ⟨rfl,hb⟩;have BA7:=zT BA6 hb;have Q7:=lh (Q6.out.below hb);clear hb HT;go_wp2_with fail
 have HT:=Zk Q7.out Z18;rw [HSEE.out Z18 (by first | decide | simp)] at HT;refine HT.mono ?_;rintro e wt8 ⟨rfl,hb⟩;have BA8:=zT BA7 hb;have Q8:=lh (Q7.out.below hb);clear hb HT;go_wp2_with fail
 have HT:=Zk Q8.out Z1c;rw [HSN.out] at HT;refine HT.mono ?_;rintro e w3 ⟨rfl,hb⟩;have F3:=lh ((RFr.below (rb:=C.rb) BA8.out).trans (RFr.below hb));have Q3:=lh (Q8.out.below hb);have hG3:=G0.out.rfr HR.out F3.out;have G3:=lh hG3;clear hb HT;obtain ⟨i,hi,hA⟩:=Q3.out;have hk6:(hdT (C.L.drop i)).kind≠6:=by rw [← hi]; exact Z54 (Z31 HSN.out)
 have c0:=hA.c0;have c1:=hA.c1;have t1:=hA.hd (j:=1) rfl;have htx:(hdT (C.L.drop i)).text=Z1c:=by rw [← hi]; exact Zcg (Z31 HSN.out)
 obtain ⟨tx,hte⟩:=zX ((hdT (C.L.drop i)).text)
 rw [← hte] at t1 htx;have hil:=hA.lt;have hle:=hA.le;have hmo:=hA.most;have hrl:=hA.rlt;have hfew:=hA.few;have htb:C.tb < w3.heap.size:=Nat.lt_trans hA.ord hrl;have hnb3:nb < w3.heap.size:=(hG3.new nb (by simp [ATree.blocks])).2;have HA:=lh hA;have HI:=lh hi;have HTX:=lh htx;have HK6:=lh hk6;obtain ⟨n,hn⟩:=zX C.L.length
 rw [← hn] at c0 hil hle hfew;obtain ⟨tb,htbe⟩:=zX C.tb
 obtain ⟨off,hoff⟩:=zX C.off
 obtain ⟨cap,hcap⟩:=zX C.cap
 rw [← htbe,← hoff] at c0 t1;rw [← hcap] at c0 hle hmo;rw [← htbe] at htb;have HS3:=lh (show ∀ W,Below w3.heap.size w3 W→W.cell? ⟨C.rb,0,none⟩=some (.slice (some ⟨tb,off,none⟩) n cap)∧W.cell? ⟨C.rb,1,none⟩=some (.int .i64 i)∧W.cell? ⟨tb,off + i * 4 + 1,none⟩=some (.string tx) from fun W hW=>⟨(Yj (hW.block _ hrl)).trans c0,(Yj (hW.block _ hrl)).trans c1,(Yj (hW.block _ htb)).trans t1⟩);have hmm:=@run_makeMap Tryz.prog;have h0:=World.ownsMap_made (H:=Unit) w3.drew Tryz.prog 9 (plainElem Tryz.prog 3)
 have hBm:=lh (show Below w3.heap.size w3 (w3.drew.alloc (.map #[] 0)) from (Y8 _ _).drew.alloc (Y5 _) _);have SZ3:w3.drew.heap.size=w3.heap.size:=rfl;clear hG3 hA hi hk6 hte htx hn htbe hoff hcap;go_wp2_with fail
 apply Z7r (R:=fun w'=>∃ v3,Below w3.heap.size w3 v3∧w'=v3.setCell ⟨nb,0,none⟩ (.int .i64 3));case h1=>
  refine Z4w (.take 0 (.take 6 (.take 7 (.take 8 (.take 9 (.take 10 (.take 11 (.take 12 (.take 13 (.take 14 (.take 15 (.take 16 (.go 1 (.three 2 (.two 3 (.go 4 (.take 5 (.go 17 (.take 18 (.take 19 (.go 20 .nil)))))) 4 (.go 3 (.take 5 (.go 17 (.take 18 (.take 19 (.go 20 .nil))))))) 3 (.two 2 (.go 4 (.take 5 (.go 17 (.take 18 (.take 19 (.go 20 .nil)))))) 4 (.go 2 (.take 5 (.go 17 (.take 18 (.take 19 (.go 20 .nil))))))) 4 (.two 2 (.go 3 (.take 5 (.go 17 (.take 18 (.take 19 (.go 20 .nil)))))) 3 (.go 2 (.take 5 (.go 17 (.take 18 (.take 19 (.go 20 .nil))))))))))))))))))))) 20 (fun W=>W.cell? ⟨C.rb,0,none⟩=some (.slice (some ⟨tb,off,none⟩) n cap)∧W.cell? ⟨C.rb,1,none⟩=some (.int .i64 i)∧W.cell? ⟨tb,off + i * 4 + 1,none⟩=some (.string tx)) (by kernel_rfl) (by kernel_rfl) (fun _ _ d _ _ h=>by cases h.1) (HS3.out _ (Y8 _ _).drew) ?_
  iterate 4 (refine Z1v ?_ (by rfl) (by rfl) (fun w'=>?_) ?_; rotate_left; (go_simp; first | done | with_reducible rfl); simp only [Act.put,zA,zB,zC])
  (refine Z2o ?_ (by rfl) (by kernel_rfl) (by rfl) (fun w' hS'=>?_) ?_; rotate_left; (obtain ⟨s0,s1,s2⟩:=hS'; go_simp; first | done | with_reducible rfl); simp only [Act.put,zA,zB,zC])
  iterate 3 (refine Z1v ?_ (by rfl) (by rfl) (fun w'=>?_) ?_; rotate_left; (go_simp; first | done | with_reducible rfl); simp only [Act.put,zA,zB,zC])
  (refine Z2o ?_ (by rfl) (by kernel_rfl) (by rfl) (fun w' hS'=>?_) ?_; rotate_left; (obtain ⟨s0,s1,s2⟩:=hS'; go_simp; first | done | with_reducible rfl); simp only [Act.put,zA,zB,zC])
  iterate 2 (refine Z1v ?_ (by rfl) (by rfl) (fun w'=>?_) ?_; rotate_left; (go_simp; first | done | with_reducible rfl); simp only [Act.put,zA,zB,zC])
  (refine Z2o ?_ (by rfl) (by kernel_rfl) (by rfl) (fun w' hS'=>?_) ?_; rotate_left; (obtain ⟨s0,s1,s2⟩:=hS'; go_simp; first | done | with_reducible rfl); simp only [Act.put,zA,zB,zC])
  refine Z2m (by rfl) (by rfl) (by rfl) (fun K hK=>?_);go_simp
  refine hK _ _ (HS3.out _ hBm.out) ?_;clear hK K;refine Z70 ?_ ?_ ?_
  all_goals
   refine Z2m (by rfl) (by rfl) (by rfl) (fun K hK=>?_);refine Z1z _ _ _ 82 (by rfl) 9 3 Tryz.keyedS Tryz.underlying82 _ _ 0 _ (by rfl) h0 (by unfold maxLen; omega) _ _ _ (by rfl) (by rfl) (Yw Yr (by decide)) _ [] (plainElem_int Ys (by decide)) fun v1 h1 g1=>?_;have hB1:=lh (Z00 hBm.out g1 (Yt SZ3.symm) hBm.out.size);refine hK _ _ (HS3.out _ hB1.out) ?_;clear hK K g1;refine Z9h ?_ ?_
   all_goals
    refine Z2m (by rfl) (by rfl) (by rfl) (fun K hK=>?_);refine Z1z _ _ _ 82 (by rfl) 9 3 Tryz.keyedS Tryz.underlying82 _ _ 1 _ (by rfl) h1 (by unfold maxLen; omega) _ _ _ (by rfl) (by rfl) (Yw Yr (by decide)) _ [] (plainElem_int Ys (by decide)) fun v2 h2 g2=>?_;have hB2:=lh (Z00 hB1.out g2 (Yt SZ3.symm) hB1.out.size);refine hK _ _ (HS3.out _ hB2.out) ?_;clear hK K g2;refine Z2m (by rfl) (by rfl) (by rfl) (fun K hK=>?_)
    refine Z1z _ _ _ 82 (by rfl) 9 3 Tryz.keyedS Tryz.underlying82 _ _ 2 _ (by rfl) h2 (by unfold maxLen; omega) _ _ _ (by rfl) (by rfl) (Yw Yr (by decide)) _ [] (plainElem_int Ys (by decide)) fun v3 h3 g3=>?_;have hB3:=lh (Z00 hB2.out g3 (Yt SZ3.symm) hB2.out.size);refine hK _ _ (HS3.out _ hB3.out) ?_;clear hK K g3;refine Z1v ?_ (by rfl) (by rfl) (fun w'=>?_) ?_; rotate_left; (go_simp; first | done | with_reducible rfl);simp only [Act.put,zA,zB,zC];refine Z2m (by rfl) (by rfl) (by rfl) (fun K hK=>?_)
    refine Z3p _ _ 82 (by rfl) 9 3 .i64 Tryz.keyedS Tryz.underlying82 Ys (Tryz.zeroI _) _ 3 _ (by rfl) h3 (.string tx) _ (by rfl) (Yw Yr (by rw [HTX.out]; decide)) fun c hat=>?_;obtain rfl:3=c:=by
     rw [HTX.out] at hat;have e2:(DataW.lit (.int .i64 3):DataW Unit)=.lit (.int .i64 c):=by rw [← hat]; kernel_rfl
     simpa using e2
    refine hK _ _ (HS3.out _ hB3.out) ?_;clear hK K hat h3;simp only [Act.put,zA,zB,zC];iterate 2 (refine Z1v ?_ (by rfl) (by rfl) (fun w'=>?_) ?_; rotate_left; (go_simp; first | done | with_reducible rfl); simp only [Act.put,zA,zB,zC])
    have hG4:=G3.out.rfr HR.out (RFr.below (rb:=C.rb) hB3.out);obtain ⟨y0,_,_,z0,_⟩:=hG4.cells;have z0:=z0 0;refine Z86 (by rfl) (by rfl) (by rfl) (fun K hK=>?_);go_simp
    refine hK _ _ (Z96 ⟨rfl,rfl,v3,hB3.out,rfl⟩)
 rintro _ ⟨v3,hb3,rfl⟩;have hB3:=lh hb3;clear hb3 c0 c1 t1 hmm h0;have hRF:=RFr.below (rb:=C.rb) hB3.out;have hG4:=G3.out.rfr HR.out hRF;obtain ⟨y0,_,_,z0,_⟩:=hG4.cells;have z0:=z0 0;obtain ⟨f1,f2,f3⟩:=Got.kind0 (k':=3) HR.out HB.out hG4 ((F0.out.trans F3.out).trans hRF);obtain ⟨W5,hW5⟩:=zX (v3.setCell ⟨nb,0,none⟩ (.int .i64 3))
 rw [← hW5] at f1 f2 f3;have hA5:=(HA.out.below hB3.out).keep (w':=W5) fun k hk=>f3 k (by have:=HR.out; omega);have c1:=hA5.c1;have z1:=hA5.fz 1;have G5:=lh f1;have F5:=lh f2;have hadv:=QS.adv hA5 (x:=(i:Int) + 1) HK6.out rfl;have e:(⟨C.L.drop i,σ.f⟩:RS)=σ:=by rw [← HI.out]
 rw [e] at hadv;have F56:=RFr.of_set (w:=W5) (rb:=C.rb) 1 (.int .i64 ((i:Int) + 1));have Q6:=lh hadv;have G6:=lh (G5.out.rfr HR.out F56);have F6:=lh (F5.out.trans F56);have HW5:=lh hW5;rw [hW5] at c1 z1;have HIL:=lh (show (i:Int) < 4000 by omega);clear f1 f2 f3 hA5 hW5 hadv e F56 hRF hG4 hil hle hmo hrl hfew htb hnb3 SZ3;have hil:=HIL.out;go_wp2_with fail
 rw [← HW5.out];refine (Z34 Q6.out B HR.out (Ya HB.out F6.out.size)).mono ?_;rintro e w7 ⟨rfl,h7,f7⟩;have G7:=G6.out.rfr HR.out f7;have F7:=F6.out.trans f7;obtain ⟨k0,k1,k3,kz,_⟩:=G7.cells;have kz1:=kz 1;obtain ⟨f1,f2,f3⟩:=Got.text0 (t':=(Zw (advR σ)).1) HR.out HB.out G7 F7;have G8:=lh f1;have F8:=lh f2;have Q8:=lh (h7.keep fun k hk=>f3 k (by have:=HR.out; omega));have hdd:=HD.out;clear h7 f7 G7 F7 f1 f2 f3 c1 z1 y0 z0 kz hil;go_wp2_with fail
 have hpp:=HPP.out;clear HPP;by_cases he:Zl s_eq (Zw (advR σ)).2=true
 ·rw [Yb he] at hpp;obtain ⟨x, σ1, hx, hpp⟩ := Zn hpp;simp only [Option.some.injEq, Prod.mk.injEq] at hpp;obtain ⟨rfl, rfl⟩ := hpp;have HE := lh he;have HP := lh hx;clear he hx;have HT := Z1i Q8.out s_eq;rw [HE.out, Yb rfl] at HT;refine HT.mono ?_;rintro e w9 ⟨rfl, h, f'⟩;have Q9 := lh h;have G9 := lh (G8.out.rfr HR.out f');have F9 := lh (F8.out.trans f');clear h f' HT;go_wp2_with fail
  refine (HV.out w9 C B (d + 1) _ _ _ Q9.out HR.out (Ya HB.out F9.out.size) (by have:=HDF.out; omega) HP.out).mono ?_;rintro e w10 ⟨a,rfl,h4,h5,h6⟩;obtain ⟨⟨y3,z3⟩,g1,g2,g3⟩:=Got.giveKids HR.out HB.out G9.out F9.out h6 (KidsAt.one h4) (by simp) #[.pointer (some ⟨a.b,0,none⟩)] rfl 1 rfl;have G10:=lh g1;have F10:=lh g2;have Q10:=lh (h5.keep fun k hk=>g3 k (by have:=HR.out; omega));clear h4 h5 h6 g1 g2 g3;go_wp2_with fail
  refine (Z0w Q10.out Zs B HR.out (Ya HB.out F10.out.size)).mono ?_;rintro e wm ⟨rfl,hm,fm⟩;have GM:=lh (G10.out.rfr HR.out fm);have QM:=lh hm;have FM:=lh (F10.out.trans fm);clear hm fm y3 z3;go_wp2;go_ret;exact ⟨_,rfl,GM.out,QM.out,FM.out⟩
 ·rw [Y9 he] at hpp;simp only [Option.some.injEq, Prod.mk.injEq] at hpp;obtain ⟨rfl, rfl⟩ := hpp;have HE := lh (Bool.eq_false_iff.2 he);clear he;refine (Z04 Q8.out s_eq HE.out).mono ?_;rintro e w9 ⟨rfl, hb⟩;have Q9 := lh (Q8.out.below hb);have G9 := lh (G8.out.rfr HR.out (RFr.below (rb := C.rb) hb));have F9 := lh (F8.out.trans (RFr.below (rb := C.rb) hb));clear hb;go_wp2_with fail
  refine (Z0w Q9.out Zs B HR.out (Ya HB.out F9.out.size)).mono ?_;rintro e wm ⟨rfl,hm,fm⟩;have GM:=lh (G9.out.rfr HR.out fm);have QM:=lh hm;have FM:=lh (F9.out.trans fm);clear hm fm;go_wp2;go_ret;exact ⟨_,rfl,GM.out,QM.out,FM.out⟩
theorem Zex (f:Nat) (hV:Z1s 41 qd .value f) (w:World) (C:QC) (B d:Nat) (σ:RS) (t:Tree) (σ':RS) (hQ:QS w C σ) (hr:C.rb < B) (hB:B≤w.heap.size) (hd:d≤30) (hdf:d + (f + 1)≤1000000000000) (hsee:∀ s:ByteArray,s≠Z06→Zl s σ=false) (hn:Zl Z06 σ=true) (hpp:(if Zl s_eq (Z28 4 (Zw (advR σ)).2)=true then Z0n (refF f .value (d + 1) (advR (Z28 4 (Zw (advR σ)).2))) fun x σ'=>some (.mk 4 (Zw (advR σ)).1 0 [x],Z0y Zs σ') else some (.mk 4 (Zw (advR σ)).1 0 [],Z0y Zs (Z28 4 (Zw (advR σ)).2)))=some (t,σ')) :
 Calls Tryz.prog 13 (qd C.rb d) w (Z27 w C B t σ'):=by
 have n30:¬ (d:Int) > 30:=by omega
 obtain ⟨nb,hnb⟩:=zX w.heap.size
 obtain ⟨w0,hw0⟩:=zX (w.alloc (.cells #[.int .i64 0,.string ⟨#[]⟩,.int .i64 0,.slice none 0 0] 38))
 have hal:Below w.heap.size w w0:=by rw [hw0]; exact (Y8 _ _).alloc (Y5 _) _
 have Q0:=lh (hQ.below hal);have F0:=lh (RFr.below (rb:=C.rb) hal);have G0:=lh (show Got w B w0 (.mk nb (.slice none 0 0) 0 ⟨#[]⟩ 0 []) (.mk 0 ⟨#[]⟩ 0 []) by rw [hw0,hnb]; exact Got.leaf hB (RFr.refl w C.rb));have HR:=lh hr;have HB:=lh hB;have HW0:=lh hw0;have HNB:=lh hnb;have HNBW:=lh (show nb < w0.heap.size by rw [hw0,hnb]; simp);have HD:=lh hd;have HDF:=lh hdf;have HSEE:=lh hsee;have HSN:=lh hn;have HPP:=lh hpp;have HV:=lh hV;clear hQ hr hB hd hdf hsee hn hal hw0 hnb hpp hV;unfold qd;go_enter Tryz.func13,Tryz.ntmps13
 go_wp2_with fail
 rw [← HW0.out,← HNB.out];have BA0:=lh (Y8 w0.heap.size w0);have HT:=Zk Q0.out Zi;rw [HSEE.out Zi (by first | decide | simp)] at HT;refine HT.mono ?_;rintro e wt1 ⟨rfl,hb⟩;have BA1:=zT BA0 hb;have Q1:=lh (Q0.out.below hb);clear hb HT;go_wp2_with fail
 have HT:=Z04 Q1.out Zs (HSEE.out Zs (by first | decide | simp));refine HT.mono ?_;rintro e wt2 ⟨rfl,hb⟩;have BA2:=zT BA1 hb;have Q2:=lh (Q1.out.below hb);clear hb HT;go_wp2_with fail
 have HT:=Z04 Q2.out Ze (HSEE.out Ze (by first | decide | simp));refine HT.mono ?_;rintro e wt3 ⟨rfl,hb⟩;have BA3:=zT BA2 hb;have Q3:=lh (Q2.out.below hb);clear hb HT;go_wp2_with fail
 have HT:=Z04 Q3.out s_if (HSEE.out s_if (by first | decide | simp));refine HT.mono ?_;rintro e wt4 ⟨rfl,hb⟩;have BA4:=zT BA3 hb;have Q4:=lh (Q3.out.below hb);clear hb HT;go_wp2_with fail
 have HT:=Zk Q4.out Zz;rw [HSEE.out Zz (by first | decide | simp)] at HT;refine HT.mono ?_;rintro e wt5 ⟨rfl,hb⟩;have BA5:=zT BA4 hb;have Q5:=lh (Q4.out.below hb);clear hb HT;go_wp2_with fail
 have HT:=Zk Q5.out Z0d;rw [HSEE.out Z0d (by first | decide | simp)] at HT;refine HT.mono ?_;rintro e wt6 ⟨rfl,hb⟩;have BA6:=zT BA5 hb;have Q6:=lh (Q5.out.below hb);clear hb HT;go_wp2_with fail
 have HT:=Z04 Q6.out Z1j (HSEE.out Z1j (by first | decide | simp));refine HT.mono ?_;rintro e wt7 ⟨rfl,hb⟩;have BA7:=zT BA6 hb;have Q7:=lh (Q6.out.below hb);clear hb HT;go_wp2_with fail
 have HT:=Zk Q7.out Z18;rw [HSEE.out Z18 (by first | decide | simp)] at HT;refine HT.mono ?_;rintro e wt8 ⟨rfl,hb⟩;have BA8:=zT BA7 hb;have Q8:=lh (Q7.out.below hb);clear hb HT;go_wp2_with fail
 have HT:=Zk Q8.out Z1c;rw [HSEE.out Z1c (by first | decide | simp)] at HT;refine HT.mono ?_;rintro e wt9 ⟨rfl,hb⟩;have BA9:=zT BA8 hb;have Q9:=lh (Q8.out.below hb);clear hb HT;go_wp2_with fail
 have HT:=Zk Q9.out Z06;rw [HSN.out] at HT;refine HT.mono ?_;rintro e w3 ⟨rfl,hb⟩;have F3:=lh ((RFr.below (rb:=C.rb) BA9.out).trans (RFr.below hb));have Q3:=lh (Q9.out.below hb);have hG3:=G0.out.rfr HR.out F3.out;have G3:=lh hG3;clear hb HT;obtain ⟨i,hi,hA⟩:=Q3.out;have hk6:(hdT (C.L.drop i)).kind≠6:=by rw [← hi]; exact Z54 (Z31 HSN.out)
 have c0:=hA.c0;have c1:=hA.c1;have t1:=hA.hd (j:=1) rfl;have htx:(hdT (C.L.drop i)).text=Z06:=by rw [← hi]; exact Zcg (Z31 HSN.out)
 obtain ⟨tx,hte⟩:=zX ((hdT (C.L.drop i)).text)
 rw [← hte] at t1 htx;have hil:=hA.lt;have hle:=hA.le;have hmo:=hA.most;have hrl:=hA.rlt;have hfew:=hA.few;have htb:C.tb < w3.heap.size:=Nat.lt_trans hA.ord hrl;have hnb3:nb < w3.heap.size:=(hG3.new nb (by simp [ATree.blocks])).2;have HA:=lh hA;have HI:=lh hi;have HTX:=lh htx;have HK6:=lh hk6;obtain ⟨n,hn⟩:=zX C.L.length
 rw [← hn] at c0 hil hle hfew;obtain ⟨tb,htbe⟩:=zX C.tb
 obtain ⟨off,hoff⟩:=zX C.off
 obtain ⟨cap,hcap⟩:=zX C.cap
 rw [← htbe,← hoff] at c0 t1;rw [← hcap] at c0 hle hmo;rw [← htbe] at htb;have HS3:=lh (show ∀ W,Below w3.heap.size w3 W→W.cell? ⟨C.rb,0,none⟩=some (.slice (some ⟨tb,off,none⟩) n cap)∧W.cell? ⟨C.rb,1,none⟩=some (.int .i64 i)∧W.cell? ⟨tb,off + i * 4 + 1,none⟩=some (.string tx) from fun W hW=>⟨(Yj (hW.block _ hrl)).trans c0,(Yj (hW.block _ hrl)).trans c1,(Yj (hW.block _ htb)).trans t1⟩);have hmm:=@run_makeMap Tryz.prog;have h0:=World.ownsMap_made (H:=Unit) w3.drew Tryz.prog 9 (plainElem Tryz.prog 3)
 have hBm:=lh (show Below w3.heap.size w3 (w3.drew.alloc (.map #[] 0)) from (Y8 _ _).drew.alloc (Y5 _) _);have SZ3:w3.drew.heap.size=w3.heap.size:=rfl;clear hG3 hA hi hk6 hte htx hn htbe hoff hcap;go_wp2_with fail
 apply Z7r (R:=fun w'=>∃ v3,Below w3.heap.size w3 v3∧w'=v3.setCell ⟨nb,0,none⟩ (.int .i64 4));case h1=>
  refine Z4w (.take 0 (.take 6 (.take 7 (.take 8 (.take 9 (.take 10 (.take 11 (.take 12 (.take 13 (.take 14 (.take 15 (.take 16 (.go 1 (.three 2 (.two 3 (.go 4 (.take 5 (.go 17 (.take 18 (.take 19 (.go 20 .nil)))))) 4 (.go 3 (.take 5 (.go 17 (.take 18 (.take 19 (.go 20 .nil))))))) 3 (.two 2 (.go 4 (.take 5 (.go 17 (.take 18 (.take 19 (.go 20 .nil)))))) 4 (.go 2 (.take 5 (.go 17 (.take 18 (.take 19 (.go 20 .nil))))))) 4 (.two 2 (.go 3 (.take 5 (.go 17 (.take 18 (.take 19 (.go 20 .nil)))))) 3 (.go 2 (.take 5 (.go 17 (.take 18 (.take 19 (.go 20 .nil))))))))))))))))))))) 20 (fun W=>W.cell? ⟨C.rb,0,none⟩=some (.slice (some ⟨tb,off,none⟩) n cap)∧W.cell? ⟨C.rb,1,none⟩=some (.int .i64 i)∧W.cell? ⟨tb,off + i * 4 + 1,none⟩=some (.string tx)) (by kernel_rfl) (by kernel_rfl) (fun _ _ d _ _ h=>by cases h.1) (HS3.out _ (Y8 _ _).drew) ?_
  iterate 4 (refine Z1v ?_ (by rfl) (by rfl) (fun w'=>?_) ?_; rotate_left; (go_simp; first | done | with_reducible rfl); simp only [Act.put,zA,zB,zC])
  (refine Z2o ?_ (by rfl) (by kernel_rfl) (by rfl) (fun w' hS'=>?_) ?_; rotate_left; (obtain ⟨s0,s1,s2⟩:=hS'; go_simp; first | done | with_reducible rfl); simp only [Act.put,zA,zB,zC])
  iterate 3 (refine Z1v ?_ (by rfl) (by rfl) (fun w'=>?_) ?_; rotate_left; (go_simp; first | done | with_reducible rfl); simp only [Act.put,zA,zB,zC])
  (refine Z2o ?_ (by rfl) (by kernel_rfl) (by rfl) (fun w' hS'=>?_) ?_; rotate_left; (obtain ⟨s0,s1,s2⟩:=hS'; go_simp; first | done | with_reducible rfl); simp only [Act.put,zA,zB,zC])
  iterate 2 (refine Z1v ?_ (by rfl) (by rfl) (fun w'=>?_) ?_; rotate_left; (go_simp; first | done | with_reducible rfl); simp only [Act.put,zA,zB,zC])
  (refine Z2o ?_ (by rfl) (by kernel_rfl) (by rfl) (fun w' hS'=>?_) ?_; rotate_left; (obtain ⟨s0,s1,s2⟩:=hS'; go_simp; first | done | with_reducible rfl); simp only [Act.put,zA,zB,zC])
  refine Z2m (by rfl) (by rfl) (by rfl) (fun K hK=>?_);go_simp
  refine hK _ _ (HS3.out _ hBm.out) ?_;clear hK K;refine Z70 ?_ ?_ ?_
  all_goals
   refine Z2m (by rfl) (by rfl) (by rfl) (fun K hK=>?_);refine Z1z _ _ _ 82 (by rfl) 9 3 Tryz.keyedS Tryz.underlying82 _ _ 0 _ (by rfl) h0 (by unfold maxLen; omega) _ _ _ (by rfl) (by rfl) (Yw Yr (by decide)) _ [] (plainElem_int Ys (by decide)) fun v1 h1 g1=>?_;have hB1:=lh (Z00 hBm.out g1 (Yt SZ3.symm) hBm.out.size);refine hK _ _ (HS3.out _ hB1.out) ?_;clear hK K g1;refine Z9h ?_ ?_
   all_goals
    refine Z2m (by rfl) (by rfl) (by rfl) (fun K hK=>?_);refine Z1z _ _ _ 82 (by rfl) 9 3 Tryz.keyedS Tryz.underlying82 _ _ 1 _ (by rfl) h1 (by unfold maxLen; omega) _ _ _ (by rfl) (by rfl) (Yw Yr (by decide)) _ [] (plainElem_int Ys (by decide)) fun v2 h2 g2=>?_;have hB2:=lh (Z00 hB1.out g2 (Yt SZ3.symm) hB1.out.size);refine hK _ _ (HS3.out _ hB2.out) ?_;clear hK K g2;refine Z2m (by rfl) (by rfl) (by rfl) (fun K hK=>?_)
    refine Z1z _ _ _ 82 (by rfl) 9 3 Tryz.keyedS Tryz.underlying82 _ _ 2 _ (by rfl) h2 (by unfold maxLen; omega) _ _ _ (by rfl) (by rfl) (Yw Yr (by decide)) _ [] (plainElem_int Ys (by decide)) fun v3 h3 g3=>?_;have hB3:=lh (Z00 hB2.out g3 (Yt SZ3.symm) hB2.out.size);refine hK _ _ (HS3.out _ hB3.out) ?_;clear hK K g3;refine Z1v ?_ (by rfl) (by rfl) (fun w'=>?_) ?_; rotate_left; (go_simp; first | done | with_reducible rfl);simp only [Act.put,zA,zB,zC];refine Z2m (by rfl) (by rfl) (by rfl) (fun K hK=>?_)
    refine Z3p _ _ 82 (by rfl) 9 3 .i64 Tryz.keyedS Tryz.underlying82 Ys (Tryz.zeroI _) _ 3 _ (by rfl) h3 (.string tx) _ (by rfl) (Yw Yr (by rw [HTX.out]; decide)) fun c hat=>?_;obtain rfl:4=c:=by
     rw [HTX.out] at hat;have e2:(DataW.lit (.int .i64 4):DataW Unit)=.lit (.int .i64 c):=by rw [← hat]; kernel_rfl
     simpa using e2
    refine hK _ _ (HS3.out _ hB3.out) ?_;clear hK K hat h3;simp only [Act.put,zA,zB,zC];iterate 2 (refine Z1v ?_ (by rfl) (by rfl) (fun w'=>?_) ?_; rotate_left; (go_simp; first | done | with_reducible rfl); simp only [Act.put,zA,zB,zC])
    have hG4:=G3.out.rfr HR.out (RFr.below (rb:=C.rb) hB3.out);obtain ⟨y0,_,_,z0,_⟩:=hG4.cells;have z0:=z0 0;refine Z86 (by rfl) (by rfl) (by rfl) (fun K hK=>?_);go_simp
    refine hK _ _ (Z96 ⟨rfl,rfl,v3,hB3.out,rfl⟩)
 rintro _ ⟨v3,hb3,rfl⟩;have hB3:=lh hb3;clear hb3 c0 c1 t1 hmm h0;have hRF:=RFr.below (rb:=C.rb) hB3.out;have hG4:=G3.out.rfr HR.out hRF;obtain ⟨y0,_,_,z0,_⟩:=hG4.cells;have z0:=z0 0;obtain ⟨f1,f2,f3⟩:=Got.kind0 (k':=4) HR.out HB.out hG4 ((F0.out.trans F3.out).trans hRF);obtain ⟨W5,hW5⟩:=zX (v3.setCell ⟨nb,0,none⟩ (.int .i64 4))
 rw [← hW5] at f1 f2 f3;have hA5:=(HA.out.below hB3.out).keep (w':=W5) fun k hk=>f3 k (by have:=HR.out; omega);have c1:=hA5.c1;have z1:=hA5.fz 1;have G5:=lh f1;have F5:=lh f2;have hadv:=QS.adv hA5 (x:=(i:Int) + 1) HK6.out rfl;have e:(⟨C.L.drop i,σ.f⟩:RS)=σ:=by rw [← HI.out]
 rw [e] at hadv;have F56:=RFr.of_set (w:=W5) (rb:=C.rb) 1 (.int .i64 ((i:Int) + 1));have Q6:=lh hadv;have G6:=lh (G5.out.rfr HR.out F56);have F6:=lh (F5.out.trans F56);have HW5:=lh hW5;rw [hW5] at c1 z1;have HIL:=lh (show (i:Int) < 4000 by omega);clear f1 f2 f3 hA5 hW5 hadv e F56 hRF hG4 hil hle hmo hrl hfew htb hnb3 SZ3;have hil:=HIL.out;go_wp2_with fail
 rw [← HW5.out];refine (Z34 Q6.out B HR.out (Ya HB.out F6.out.size)).mono ?_;rintro e w7 ⟨rfl,h7,f7⟩;have G7:=G6.out.rfr HR.out f7;have F7:=F6.out.trans f7;obtain ⟨k0,k1,k3,kz,_⟩:=G7.cells;have kz1:=kz 1;obtain ⟨f1,f2,f3⟩:=Got.text0 (t':=(Zw (advR σ)).1) HR.out HB.out G7 F7;have G8:=lh f1;have F8:=lh f2;have Q8:=lh (h7.keep fun k hk=>f3 k (by have:=HR.out; omega));have hdd:=HD.out;clear h7 f7 G7 F7 f1 f2 f3 c1 z1 y0 z0 kz hil;go_wp2_with fail
 have hpp:=HPP.out;clear HPP;by_cases m0:(Zw (advR σ)).2.f.isNone=true
 ·have HOK := lh m0;by_cases he : Zl s_eq (Zw (advR σ)).2 = true
  ·have hmq : Z28 4 (Zw (advR σ)).2 = (Zw (advR σ)).2 := by simp [Z28, he]
   rw [hmq,Yb he] at hpp;obtain ⟨x,σ1,hx,hpp⟩:=Zn hpp;simp only [Option.some.injEq,Prod.mk.injEq] at hpp;obtain ⟨rfl,rfl⟩:=hpp;have HE:=lh he;have HP:=lh hx;clear he hx hmq m0;have HO:=Z2f Q8.out;rw [HOK.out] at HO;refine HO.mono ?_;rintro e w81 ⟨rfl,rfl⟩;clear HO;go_wp2_with fail
   have HT:=Zk Q8.out s_eq;rw [HE.out] at HT;refine HT.mono ?_;rintro e w82 ⟨rfl,hb⟩;have Q82:=lh (Q8.out.below hb);have G82:=lh (G8.out.rfr HR.out (RFr.below (rb:=C.rb) hb));have F82:=lh (F8.out.trans (RFr.below (rb:=C.rb) hb));clear hb HT k0 k1 k3 kz1;go_wp2_with fail
   have HT:=Z1i Q82.out s_eq;rw [HE.out,Yb rfl] at HT;refine HT.mono ?_;rintro e w9 ⟨rfl,h,f'⟩;have Q9:=lh h;have G9:=lh (G82.out.rfr HR.out f');have F9:=lh (F82.out.trans f');clear h f' HT;go_wp2_with fail
   refine (HV.out w9 C B (d + 1) _ _ _ Q9.out HR.out (Ya HB.out F9.out.size) (by have:=HDF.out; omega) HP.out).mono ?_;rintro e w10 ⟨a,rfl,h4,h5,h6⟩;obtain ⟨⟨y3,z3⟩,g1,g2,g3⟩:=Got.giveKids HR.out HB.out G9.out F9.out h6 (KidsAt.one h4) (by simp) #[.pointer (some ⟨a.b,0,none⟩)] rfl 1 rfl;have G10:=lh g1;have F10:=lh g2;have Q10:=lh (h5.keep fun k hk=>g3 k (by have:=HR.out; omega));clear h4 h5 h6 g1 g2 g3;go_wp2_with fail
   refine (Z0w Q10.out Zs B HR.out (Ya HB.out F10.out.size)).mono ?_;rintro e wm ⟨rfl,hm,fm⟩;have GM:=lh (G10.out.rfr HR.out fm);have QM:=lh hm;have FM:=lh (F10.out.trans fm);clear hm fm y3 z3;go_wp2;go_ret;exact ⟨_,rfl,GM.out,QM.out,FM.out⟩
  ·have hmq : Z28 4 (Zw (advR σ)).2 = Z39 3 (Zw (advR σ)).2 := by simp [Z28, he, m0]
   have hne:Zl s_eq (Z39 3 (Zw (advR σ)).2)=false:=by simp [Z39,m0,Zl]
   rw [hmq,Y9 (by rw [hne]; decide)] at hpp;simp only [Option.some.injEq,Prod.mk.injEq] at hpp;obtain ⟨rfl,rfl⟩:=hpp;have HE:=lh (Bool.eq_false_iff.2 he);have HNE:=lh hne;clear he hne hmq m0;have HO:=Z2f Q8.out;rw [HOK.out] at HO;refine HO.mono ?_;rintro e w81 ⟨rfl,rfl⟩;clear HO;go_wp2_with fail
   have HT:=Zk Q8.out s_eq;rw [HE.out] at HT;refine HT.mono ?_;rintro e w82 ⟨rfl,hb⟩;have Q82:=lh (Q8.out.below hb);have G82:=lh (G8.out.rfr HR.out (RFr.below (rb:=C.rb) hb));have F82:=lh (F8.out.trans (RFr.below (rb:=C.rb) hb));clear hb HT k0 k1 k3 kz1;go_wp2_with fail
   refine (Z2t Q82.out 3 (by decide) B HR.out (Ya HB.out F82.out.size)).mono ?_;rintro e w83 ⟨b9,rfl,h9,q9,f9⟩;have Q83:=lh q9;have G83:=lh (G82.out.rfr HR.out f9);have F83:=lh (F82.out.trans f9);clear h9 q9 f9;go_wp2_with fail
   refine (Z04 Q83.out s_eq HNE.out).mono ?_;rintro e w9 ⟨rfl,hb⟩;have Q9:=lh (Q83.out.below hb);have G9:=lh (G83.out.rfr HR.out (RFr.below (rb:=C.rb) hb));have F9:=lh (F83.out.trans (RFr.below (rb:=C.rb) hb));clear hb;go_wp2_with fail
   refine (Z0w Q9.out Zs B HR.out (Ya HB.out F9.out.size)).mono ?_;rintro e wm ⟨rfl,hm,fm⟩;have GM:=lh (G9.out.rfr HR.out fm);have QM:=lh hm;have FM:=lh (F9.out.trans fm);clear hm fm;go_wp2;go_ret;exact ⟨_,rfl,GM.out,QM.out,FM.out⟩
 ·have m0 : (Zw (advR σ)).2.f.isNone = false := Bool.eq_false_iff.2 m0;have HOK := lh m0;have hmq : Z28 4 (Zw (advR σ)).2 = (Zw (advR σ)).2 := by simp [Z28, m0]
  have hne:Zl s_eq (Zw (advR σ)).2=false:=by simp [Zl,m0]
  rw [hmq,Y9 (by rw [hne]; decide)] at hpp;simp only [Option.some.injEq,Prod.mk.injEq] at hpp;obtain ⟨rfl,rfl⟩:=hpp;have HE:=lh hne;clear hne hmq m0;have HO:=Z2f Q8.out;rw [HOK.out] at HO;refine HO.mono ?_;rintro e w81 ⟨rfl,rfl⟩;clear HO;go_wp2_with fail
  refine (Z04 Q8.out s_eq HE.out).mono ?_;rintro e w9 ⟨rfl,hb⟩;have Q9:=lh (Q8.out.below hb);have G9:=lh (G8.out.rfr HR.out (RFr.below (rb:=C.rb) hb));have F9:=lh (F8.out.trans (RFr.below (rb:=C.rb) hb));clear hb;go_wp2_with fail
  refine (Z0w Q9.out Zs B HR.out (Ya HB.out F9.out.size)).mono ?_;rintro e wm ⟨rfl,hm,fm⟩;have GM:=lh (G9.out.rfr HR.out fm);have QM:=lh hm;have FM:=lh (F9.out.trans fm);clear hm fm;go_wp2;go_ret;exact ⟨_,rfl,GM.out,QM.out,FM.out⟩
end Go.Proofs.YtmeiggjboakmpaaGreatDoor
