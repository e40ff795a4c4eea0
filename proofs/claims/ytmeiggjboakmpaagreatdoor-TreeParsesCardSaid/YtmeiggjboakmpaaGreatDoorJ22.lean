/- The document's parser: statement: too deep, braces, the empty one. -/
import Derived.Test.YtmeiggjboakmpaaGreatDoorJ21
namespace Go.Proofs.YtmeiggjboakmpaaGreatDoor
open Go Go.RowKit
set_option maxRecDepth 100000
set_option maxHeartbeats 20000000
set_option linter.unusedVariables false
theorem Zhr (w:World) (C:QC) (B d:Nat) (σ:RS) (hQ:QS w C σ) (hr:C.rb < B) (hB:B≤w.heap.size) (hd:30 < d) (hd2:d≤1000000000000):Calls Tryz.prog 13 (qd C.rb d) w (Z27 w C B gT (Z39 4 σ)):=by
 have HF:=lh (Z2t hQ 4 (by decide) B hr hB);have n30:((d:Int) > 30)=true:=by simp; omega
 clear hQ hr hB hd;unfold qd;go_enter Tryz.func13,Tryz.ntmps13
 go_wp2_with fail
 refine HF.out.mono ?_;rintro e w3 ⟨a,rfl,h1⟩;have H1:=lh h1;clear h1;go_wp2;go_ret;exact ⟨a,rfl,H1.out⟩
theorem Zd9 (f:Nat) (hBr:Z1s 34 (Zaa false) (.braces false) f) (w:World) (C:QC) (B d:Nat) (σ:RS) (t:Tree) (σ':RS) (hQ:QS w C σ) (hr:C.rb < B) (hB:B≤w.heap.size) (hd:d≤30) (hdf:d + (f + 1)≤1000000000000) (hn:Zl Zi σ=true) (hp:refF f (.braces false) d σ=some (t,σ')) :
 Calls Tryz.prog 13 (qd C.rb d) w (Z27 w C B t σ'):=by
 have n30:¬ (d:Int) > 30:=by omega
 have hal:Below w.heap.size w (w.alloc (.cells #[.int .i64 0,.string ⟨#[]⟩,.int .i64 0,.slice none 0 0] 38)):=(Y8 _ _).alloc (Y5 _) _;have HN:=Zk (hQ.below hal) Zi;rw [hn] at HN;have HN:=lh HN;have Q0:=lh (hQ.below hal);have F0:=lh (RFr.below (rb:=C.rb) hal);have HBR:=lh hBr;have HP:=lh hp;have HR:=lh hr;have HB:=lh hB;have HD:=lh hdf;clear hQ hr hB hd hn hp hBr hal hdf;unfold qd;go_enter Tryz.func13,Tryz.ntmps13
 go_wp2_with fail
 refine HN.out.mono ?_;rintro e w1 ⟨rfl,hb1⟩;have Q1:=lh (Q0.out.below hb1);have F1:=lh (F0.out.trans (RFr.below (rb:=C.rb) hb1));clear hb1 HN;go_wp2_with fail
 refine (HBR.out w1 C B d _ _ _ Q1.out HR.out (Ya HB.out F1.out.size) (by have:=HD.out; omega) HP.out).mono ?_;rintro e w3 ⟨a,rfl,h1⟩;have H1:=lh h1;clear h1;go_wp2;go_ret;exact Z27.pre F1.out ⟨a,rfl,H1.out⟩
theorem Zhn (w:World) (C:QC) (B d:Nat) (σ:RS) (hQ:QS w C σ) (hr:C.rb < B) (hB:B≤w.heap.size) (hd:d≤30) (hn:Zl Zs σ=true) :
 Calls Tryz.prog 13 (qd C.rb d) w (Z27 w C B (.mk 16 ByteArray.empty 0 []) (advR σ)):=by
 have n30:¬ (d:Int) > 30:=by omega
 obtain ⟨nb,hnb⟩:=zX w.heap.size
 obtain ⟨w0,hw0⟩:=zX (w.alloc (.cells #[.int .i64 0,.string ⟨#[]⟩,.int .i64 0,.slice none 0 0] 38))
 have hal:Below w.heap.size w w0:=by rw [hw0]; exact (Y8 _ _).alloc (Y5 _) _
 have HN:=Zk (hQ.below hal) Zi;rw [Z2n hn (by decide)] at HN;have HN:=lh HN;have Q0:=lh (hQ.below hal);have F0:=lh (RFr.below (rb:=C.rb) hal);have G0:=lh (show Got w B w0 (.mk nb (.slice none 0 0) 0 ⟨#[]⟩ 0 []) (.mk 0 ⟨#[]⟩ 0 []) by rw [hw0,hnb]; exact Got.leaf hB (RFr.refl w C.rb));have HR:=lh hr;have HB:=lh hB;have HS:=lh hn;have HW0:=lh hw0;have HNB:=lh hnb;clear hQ hr hB hd hn hal hw0 hnb;unfold qd;go_enter Tryz.func13,Tryz.ntmps13
 go_wp2_with fail
 rw [← HW0.out,← HNB.out];refine HN.out.mono ?_;rintro e w1 ⟨rfl,hb1⟩;have Q1:=lh (Q0.out.below hb1);have F1:=lh (RFr.below (rb:=C.rb) hb1);clear hb1 HN;go_wp2_with fail
 have HT:=Z1i Q1.out Zs;rw [HS.out,Yb rfl] at HT;refine HT.mono ?_;rintro e w2 ⟨rfl,h2,f2⟩;have hF2:=F1.out.trans f2;have hG2:=G0.out.rfr HR.out hF2;have hblk:=hG2.at'.blkOf;simp only [ATree.b,ATree.v,ATree.kind,ATree.text,ATree.n] at hblk;have y0:w2.cell? ⟨nb,0,none⟩=some (.int .i64 0):=by simp [World.cell?,hblk]
 have z0:w2.frozen? ⟨nb,0,none⟩=false:=by simp [World.frozen?,hblk]
 have FIN:=lh (Got.kind0 (k':=16) HR.out HB.out hG2 (F0.out.trans hF2));have Q2:=lh h2;clear HT h2 f2 hF2 hG2 hblk;go_wp2;go_ret;obtain ⟨g1,g2,g3⟩:=FIN.out;exact ⟨_,rfl,g1,Q2.out.keep fun k hk=>g3 k (by have:=HR.out; omega),g2⟩
theorem ListAt.far {w0 w w':World} {B b:Nat} {v:Value} {kids:List ATree} {ts:List Tree} (L:ListAt w0 B w v kids ts) (hs:w.heap.size≤w'.heap.size) (h:∀ x,x≠b→w'.heap[x]?=w.heap[x]?) (h1:v.ownBlock≠some b) (h2:b ∉ Z0f kids):ListAt w0 B w' v kids ts:=by
 refine ⟨⟨L.ks.tree,fun a ha=>(L.ks.at' a ha).keepB fun y hy=>h y fun e=>h2 ?_,L.ks.nodup,fun x hx=>⟨(L.ks.new x hx).1,Ye (L.ks.new x hx).2 hs⟩⟩,Zq L.row fun g hg=>h g (fun e=>h1 (by rw [← e]; exact hg)),fun g hg=>⟨(L.own g hg).1,Ye (L.own g hg).2.1 hs,(L.own g hg).2.2⟩⟩;rw [← e,Z1k];exact List.mem_flatMap.2 ⟨a,ha,hy⟩
theorem Got.kindKids {w0 w:World} {rb B b:Nat} {v v':Value} {k k' n:Int} {tx:ByteArray} {kids kids':List ATree} {l tn:List Tree} (hr:rb < B) (hB0:B≤w0.heap.size) (N:Got w0 B w (.mk b v k tx n kids) (.mk k tx n tn)) (L:ListAt w0 B w v' kids' l) (h1:v'.ownBlock≠some b) (h2:b ∉ Z0f kids') (F:RFr w0 w rb) :
 Got w0 B ((w.setCell ⟨b,0,none⟩ (.int .i64 k')).setCell ⟨b,3,none⟩ v') (.mk b v' k' tx n kids') (.mk k' tx n l)∧RFr w0 ((w.setCell ⟨b,0,none⟩ (.int .i64 k')).setCell ⟨b,3,none⟩ v') rb∧(∀ x,x < B→((w.setCell ⟨b,0,none⟩ (.int .i64 k')).setCell ⟨b,3,none⟩ v').heap[x]?=w.heap[x]?):=by
 obtain ⟨g1,g2,g3⟩:=Got.kind0 (k':=k') hr hB0 N F;have L2:ListAt w0 B (w.setCell ⟨b,0,none⟩ (.int .i64 k')) v' kids' l:=L.far (by rw [Yn]; exact Y5 _) (fun x hx=>Yg _ _ _ _ hx) h1 h2;obtain ⟨e1,e2,e3⟩:=Got.kids0 hr hB0 g1.at' (N.new b (by simp [ATree.blocks])).1 L2 h1 h2 g2;exact ⟨e1,e2,fun x hx=>(e3 x hx).trans (g3 x hx)⟩
theorem Zar (f:Nat) (hFn:∀ s,Z1s 37 (fArg 5 s) (.func 5 s) f) (w:World) (C:QC) (B d:Nat) (σ:RS) (t:Tree) (σ':RS) (hQ:QS w C σ) (hr:C.rb < B) (hB:B≤w.heap.size) (hd:d≤30) (hdf:d + (f + 1)≤1000000000000) (hsee:∀ s:ByteArray,s≠Ze→Zl s σ=false) (hn:Zl Ze σ=true) (hp:refF f (.func 5 (Zw (advR σ)).1) d (Zw (advR σ)).2=some (t,σ')) :
 Calls Tryz.prog 13 (qd C.rb d) w (Z27 w C B t σ'):=by
 have n30:¬ (d:Int) > 30:=by omega
 obtain ⟨nb,hnb⟩:=zX w.heap.size
 obtain ⟨w0,hw0⟩:=zX (w.alloc (.cells #[.int .i64 0,.string ⟨#[]⟩,.int .i64 0,.slice none 0 0] 38))
 have hal:Below w.heap.size w w0:=by rw [hw0]; exact (Y8 _ _).alloc (Y5 _) _
 have Q0:=lh (hQ.below hal);have F0:=lh (RFr.below (rb:=C.rb) hal);have G0:=lh (show Got w B w0 (.mk nb (.slice none 0 0) 0 ⟨#[]⟩ 0 []) (.mk 0 ⟨#[]⟩ 0 []) by rw [hw0,hnb]; exact Got.leaf hB (RFr.refl w C.rb));have HR:=lh hr;have HB:=lh hB;have HW0:=lh hw0;have HNB:=lh hnb;have HNBW:=lh (show nb < w0.heap.size by rw [hw0,hnb]; simp);have HD:=lh hd;have HDF:=lh hdf;have HSEE:=lh hsee;have HSN:=lh hn;have HFN:=lh hFn;have HP:=lh hp;clear hQ hr hB hd hdf hsee hn hal hw0 hnb hFn hp;unfold qd;go_enter Tryz.func13,Tryz.ntmps13
 go_wp2_with fail
 rw [← HW0.out,← HNB.out];have BA0:=lh (Y8 w0.heap.size w0);have HT:=Zk Q0.out Zi;rw [HSEE.out Zi (by decide)] at HT;refine HT.mono ?_;rintro e wt1 ⟨rfl,hb⟩;have BA1:=zT BA0 hb;have Q1:=lh (Q0.out.below hb);clear hb HT;go_wp2_with fail
 have HT:=Z04 Q1.out Zs (HSEE.out Zs (by decide));refine HT.mono ?_;rintro e wt2 ⟨rfl,hb⟩;have BA2:=zT BA1 hb;have Q2:=lh (Q1.out.below hb);clear hb HT;go_wp2_with fail
 have HT:=Z1i Q2.out Ze;rw [HSN.out,Yb rfl] at HT;refine HT.mono ?_;rintro e w3 ⟨rfl,h3,f3⟩;have Q3:=lh h3;have F3:=lh ((F0.out.trans (RFr.below (rb:=C.rb) BA2.out)).trans f3);clear h3 f3 HT;go_wp2_with fail
 refine (Z34 Q3.out B HR.out (Ya HB.out F3.out.size)).mono ?_;rintro e w4 ⟨rfl,h4,f4⟩;have Q4:=lh h4;have F4:=lh (F3.out.trans f4);clear h4 f4;go_wp2_with fail
 refine (HFN.out _ w4 C B d _ _ _ Q4.out HR.out (Ya HB.out F4.out.size) (by have:=HDF.out; omega) HP.out).mono ?_;rintro e w5 ⟨a,rfl,h5⟩;have H5:=lh h5;clear h5;go_wp2;go_ret;exact Z27.pre F4.out ⟨a,rfl,H5.out⟩
theorem Zf8 (f:Nat) (hV:Z1s 41 qd .value f) (x:Tree) (σ1:RS) (w:World) (C:QC) (B d:Nat) (σ:RS) (t:Tree) (σ':RS) (hQ:QS w C σ) (hr:C.rb < B) (hB:B≤w.heap.size) (hd:d≤30) (hdf:d + (f + 1)≤1000000000000) (hsee:∀ s:ByteArray,s≠Z0s→Zl s σ=false) (hn:Zl Z0s σ=true) (ht:t=.mk 11 ByteArray.empty 0 [x]) (hs1:σ'=Z0y Zs σ1) (hp:refF f .value (d + 1) (advR σ)=some (x,σ1)) :
 Calls Tryz.prog 13 (qd C.rb d) w (Z27 w C B t σ'):=by
 have n30:¬ (d:Int) > 30:=by omega
 obtain ⟨nb,hnb⟩:=zX w.heap.size
 obtain ⟨w0,hw0⟩:=zX (w.alloc (.cells #[.int .i64 0,.string ⟨#[]⟩,.int .i64 0,.slice none 0 0] 38))
 have hal:Below w.heap.size w w0:=by rw [hw0]; exact (Y8 _ _).alloc (Y5 _) _
 have Q0:=lh (hQ.below hal);have F0:=lh (RFr.below (rb:=C.rb) hal);have G0:=lh (show Got w B w0 (.mk nb (.slice none 0 0) 0 ⟨#[]⟩ 0 []) (.mk 0 ⟨#[]⟩ 0 []) by rw [hw0,hnb]; exact Got.leaf hB (RFr.refl w C.rb));have HR:=lh hr;have HB:=lh hB;have HW0:=lh hw0;have HNB:=lh hnb;have HNBW:=lh (show nb < w0.heap.size by rw [hw0,hnb]; simp);have HD:=lh hd;have HDF:=lh hdf;have HSEE:=lh hsee;have HSN:=lh hn;have HV:=lh hV;have HP:=lh hp;subst ht hs1;clear hQ hr hB hd hdf hsee hn hal hw0 hnb hV hp;unfold qd;go_enter Tryz.func13,Tryz.ntmps13
 go_wp2_with fail
 rw [← HW0.out,← HNB.out];have BA0:=lh (Y8 w0.heap.size w0);have HT:=Zk Q0.out Zi;rw [HSEE.out Zi (by decide)] at HT;refine HT.mono ?_;rintro e wt1 ⟨rfl,hb⟩;have BA1:=zT BA0 hb;have Q1:=lh (Q0.out.below hb);clear hb HT;go_wp2_with fail
 have HT:=Z04 Q1.out Zs (HSEE.out Zs (by decide));refine HT.mono ?_;rintro e wt2 ⟨rfl,hb⟩;have BA2:=zT BA1 hb;have Q2:=lh (Q1.out.below hb);clear hb HT;go_wp2_with fail
 have HT:=Z04 Q2.out Ze (HSEE.out Ze (by decide));refine HT.mono ?_;rintro e wt3 ⟨rfl,hb⟩;have BA3:=zT BA2 hb;have Q3:=lh (Q2.out.below hb);clear hb HT;go_wp2_with fail
 have HT:=Z04 Q3.out s_if (HSEE.out s_if (by decide));refine HT.mono ?_;rintro e wt4 ⟨rfl,hb⟩;have BA4:=zT BA3 hb;have Q4:=lh (Q3.out.below hb);clear hb HT;go_wp2_with fail
 have HT:=Zk Q4.out Zz;rw [HSEE.out Zz (by decide)] at HT;refine HT.mono ?_;rintro e wt5 ⟨rfl,hb⟩;have BA5:=zT BA4 hb;have Q5:=lh (Q4.out.below hb);clear hb HT;go_wp2_with fail
 have HT:=Zk Q5.out Z0d;rw [HSEE.out Z0d (by decide)] at HT;refine HT.mono ?_;rintro e wt6 ⟨rfl,hb⟩;have BA6:=zT BA5 hb;have Q6:=lh (Q5.out.below hb);clear hb HT;go_wp2_with fail
 have HT:=Z04 Q6.out Z1j (HSEE.out Z1j (by decide));refine HT.mono ?_;rintro e wt7 ⟨rfl,hb⟩;have BA7:=zT BA6 hb;have Q7:=lh (Q6.out.below hb);clear hb HT;go_wp2_with fail
 have HT:=Zk Q7.out Z18;rw [HSEE.out Z18 (by decide)] at HT;refine HT.mono ?_;rintro e wt8 ⟨rfl,hb⟩;have BA8:=zT BA7 hb;have Q8:=lh (Q7.out.below hb);clear hb HT;go_wp2_with fail
 have HT:=Zk Q8.out Z1c;rw [HSEE.out Z1c (by decide)] at HT;refine HT.mono ?_;rintro e wt9 ⟨rfl,hb⟩;have BA9:=zT BA8 hb;have Q9:=lh (Q8.out.below hb);clear hb HT;go_wp2_with fail
 have HT:=Zk Q9.out Z06;rw [HSEE.out Z06 (by decide)] at HT;refine HT.mono ?_;rintro e wt10 ⟨rfl,hb⟩;have BA10:=zT BA9 hb;have Q10:=lh (Q9.out.below hb);clear hb HT;go_wp2_with fail
 have HT:=Z04 Q10.out Z08 (HSEE.out Z08 (by decide));refine HT.mono ?_;rintro e wt11 ⟨rfl,hb⟩;have BA11:=zT BA10 hb;have Q11:=lh (Q10.out.below hb);clear hb HT;go_wp2_with fail
 have HT:=Z1i Q11.out Z0s;rw [HSN.out,Yb rfl] at HT;refine HT.mono ?_;rintro e w3 ⟨rfl,h3,f3⟩;have Q3:=lh h3;have F3:=lh ((RFr.below (rb:=C.rb) BA11.out).trans f3);have hdd:=HD.out;clear h3 f3 HT;go_wp2_with fail
 refine (HV.out w3 C B (d + 1) _ _ _ Q3.out HR.out (Ya HB.out (F0.out.trans F3.out).size) (by have:=HDF.out; omega) HP.out).mono ?_;rintro e w4 ⟨a,rfl,h4,h5,h6⟩;have hal4:=(Y8 w4.heap.size w4).alloc (Y5 _) (.cells #[a.ptr] 22);have hFF:=(F3.out.trans h6).trans (RFr.below (rb:=C.rb) hal4);have hG:=G0.out.rfr HR.out hFF;have hblk:=hG.at'.blkOf;replace hblk:(w4.alloc (.cells #[.pointer (some ⟨a.b,0,none⟩)] 22)).heap[nb]?=some (.cells #[.int .i64 0,.string ⟨#[]⟩,.int .i64 0,.slice none 0 0] 38 (0,0)):=hblk
 have hL:=(KidsAt.one h4).lit (Ya HB.out ((F0.out.trans F3.out).trans h6).size) h6.size (by simp);have hap:=hL.apart (b:=nb) (Ye HNBW.out F3.out.size);have FIN:=lh (Got.kindKids (k':=11) HR.out HB.out hG (hL.pre (w0:=w) (F0.out.trans F3.out).size) hap.1 hap.2 (F0.out.trans hFF));have Q5:=lh (h5.below hal4);have y0:(w4.alloc (.cells #[.pointer (some ⟨a.b,0,none⟩)] 22)).cell? ⟨nb,0,none⟩=some (.int .i64 0):=by simp only [World.cell?,hblk]; rfl
 have z0:(w4.alloc (.cells #[.pointer (some ⟨a.b,0,none⟩)] 22)).frozen? ⟨nb,0,none⟩=false:=by simp only [World.frozen?,hblk]; rfl
 have y3:(w4.alloc (.cells #[.pointer (some ⟨a.b,0,none⟩)] 22)).cell? ⟨nb,3,none⟩=some (.slice none 0 0):=by simp only [World.cell?,hblk]; rfl
 have z3:(w4.alloc (.cells #[.pointer (some ⟨a.b,0,none⟩)] 22)).frozen? ⟨nb,3,none⟩=false:=by simp only [World.frozen?,hblk]; rfl
 clear h4 h5 h6 hal4 hFF hG hblk hL hap;go_wp2_with fail
 obtain ⟨g1,g2,g3⟩:=FIN.out;have Q6:=Q5.out.keep fun k hk=>g3 k (by have:=HR.out; omega);refine (Z0w Q6 Zs B HR.out (Ya HB.out g2.size)).mono ?_;rintro e w7 ⟨rfl,h7,f7⟩;have G7:=lh (g1.rfr HR.out f7);have Q7:=lh h7;have F7:=lh (g2.trans f7);clear g1 g2 g3 Q6 h7 f7 y0 z0 y3 z3;go_wp2;go_ret;exact ⟨_,rfl,G7.out,Q7.out,F7.out⟩
theorem Zhf (f:Nat) (hV:Z1s 41 qd .value f) (x:Tree) (σ1:RS) (w:World) (C:QC) (B d:Nat) (σ:RS) (t:Tree) (σ':RS) (hQ:QS w C σ) (hr:C.rb < B) (hB:B≤w.heap.size) (hd:d≤30) (hdf:d + (f + 1)≤1000000000000) (hsee:∀ s:ByteArray,s∈[Zi,Zs,Ze,s_if,Zz,Z0d,Z1j,Z18,Z1c,Z06,Z08,Z0s]→Zl s σ=false) (ht:t=.mk 15 ByteArray.empty 0 [x]) (hs1:σ'=Z0y Zs σ1) (hp:refF f .value (d + 1) σ=some (x,σ1)) :
 Calls Tryz.prog 13 (qd C.rb d) w (Z27 w C B t σ'):=by
 have n30:¬ (d:Int) > 30:=by omega
 obtain ⟨nb,hnb⟩:=zX w.heap.size
 obtain ⟨w0,hw0⟩:=zX (w.alloc (.cells #[.int .i64 0,.string ⟨#[]⟩,.int .i64 0,.slice none 0 0] 38))
 have hal:Below w.heap.size w w0:=by rw [hw0]; exact (Y8 _ _).alloc (Y5 _) _
 have Q0:=lh (hQ.below hal);have F0:=lh (RFr.below (rb:=C.rb) hal);have G0:=lh (show Got w B w0 (.mk nb (.slice none 0 0) 0 ⟨#[]⟩ 0 []) (.mk 0 ⟨#[]⟩ 0 []) by rw [hw0,hnb]; exact Got.leaf hB (RFr.refl w C.rb));have HR:=lh hr;have HB:=lh hB;have HW0:=lh hw0;have HNB:=lh hnb;have HNBW:=lh (show nb < w0.heap.size by rw [hw0,hnb]; simp);have HD:=lh hd;have HDF:=lh hdf;have HSEE:=lh hsee;have HV:=lh hV;have HP:=lh hp;subst ht hs1;clear hQ hr hB hd hdf hsee hal hw0 hnb hV hp;unfold qd;go_enter Tryz.func13,Tryz.ntmps13
 go_wp2_with fail
 rw [← HW0.out,← HNB.out];have BA0:=lh (Y8 w0.heap.size w0);have HT:=Zk Q0.out Zi;rw [HSEE.out Zi (by first | decide | simp)] at HT;refine HT.mono ?_;rintro e wt1 ⟨rfl,hb⟩;have BA1:=zT BA0 hb;have Q1:=lh (Q0.out.below hb);clear hb HT;go_wp2_with fail
 have HT:=Z04 Q1.out Zs (HSEE.out Zs (by first | decide | simp));refine HT.mono ?_;rintro e wt2 ⟨rfl,hb⟩;have BA2:=zT BA1 hb;have Q2:=lh (Q1.out.below hb);clear hb HT;go_wp2_with fail
 have HT:=Z04 Q2.out Ze (HSEE.out Ze (by first | decide | simp));refine HT.mono ?_;rintro e wt3 ⟨rfl,hb⟩;have BA3:=zT BA2 hb;have Q3:=lh (Q2.out.below hb);clear hb HT;go_wp2_with fail
 have HT:=Z04 Q3.out s_if (HSEE.out s_if (by first | decide | simp));refine HT.mono ?_;rintro e wt4 ⟨rfl,hb⟩;have BA4:=zT BA3 hb;have Q4:=lh (Q3.out.below hb);clear hb HT;go_wp2_with fail
 have HT:=Zk Q4.out Zz;rw [HSEE.out Zz (by first | decide | simp)] at HT;refine HT.mono ?_;rintro e wt5 ⟨rfl,hb⟩;have BA5:=zT BA4 hb;have Q5:=lh (Q4.out.below hb);clear hb HT;go_wp2_with fail
 have HT:=Zk Q5.out Z0d;rw [HSEE.out Z0d (by first | decide | simp)] at HT;refine HT.mono ?_;rintro e wt6 ⟨rfl,hb⟩;have BA6:=zT BA5 hb;have Q6:=lh (Q5.out.below hb);clear hb HT;go_wp2_with fail
 have HT:=Z04 Q6.out Z1j (HSEE.out Z1j (by first | decide | simp));refine HT.mono ?_;rintro e wt7 ⟨rfl,hb⟩;have BA7:=zT BA6 hb;have Q7:=lh (Q6.out.below hb);clear hb HT;go_wp2_with fail
 have HT:=Zk Q7.out Z18;rw [HSEE.out Z18 (by first | decide | simp)] at HT;refine HT.mono ?_;rintro e wt8 ⟨rfl,hb⟩;have BA8:=zT BA7 hb;have Q8:=lh (Q7.out.below hb);clear hb HT;go_wp2_with fail
 have HT:=Zk Q8.out Z1c;rw [HSEE.out Z1c (by first | decide | simp)] at HT;refine HT.mono ?_;rintro e wt9 ⟨rfl,hb⟩;have BA9:=zT BA8 hb;have Q9:=lh (Q8.out.below hb);clear hb HT;go_wp2_with fail
 have HT:=Zk Q9.out Z06;rw [HSEE.out Z06 (by first | decide | simp)] at HT;refine HT.mono ?_;rintro e wt10 ⟨rfl,hb⟩;have BA10:=zT BA9 hb;have Q10:=lh (Q9.out.below hb);clear hb HT;go_wp2_with fail
 have HT:=Z04 Q10.out Z08 (HSEE.out Z08 (by first | decide | simp));refine HT.mono ?_;rintro e wt11 ⟨rfl,hb⟩;have BA11:=zT BA10 hb;have Q11:=lh (Q10.out.below hb);clear hb HT;go_wp2_with fail
 have HT:=Z04 Q11.out Z0s (HSEE.out Z0s (by first | decide | simp));refine HT.mono ?_;rintro e wt12 ⟨rfl,hb⟩;have BA12:=zT BA11 hb;have Q12:=lh (Q11.out.below hb);clear hb HT;have Q3:=Q12;have F3:=lh (RFr.below (rb:=C.rb) BA12.out);have hdd:=HD.out;go_wp2_with fail
 refine (HV.out wt12 C B (d + 1) _ _ _ Q3.out HR.out (Ya HB.out (F0.out.trans F3.out).size) (by have:=HDF.out; omega) HP.out).mono ?_;rintro e w4 ⟨a,rfl,h4,h5,h6⟩;have hal4:=(Y8 w4.heap.size w4).alloc (Y5 _) (.cells #[a.ptr] 22);have hFF:=(F3.out.trans h6).trans (RFr.below (rb:=C.rb) hal4);have hG:=G0.out.rfr HR.out hFF;have hblk:=hG.at'.blkOf;replace hblk:(w4.alloc (.cells #[.pointer (some ⟨a.b,0,none⟩)] 22)).heap[nb]?=some (.cells #[.int .i64 0,.string ⟨#[]⟩,.int .i64 0,.slice none 0 0] 38 (0,0)):=hblk
 have hL:=(KidsAt.one h4).lit (Ya HB.out ((F0.out.trans F3.out).trans h6).size) h6.size (by simp);have hap:=hL.apart (b:=nb) (Ye HNBW.out F3.out.size);have FIN:=lh (Got.kindKids (k':=15) HR.out HB.out hG (hL.pre (w0:=w) (F0.out.trans F3.out).size) hap.1 hap.2 (F0.out.trans hFF));have Q5:=lh (h5.below hal4);have y0:(w4.alloc (.cells #[.pointer (some ⟨a.b,0,none⟩)] 22)).cell? ⟨nb,0,none⟩=some (.int .i64 0):=by simp only [World.cell?,hblk]; rfl
 have z0:(w4.alloc (.cells #[.pointer (some ⟨a.b,0,none⟩)] 22)).frozen? ⟨nb,0,none⟩=false:=by simp only [World.frozen?,hblk]; rfl
 have y3:(w4.alloc (.cells #[.pointer (some ⟨a.b,0,none⟩)] 22)).cell? ⟨nb,3,none⟩=some (.slice none 0 0):=by simp only [World.cell?,hblk]; rfl
 have z3:(w4.alloc (.cells #[.pointer (some ⟨a.b,0,none⟩)] 22)).frozen? ⟨nb,3,none⟩=false:=by simp only [World.frozen?,hblk]; rfl
 clear h4 h5 h6 hal4 hFF hG hblk hL hap;go_wp2_with fail
 obtain ⟨g1,g2,g3⟩:=FIN.out;have Q6:=Q5.out.keep fun k hk=>g3 k (by have:=HR.out; omega);refine (Z0w Q6 Zs B HR.out (Ya HB.out g2.size)).mono ?_;rintro e w7 ⟨rfl,h7,f7⟩;have G7:=lh (g1.rfr HR.out f7);have Q7:=lh h7;have F7:=lh (g2.trans f7);clear g1 g2 g3 Q6 h7 f7 y0 z0 y3 z3;go_wp2;go_ret;exact ⟨_,rfl,G7.out,Q7.out,F7.out⟩
theorem Zbj (f:Nat) (w:World) (C:QC) (B d:Nat) (σ:RS) (t:Tree) (σ':RS) (hQ:QS w C σ) (hr:C.rb < B) (hB:B≤w.heap.size) (hd:d≤30) (hdf:d + (f + 1)≤1000000000000) (hsee:∀ s:ByteArray,s≠Z08→Zl s σ=false) (hn:Zl Z08 σ=true) (ht:t=.mk 10 ByteArray.empty 0 []) (hs1:σ'=Z0y Zs (advR σ)) (hse:Zl Zs (advR σ)=true) :
 Calls Tryz.prog 13 (qd C.rb d) w (Z27 w C B t σ'):=by
 have n30:¬ (d:Int) > 30:=by omega
 obtain ⟨nb,hnb⟩:=zX w.heap.size
 obtain ⟨w0,hw0⟩:=zX (w.alloc (.cells #[.int .i64 0,.string ⟨#[]⟩,.int .i64 0,.slice none 0 0] 38))
 have hal:Below w.heap.size w w0:=by rw [hw0]; exact (Y8 _ _).alloc (Y5 _) _
 have Q0:=lh (hQ.below hal);have F0:=lh (RFr.below (rb:=C.rb) hal);have G0:=lh (show Got w B w0 (.mk nb (.slice none 0 0) 0 ⟨#[]⟩ 0 []) (.mk 0 ⟨#[]⟩ 0 []) by rw [hw0,hnb]; exact Got.leaf hB (RFr.refl w C.rb));have HR:=lh hr;have HB:=lh hB;have HW0:=lh hw0;have HNB:=lh hnb;have HNBW:=lh (show nb < w0.heap.size by rw [hw0,hnb]; simp);have HD:=lh hd;have HDF:=lh hdf;have HSEE:=lh hsee;have HSN:=lh hn;have HSEMI:=lh hse;subst ht hs1;clear hQ hr hB hd hdf hsee hn hal hw0 hnb hse;unfold qd;go_enter Tryz.func13,Tryz.ntmps13
 go_wp2_with fail
 rw [← HW0.out,← HNB.out];have BA0:=lh (Y8 w0.heap.size w0);have HT:=Zk Q0.out Zi;rw [HSEE.out Zi (by first | decide | simp)] at HT;refine HT.mono ?_;rintro e wt1 ⟨rfl,hb⟩;have BA1:=zT BA0 hb;have Q1:=lh (Q0.out.below hb);clear hb HT;go_wp2_with fail
 have HT:=Z04 Q1.out Zs (HSEE.out Zs (by first | decide | simp));refine HT.mono ?_;rintro e wt2 ⟨rfl,hb⟩;have BA2:=zT BA1 hb;have Q2:=lh (Q1.out.below hb);clear hb HT;go_wp2_with fail
 have HT:=Z04 Q2.out Ze (HSEE.out Ze (by first | decide | simp));refine HT.mono ?_;rintro e wt3 ⟨rfl,hb⟩;have BA3:=zT BA2 hb;have Q3:=lh (Q2.out.below hb);clear hb HT;go_wp2_with fail
 have HT:=Z04 Q3.out s_if (HSEE.out s_if (by first | decide | simp));refine HT.mono ?_;rintro e wt4 ⟨rfl,hb⟩;have BA4:=zT BA3 hb;have Q4:=lh (Q3.out.below hb);clear hb HT;go_wp2_with fail
 have HT:=Zk Q4.out Zz;rw [HSEE.out Zz (by first | decide | simp)] at HT;refine HT.mono ?_;rintro e wt5 ⟨rfl,hb⟩;have BA5:=zT BA4 hb;have Q5:=lh (Q4.out.below hb);clear hb HT;go_wp2_with fail
 have HT:=Zk Q5.out Z0d;rw [HSEE.out Z0d (by first | decide | simp)] at HT;refine HT.mono ?_;rintro e wt6 ⟨rfl,hb⟩;have BA6:=zT BA5 hb;have Q6:=lh (Q5.out.below hb);clear hb HT;go_wp2_with fail
 have HT:=Z04 Q6.out Z1j (HSEE.out Z1j (by first | decide | simp));refine HT.mono ?_;rintro e wt7 ⟨rfl,hb⟩;have BA7:=zT BA6 hb;have Q7:=lh (Q6.out.below hb);clear hb HT;go_wp2_with fail
 have HT:=Zk Q7.out Z18;rw [HSEE.out Z18 (by first | decide | simp)] at HT;refine HT.mono ?_;rintro e wt8 ⟨rfl,hb⟩;have BA8:=zT BA7 hb;have Q8:=lh (Q7.out.below hb);clear hb HT;go_wp2_with fail
 have HT:=Zk Q8.out Z1c;rw [HSEE.out Z1c (by first | decide | simp)] at HT;refine HT.mono ?_;rintro e wt9 ⟨rfl,hb⟩;have BA9:=zT BA8 hb;have Q9:=lh (Q8.out.below hb);clear hb HT;go_wp2_with fail
 have HT:=Zk Q9.out Z06;rw [HSEE.out Z06 (by first | decide | simp)] at HT;refine HT.mono ?_;rintro e wt10 ⟨rfl,hb⟩;have BA10:=zT BA9 hb;have Q10:=lh (Q9.out.below hb);clear hb HT;go_wp2_with fail
 have HT:=Z1i Q10.out Z08;rw [HSN.out,Yb rfl] at HT;refine HT.mono ?_;rintro e w3 ⟨rfl,h3,f3⟩;have Q3:=lh h3;have F3:=lh ((RFr.below (rb:=C.rb) BA10.out).trans f3);clear h3 f3 HT;have hG3:=G0.out.rfr HR.out F3.out;obtain ⟨y0,_,_,z0,_⟩:=hG3.cells;have z0:=z0 0;have K3:=Got.kind0 (k':=10) HR.out HB.out hG3 (F0.out.trans F3.out);have G4:=lh K3.1;have F4:=lh K3.2.1;have Q4:=lh (Q3.out.keep fun k hk=>K3.2.2 k (by have:=HR.out; omega));have hdd:=HD.out;clear hG3 K3;go_wp2_with fail
 have HT:=Zk Q4.out Zs;rw [HSEMI.out] at HT;refine HT.mono ?_;rintro e w5 ⟨rfl,hb⟩;have Q5:=lh (Q4.out.below hb);have G5:=lh (G4.out.rfr HR.out (RFr.below (rb:=C.rb) hb));have F5:=lh (F4.out.trans (RFr.below (rb:=C.rb) hb));clear hb HT Q4 G4 F4 y0 z0;go_wp2_with fail
 refine (Z0w Q5.out Zs B HR.out (Ya HB.out F5.out.size)).mono ?_;rintro e w7 ⟨rfl,h7,f7⟩;have G7:=lh (G5.out.rfr HR.out f7);have Q7:=lh h7;have F7:=lh (F5.out.trans f7);clear h7 f7;go_wp2;go_ret;exact ⟨_,rfl,G7.out,Q7.out,F7.out⟩
theorem Zbm (f:Nat) (hV:Z1s 41 qd .value f) (x:Tree) (σ1:RS) (w:World) (C:QC) (B d:Nat) (σ:RS) (t:Tree) (σ':RS) (hQ:QS w C σ) (hr:C.rb < B) (hB:B≤w.heap.size) (hd:d≤30) (hdf:d + (f + 1)≤1000000000000) (hsee:∀ s:ByteArray,s≠Z08→Zl s σ=false) (hn:Zl Z08 σ=true) (ht:t=.mk 10 ByteArray.empty 0 [x]) (hs1:σ'=Z0y Zs σ1) (hse:Zl Zs (advR σ)=false) (hp:refF f .value (d + 1) (advR σ)=some (x,σ1)) :
 Calls Tryz.prog 13 (qd C.rb d) w (Z27 w C B t σ'):=by
 have n30:¬ (d:Int) > 30:=by omega
 obtain ⟨nb,hnb⟩:=zX w.heap.size
 obtain ⟨w0,hw0⟩:=zX (w.alloc (.cells #[.int .i64 0,.string ⟨#[]⟩,.int .i64 0,.slice none 0 0] 38))
 have hal:Below w.heap.size w w0:=by rw [hw0]; exact (Y8 _ _).alloc (Y5 _) _
 have Q0:=lh (hQ.below hal);have F0:=lh (RFr.below (rb:=C.rb) hal);have G0:=lh (show Got w B w0 (.mk nb (.slice none 0 0) 0 ⟨#[]⟩ 0 []) (.mk 0 ⟨#[]⟩ 0 []) by rw [hw0,hnb]; exact Got.leaf hB (RFr.refl w C.rb));have HR:=lh hr;have HB:=lh hB;have HW0:=lh hw0;have HNB:=lh hnb;have HNBW:=lh (show nb < w0.heap.size by rw [hw0,hnb]; simp);have HD:=lh hd;have HDF:=lh hdf;have HSEE:=lh hsee;have HSN:=lh hn;have HSEMI:=lh hse;have HV:=lh hV;have HP:=lh hp;subst ht hs1;clear hQ hr hB hd hdf hsee hn hal hw0 hnb hse hV hp;unfold qd;go_enter Tryz.func13,Tryz.ntmps13
 go_wp2_with fail
 rw [← HW0.out,← HNB.out];have BA0:=lh (Y8 w0.heap.size w0);have HT:=Zk Q0.out Zi;rw [HSEE.out Zi (by first | decide | simp)] at HT;refine HT.mono ?_;rintro e wt1 ⟨rfl,hb⟩;have BA1:=zT BA0 hb;have Q1:=lh (Q0.out.below hb);clear hb HT;go_wp2_with fail
 have HT:=Z04 Q1.out Zs (HSEE.out Zs (by first | decide | simp));refine HT.mono ?_;rintro e wt2 ⟨rfl,hb⟩;have BA2:=zT BA1 hb;have Q2:=lh (Q1.out.below hb);clear hb HT;go_wp2_with fail
 have HT:=Z04 Q2.out Ze (HSEE.out Ze (by first | decide | simp));refine HT.mono ?_;rintro e wt3 ⟨rfl,hb⟩;have BA3:=zT BA2 hb;have Q3:=lh (Q2.out.below hb);clear hb HT;go_wp2_with fail
 have HT:=Z04 Q3.out s_if (HSEE.out s_if (by first | decide | simp));refine HT.mono ?_;rintro e wt4 ⟨rfl,hb⟩;have BA4:=zT BA3 hb;have Q4:=lh (Q3.out.below hb);clear hb HT;go_wp2_with fail
 have HT:=Zk Q4.out Zz;rw [HSEE.out Zz (by first | decide | simp)] at HT;refine HT.mono ?_;rintro e wt5 ⟨rfl,hb⟩;have BA5:=zT BA4 hb;have Q5:=lh (Q4.out.below hb);clear hb HT;go_wp2_with fail
 have HT:=Zk Q5.out Z0d;rw [HSEE.out Z0d (by first | decide | simp)] at HT;refine HT.mono ?_;rintro e wt6 ⟨rfl,hb⟩;have BA6:=zT BA5 hb;have Q6:=lh (Q5.out.below hb);clear hb HT;go_wp2_with fail
 have HT:=Z04 Q6.out Z1j (HSEE.out Z1j (by first | decide | simp));refine HT.mono ?_;rintro e wt7 ⟨rfl,hb⟩;have BA7:=zT BA6 hb;have Q7:=lh (Q6.out.below hb);clear hb HT;go_wp2_with fail
 have HT:=Zk Q7.out Z18;rw [HSEE.out Z18 (by first | decide | simp)] at HT;refine HT.mono ?_;rintro e wt8 ⟨rfl,hb⟩;have BA8:=zT BA7 hb;have Q8:=lh (Q7.out.below hb);clear hb HT;go_wp2_with fail
 have HT:=Zk Q8.out Z1c;rw [HSEE.out Z1c (by first | decide | simp)] at HT;refine HT.mono ?_;rintro e wt9 ⟨rfl,hb⟩;have BA9:=zT BA8 hb;have Q9:=lh (Q8.out.below hb);clear hb HT;go_wp2_with fail
 have HT:=Zk Q9.out Z06;rw [HSEE.out Z06 (by first | decide | simp)] at HT;refine HT.mono ?_;rintro e wt10 ⟨rfl,hb⟩;have BA10:=zT BA9 hb;have Q10:=lh (Q9.out.below hb);clear hb HT;go_wp2_with fail
 have HT:=Z1i Q10.out Z08;rw [HSN.out,Yb rfl] at HT;refine HT.mono ?_;rintro e w3 ⟨rfl,h3,f3⟩;have Q3:=lh h3;have F3:=lh ((RFr.below (rb:=C.rb) BA10.out).trans f3);clear h3 f3 HT;have hG3:=G0.out.rfr HR.out F3.out;obtain ⟨y0,_,_,z0,_⟩:=hG3.cells;have z0:=z0 0;have K3:=Got.kind0 (k':=10) HR.out HB.out hG3 (F0.out.trans F3.out);have G4:=lh K3.1;have F4:=lh K3.2.1;have Q4:=lh (Q3.out.keep fun k hk=>K3.2.2 k (by have:=HR.out; omega));have hdd:=HD.out;clear hG3 K3;go_wp2_with fail
 have HT:=Zk Q4.out Zs;rw [HSEMI.out] at HT;refine HT.mono ?_;rintro e w5 ⟨rfl,hb⟩;have Q5:=lh (Q4.out.below hb);have G5:=lh (G4.out.rfr HR.out (RFr.below (rb:=C.rb) hb));have F5:=lh (F4.out.trans (RFr.below (rb:=C.rb) hb));clear hb HT Q4 G4 F4 y0 z0;go_wp2_with fail
 refine (HV.out w5 C B (d + 1) _ _ _ Q5.out HR.out (Ya HB.out F5.out.size) (by have:=HDF.out; omega) HP.out).mono ?_;rintro e w6 ⟨a,rfl,h4,h5,h6⟩;obtain ⟨⟨y3,z3⟩,g1,g2,g3⟩:=Got.giveKids HR.out HB.out G5.out F5.out h6 (KidsAt.one h4) (by simp) #[.pointer (some ⟨a.b,0,none⟩)] rfl 1 rfl;have G6:=lh g1;have F6:=lh g2;have Q6:=lh (h5.keep fun k hk=>g3 k (by have:=HR.out; omega));clear h4 h5 h6 g1 g2 g3;go_wp2_with fail
 refine (Z0w Q6.out Zs B HR.out (Ya HB.out F6.out.size)).mono ?_;rintro e w7 ⟨rfl,h7,f7⟩;have G7:=lh (G6.out.rfr HR.out f7);have Q7:=lh h7;have F7:=lh (F6.out.trans f7);clear h7 f7 y3 z3;go_wp2;go_ret;exact ⟨_,rfl,G7.out,Q7.out,F7.out⟩
theorem Zfd (f:Nat) (hH:Z1s 38 qd .head f) (hS2:Z1s 39 qd .stmt2 f) (x y:Tree) (σ1:RS) (w:World) (C:QC) (B d:Nat) (σ:RS) (t:Tree) (σ':RS) (hQ:QS w C σ) (hr:C.rb < B) (hB:B≤w.heap.size) (hd:d≤30) (hdf:d + (f + 1)≤1000000000000) (hsee:∀ s:ByteArray,s≠Zz→Zl s σ=false) (hn:Zl Zz σ=true) (ht:t=.mk 8 ByteArray.empty 0 [x,y]) (hp:refF f .head d (advR σ)=some (x,σ1)) (hp2:refF f .stmt2 d σ1=some (y,σ')) :
 Calls Tryz.prog 13 (qd C.rb d) w (Z27 w C B t σ'):=by
 have n30:¬ (d:Int) > 30:=by omega
 obtain ⟨nb,hnb⟩:=zX w.heap.size
 obtain ⟨w0,hw0⟩:=zX (w.alloc (.cells #[.int .i64 0,.string ⟨#[]⟩,.int .i64 0,.slice none 0 0] 38))
 have hal:Below w.heap.size w w0:=by rw [hw0]; exact (Y8 _ _).alloc (Y5 _) _
 have Q0:=lh (hQ.below hal);have F0:=lh (RFr.below (rb:=C.rb) hal);have G0:=lh (show Got w B w0 (.mk nb (.slice none 0 0) 0 ⟨#[]⟩ 0 []) (.mk 0 ⟨#[]⟩ 0 []) by rw [hw0,hnb]; exact Got.leaf hB (RFr.refl w C.rb));have HR:=lh hr;have HB:=lh hB;have HW0:=lh hw0;have HNB:=lh hnb;have HNBW:=lh (show nb < w0.heap.size by rw [hw0,hnb]; simp);have HD:=lh hd;have HDF:=lh hdf;have HSEE:=lh hsee;have HSN:=lh hn;have HH:=lh hH;have HS2:=lh hS2;have HP:=lh hp;have HP2:=lh hp2;subst ht;clear hQ hr hB hd hdf hsee hn hal hw0 hnb hH hS2 hp hp2;unfold qd
 go_enter Tryz.func13,Tryz.ntmps13
 go_wp2_with fail
 rw [← HW0.out,← HNB.out];have BA0:=lh (Y8 w0.heap.size w0);have HT:=Zk Q0.out Zi;rw [HSEE.out Zi (by decide)] at HT;refine HT.mono ?_;rintro e wt1 ⟨rfl,hb⟩;have BA1:=zT BA0 hb;have Q1:=lh (Q0.out.below hb);clear hb HT;go_wp2_with fail
 have HT:=Z04 Q1.out Zs (HSEE.out Zs (by decide));refine HT.mono ?_;rintro e wt2 ⟨rfl,hb⟩;have BA2:=zT BA1 hb;have Q2:=lh (Q1.out.below hb);clear hb HT;go_wp2_with fail
 have HT:=Z04 Q2.out Ze (HSEE.out Ze (by decide));refine HT.mono ?_;rintro e wt3 ⟨rfl,hb⟩;have BA3:=zT BA2 hb;have Q3:=lh (Q2.out.below hb);clear hb HT;go_wp2_with fail
 have HT:=Z04 Q3.out s_if (HSEE.out s_if (by decide));refine HT.mono ?_;rintro e wt4 ⟨rfl,hb⟩;have BA4:=zT BA3 hb;have Q4:=lh (Q3.out.below hb);clear hb HT;go_wp2_with fail
 have HT:=Zk Q4.out Zz;rw [HSN.out] at HT;refine HT.mono ?_;rintro e w3 ⟨rfl,hb⟩;have F3:=lh ((RFr.below (rb:=C.rb) BA4.out).trans (RFr.below hb));have Q3:=lh (Q4.out.below hb);clear hb HT Q4;have hG3:=G0.out.rfr HR.out F3.out;obtain ⟨y0,_,_,z0,_⟩:=hG3.cells;have z0:=z0 0;have K3:=Got.kind0 (k':=8) HR.out HB.out hG3 (F0.out.trans F3.out);have G4:=lh K3.1;have F4:=lh K3.2.1;have Q4:=lh (Q3.out.keep fun k hk=>K3.2.2 k (by have:=HR.out; omega));have hdd:=HD.out;clear hG3 K3;go_wp2_with fail
 have HT:=Zk Q4.out Z0d;rw [HSEE.out Z0d (by decide)] at HT;refine HT.mono ?_;rintro e w5 ⟨rfl,hb⟩;have Q5:=lh (Q4.out.below hb);have G5:=lh (G4.out.rfr HR.out (RFr.below (rb:=C.rb) hb));have F5:=lh (F4.out.trans (RFr.below (rb:=C.rb) hb));clear hb HT Q4 G4 F4 y0 z0;obtain ⟨i,hi,hA⟩:=Q5.out;have c1:=hA.c1;have z1:=hA.fz 1;have hk:(hdT (C.L.drop i)).kind≠6:=by rw [← hi]; exact Z54 (Z31 HSN.out)
 have hadv:=QS.adv hA (x:=(i:Int) + 1) hk rfl;have e:(⟨C.L.drop i,σ.f⟩:RS)=σ:=by rw [← hi]
 rw [e] at hadv;have Q7:=lh hadv;have F57:=(RFr.of_set (w:=w5) (rb:=C.rb) 1 (.int .i64 ((i:Int) + 1)))
 have F7:=lh (F5.out.trans F57);have G7:=lh (G5.out.rfr HR.out F57);have hil:=hA.lt;have hfew:=hA.few;have HIL:=lh (show (i:Int) < 4000 by omega);clear hA hi hk hadv e F57 hil hfew;have hil:=HIL.out;have hdd:=HD.out;go_wp2_with fail
 refine (HH.out _ C B d _ _ _ Q7.out HR.out (Ya HB.out F7.out.size) (by have:=HDF.out; omega) HP.out).mono ?_;rintro e w8 ⟨a,rfl,h8,q8,f8⟩;have A8:=lh h8;have Q8:=lh q8;have F8:=lh f8;clear h8 q8 f8 c1 z1;go_wp2_with fail
 refine (HS2.out w8 C B d _ _ _ Q8.out HR.out (Ya HB.out (F7.out.trans F8.out).size) (by have:=HDF.out; omega) HP2.out).mono ?_;rintro e w9 ⟨c,rfl,h9,q9,f9⟩;obtain ⟨⟨y3,z3⟩,g1,g2,g3⟩:=Got.giveKids HR.out HB.out G7.out F7.out (F8.out.trans f9) (KidsAt.two (A8.out.rfr HR.out f9) (fun x hx=>(A8.out.new x hx).2) F8.out.size h9) (by simp) #[.pointer (some ⟨a.b,0,none⟩),.pointer (some ⟨c.b,0,none⟩)] rfl 2 rfl;have G10:=lh g1;have F10:=lh g2;have Q10:=lh (q9.keep fun k hk=>g3 k (by have:=HR.out; omega));clear h9 q9 f9 g1 g2 g3;go_wp2;go_ret
 exact ⟨_,rfl,G10.out,Q10.out,F10.out⟩
theorem Zgu (f:Nat) (hH:Z1s 38 qd .head f) (hS2:Z1s 39 qd .stmt2 f) (x y:Tree) (σ1:RS) (w:World) (C:QC) (B d:Nat) (σ:RS) (t:Tree) (σ':RS) (hQ:QS w C σ) (hr:C.rb < B) (hB:B≤w.heap.size) (hd:d≤30) (hdf:d + (f + 1)≤1000000000000) (hsee:∀ s:ByteArray,s≠Z0d→Zl s σ=false) (hn:Zl Z0d σ=true) (ht:t=.mk 9 ByteArray.empty 0 [x,y]) (hp:refF f .head d (advR σ)=some (x,σ1)) (hp2:refF f .stmt2 d σ1=some (y,σ')) :
 Calls Tryz.prog 13 (qd C.rb d) w (Z27 w C B t σ'):=by
 have n30:¬ (d:Int) > 30:=by omega
 obtain ⟨nb,hnb⟩:=zX w.heap.size
 obtain ⟨w0,hw0⟩:=zX (w.alloc (.cells #[.int .i64 0,.string ⟨#[]⟩,.int .i64 0,.slice none 0 0] 38))
 have hal:Below w.heap.size w w0:=by rw [hw0]; exact (Y8 _ _).alloc (Y5 _) _
 have Q0:=lh (hQ.below hal);have F0:=lh (RFr.below (rb:=C.rb) hal);have G0:=lh (show Got w B w0 (.mk nb (.slice none 0 0) 0 ⟨#[]⟩ 0 []) (.mk 0 ⟨#[]⟩ 0 []) by rw [hw0,hnb]; exact Got.leaf hB (RFr.refl w C.rb));have HR:=lh hr;have HB:=lh hB;have HW0:=lh hw0;have HNB:=lh hnb;have HNBW:=lh (show nb < w0.heap.size by rw [hw0,hnb]; simp);have HD:=lh hd;have HDF:=lh hdf;have HSEE:=lh hsee;have HSN:=lh hn;have HH:=lh hH;have HS2:=lh hS2;have HP:=lh hp;have HP2:=lh hp2;subst ht;clear hQ hr hB hd hdf hsee hn hal hw0 hnb hH hS2 hp hp2;unfold qd
 go_enter Tryz.func13,Tryz.ntmps13
 go_wp2_with fail
 rw [← HW0.out,← HNB.out];have BA0:=lh (Y8 w0.heap.size w0);have HT:=Zk Q0.out Zi;rw [HSEE.out Zi (by decide)] at HT;refine HT.mono ?_;rintro e wt1 ⟨rfl,hb⟩;have BA1:=zT BA0 hb;have Q1:=lh (Q0.out.below hb);clear hb HT;go_wp2_with fail
 have HT:=Z04 Q1.out Zs (HSEE.out Zs (by decide));refine HT.mono ?_;rintro e wt2 ⟨rfl,hb⟩;have BA2:=zT BA1 hb;have Q2:=lh (Q1.out.below hb);clear hb HT;go_wp2_with fail
 have HT:=Z04 Q2.out Ze (HSEE.out Ze (by decide));refine HT.mono ?_;rintro e wt3 ⟨rfl,hb⟩;have BA3:=zT BA2 hb;have Q3:=lh (Q2.out.below hb);clear hb HT;go_wp2_with fail
 have HT:=Z04 Q3.out s_if (HSEE.out s_if (by decide));refine HT.mono ?_;rintro e wt4 ⟨rfl,hb⟩;have BA4:=zT BA3 hb;have Q4:=lh (Q3.out.below hb);clear hb HT;go_wp2_with fail
 have HT:=Zk Q4.out Zz;rw [HSEE.out Zz (by decide)] at HT;refine HT.mono ?_;rintro e wt5 ⟨rfl,hb⟩;have BA5:=zT BA4 hb;have Q5:=lh (Q4.out.below hb);clear hb HT;go_wp2_with fail
 have HT:=Zk Q5.out Z0d;rw [HSN.out] at HT;refine HT.mono ?_;rintro e w3 ⟨rfl,hb⟩;have F3:=lh ((RFr.below (rb:=C.rb) BA5.out).trans (RFr.below hb));have Q3:=lh (Q5.out.below hb);clear hb HT Q5;have hG3:=G0.out.rfr HR.out F3.out;obtain ⟨y0,_,_,z0,_⟩:=hG3.cells;have z0:=z0 0;have K3:=Got.kind0 (k':=8) HR.out HB.out hG3 (F0.out.trans F3.out);have G4:=lh K3.1;have F4:=lh K3.2.1;have Q4:=lh (Q3.out.keep fun k hk=>K3.2.2 k (by have:=HR.out; omega));have hdd:=HD.out;clear hG3 K3;go_wp2_with fail
 have HT:=Zk Q4.out Z0d;rw [HSN.out] at HT;refine HT.mono ?_;rintro e w5 ⟨rfl,hb⟩;have Q5:=lh (Q4.out.below hb);have G5:=lh (G4.out.rfr HR.out (RFr.below (rb:=C.rb) hb));have F5:=lh (F4.out.trans (RFr.below (rb:=C.rb) hb));clear hb HT Q4 G4 F4 y0 z0;obtain ⟨y0,_,_,z0,hbl⟩:=G5.out.cells;have z0:=z0 0;have K5:=Got.kind0 (k':=9) HR.out HB.out G5.out F5.out;obtain ⟨W5,hW5⟩:=zX (w5.setCell ⟨nb,0,none⟩ (.int .i64 9))
 rw [← hW5] at K5;have G6:=lh K5.1;have F6:=lh K5.2.1;have Q6:=Q5.out.keep fun k hk=>K5.2.2 k (by have:=HR.out; omega);have HW5:=lh hW5;obtain ⟨i,hi,hA⟩:=Q6;have c1:=hA.c1;have z1:=hA.fz 1;rw [hW5] at c1 z1;clear K5 hW5 hbl;have hk:(hdT (C.L.drop i)).kind≠6:=by rw [← hi]; exact Z54 (Z31 HSN.out)
 have hadv:=QS.adv hA (x:=(i:Int) + 1) hk rfl;have e:(⟨C.L.drop i,σ.f⟩:RS)=σ:=by rw [← hi]
 rw [e] at hadv;have Q7:=lh hadv;have F57:=(RFr.of_set (w:=W5) (rb:=C.rb) 1 (.int .i64 ((i:Int) + 1)))
 have F7:=lh (F6.out.trans F57);have G7:=lh (G6.out.rfr HR.out F57);have hil:=hA.lt;have hfew:=hA.few;have HIL:=lh (show (i:Int) < 4000 by omega);clear hA hi hk hadv e F57 hil hfew;have hil:=HIL.out;have hdd:=HD.out;go_wp2_with fail
 rw [← HW5.out];refine (HH.out _ C B d _ _ _ Q7.out HR.out (Ya HB.out F7.out.size) (by have:=HDF.out; omega) HP.out).mono ?_;rintro e w8 ⟨a,rfl,h8,q8,f8⟩;have A8:=lh h8;have Q8:=lh q8;have F8:=lh f8;clear h8 q8 f8 c1 z1 y0 z0;go_wp2_with fail
 refine (HS2.out w8 C B d _ _ _ Q8.out HR.out (Ya HB.out (F7.out.trans F8.out).size) (by have:=HDF.out; omega) HP2.out).mono ?_;rintro e w9 ⟨c,rfl,h9,q9,f9⟩;obtain ⟨⟨y3,z3⟩,g1,g2,g3⟩:=Got.giveKids HR.out HB.out G7.out F7.out (F8.out.trans f9) (KidsAt.two (A8.out.rfr HR.out f9) (fun x hx=>(A8.out.new x hx).2) F8.out.size h9) (by simp) #[.pointer (some ⟨a.b,0,none⟩),.pointer (some ⟨c.b,0,none⟩)] rfl 2 rfl;have G10:=lh g1;have F10:=lh g2;have Q10:=lh (q9.keep fun k hk=>g3 k (by have:=HR.out; omega));clear h9 q9 f9 g1 g2 g3;go_wp2;go_ret
 exact ⟨_,rfl,G10.out,Q10.out,F10.out⟩
theorem Zke (f:Nat) (hH:Z1s 38 qd .head f) (hS2:Z1s 39 qd .stmt2 f) (x y:Tree) (σ1:RS) (w:World) (C:QC) (B d:Nat) (σ:RS) (t:Tree) (σ':RS) (hQ:QS w C σ) (hr:C.rb < B) (hB:B≤w.heap.size) (hd:d≤30) (hdf:d + (f + 1)≤1000000000000) (hsee:∀ s:ByteArray,s≠s_if→Zl s σ=false) (hn:Zl s_if σ=true) (ht:t=.mk 7 ByteArray.empty 0 [x,y]) (hel:Zl Z1y σ'=false) (hp:refF f .head d (advR σ)=some (x,σ1)) (hp2:refF f .stmt2 d σ1=some (y,σ')) :
 Calls Tryz.prog 13 (qd C.rb d) w (Z27 w C B t σ'):=by
 have n30:¬ (d:Int) > 30:=by omega
 obtain ⟨nb,hnb⟩:=zX w.heap.size
 obtain ⟨w0,hw0⟩:=zX (w.alloc (.cells #[.int .i64 0,.string ⟨#[]⟩,.int .i64 0,.slice none 0 0] 38))
 have hal:Below w.heap.size w w0:=by rw [hw0]; exact (Y8 _ _).alloc (Y5 _) _
 have Q0:=lh (hQ.below hal);have F0:=lh (RFr.below (rb:=C.rb) hal);have G0:=lh (show Got w B w0 (.mk nb (.slice none 0 0) 0 ⟨#[]⟩ 0 []) (.mk 0 ⟨#[]⟩ 0 []) by rw [hw0,hnb]; exact Got.leaf hB (RFr.refl w C.rb));have HR:=lh hr;have HB:=lh hB;have HW0:=lh hw0;have HNB:=lh hnb;have HNBW:=lh (show nb < w0.heap.size by rw [hw0,hnb]; simp);have HD:=lh hd;have HDF:=lh hdf;have HSEE:=lh hsee;have HSN:=lh hn;have HH:=lh hH;have HS2:=lh hS2;have HP:=lh hp;have HP2:=lh hp2;subst ht;have HEL:=lh hel;clear hQ hr hB hd hdf hsee hn hal hw0 hnb hH hS2 hp hp2 hel;unfold qd
 go_enter Tryz.func13,Tryz.ntmps13
 go_wp2_with fail
 rw [← HW0.out,← HNB.out];have BA0:=lh (Y8 w0.heap.size w0);have HT:=Zk Q0.out Zi;rw [HSEE.out Zi (by decide)] at HT;refine HT.mono ?_;rintro e wt1 ⟨rfl,hb⟩;have BA1:=zT BA0 hb;have Q1:=lh (Q0.out.below hb);clear hb HT;go_wp2_with fail
 have HT:=Z04 Q1.out Zs (HSEE.out Zs (by decide));refine HT.mono ?_;rintro e wt2 ⟨rfl,hb⟩;have BA2:=zT BA1 hb;have Q2:=lh (Q1.out.below hb);clear hb HT;go_wp2_with fail
 have HT:=Z04 Q2.out Ze (HSEE.out Ze (by decide));refine HT.mono ?_;rintro e wt3 ⟨rfl,hb⟩;have BA3:=zT BA2 hb;have Q3:=lh (Q2.out.below hb);clear hb HT;go_wp2_with fail
 have HT:=Z1i Q3.out s_if;rw [HSN.out,Yb rfl] at HT;refine HT.mono ?_;rintro e w3 ⟨rfl,h3,f3⟩;have Q3:=lh h3;have F3:=lh ((RFr.below (rb:=C.rb) BA3.out).trans f3);clear h3 f3 HT;have hG3:=G0.out.rfr HR.out F3.out;obtain ⟨y0,_,_,z0,_⟩:=hG3.cells;have z0:=z0 0;have K3:=Got.kind0 (k':=7) HR.out HB.out hG3 (F0.out.trans F3.out);have G4:=lh K3.1;have F4:=lh K3.2.1;have Q4:=lh (Q3.out.keep fun k hk=>K3.2.2 k (by have:=HR.out; omega));have hdd:=HD.out;clear hG3 K3;go_wp2_with fail
 refine (HH.out _ C B d _ _ _ Q4.out HR.out (Ya HB.out F4.out.size) (by have:=HDF.out; omega) HP.out).mono ?_;rintro e w8 ⟨a,rfl,h8,q8,f8⟩;have A8:=lh h8;have Q8:=lh q8;have F8:=lh f8;clear h8 q8 f8 y0 z0;go_wp2_with fail
 refine (HS2.out w8 C B d _ _ _ Q8.out HR.out (Ya HB.out (F4.out.trans F8.out).size) (by have:=HDF.out; omega) HP2.out).mono ?_;rintro e w9 ⟨c,rfl,h9,q9,f9⟩;obtain ⟨⟨y3,z3⟩,g1,g2,g3⟩:=Got.giveKids HR.out HB.out G4.out F4.out (F8.out.trans f9) (KidsAt.two (A8.out.rfr HR.out f9) (fun x hx=>(A8.out.new x hx).2) F8.out.size h9) (by simp) #[.pointer (some ⟨a.b,0,none⟩),.pointer (some ⟨c.b,0,none⟩)] rfl 2 rfl;have G10:=lh g1;have F10:=lh g2;have Q10:=lh (q9.keep fun k hk=>g3 k (by have:=HR.out; omega));clear h9 q9 f9 g1 g2 g3;go_wp2_with fail
 refine (Z04 Q10.out Z1y HEL.out).mono ?_;rintro e w11 ⟨rfl,hb⟩;have G11:=lh (G10.out.rfr HR.out (RFr.below (rb:=C.rb) hb));have Q11:=lh (Q10.out.below hb);have F11:=lh (F10.out.trans (RFr.below (rb:=C.rb) hb));clear hb y3 z3;go_wp2;go_ret;exact ⟨_,rfl,G11.out,Q11.out,F11.out⟩
end Go.Proofs.YtmeiggjboakmpaaGreatDoor
