/- Package tree: statements of a whole program. -/
import Derived.Test.YtajomcjaljakhaaGreatDoorJ12
namespace Go.Proofs.YtajomcjaljakhaaGreatDoor
open Go Go.RowKit
set_option maxRecDepth 100000
set_option maxHeartbeats 20000000
set_option linter.unusedVariables false
theorem Zg6 (F:Nat) (hS:∀ g,g < F→Says 75 rArg .stmt g) :
 Says 32 (fun rb=>#[.pointer (some ⟨rb,0,none⟩),.int .i64 1,.string ⟨#[]⟩]) (.stmts 1 []) F:=by
 intro w rb B d ts r hP hp;have HC:=lh (Z0e w rb 1 ⟨#[]⟩ none 0 0);have HP:=lh hP;have HQ:=lh hp;have HS:=lh hS;have hmf:∀ (fn:Fn) (first cap:Array Value) (w:World),(Instr.makeFunc fn first cap).run Tryz.prog w=.ok (.func fn first cap) w:=fun _ _ _ _=>rfl;obtain ⟨nb,hnb⟩:=zX w.heap.size
 have G0:=Got.leaf (k:=1) (t:=⟨#[]⟩) (n:=0) hP.le (RFr.refl w rb);have R0:=hP.rd.below ((Y8 _ _).alloc (Y5 _) (.cells #[.int .i64 1,.string ⟨#[]⟩,.int .i64 0,.slice none 0 0] 50));have F0:RFr w (w.alloc (.cells #[.int .i64 1,.string ⟨#[]⟩,.int .i64 0,.slice none 0 0] 50)) rb:=RFr.below ((Y8 _ _).alloc (Y5 _) _);rw [← hnb] at G0 HC;clear hP hp hS;simp only;go_enter Tryz.func32,Tryz.ntmps32
 go_wp2_with fail
 refine HC.out.mono ?_;rintro e w1 ⟨rfl,hw1⟩;rw [← hw1] at G0 R0 F0;have hst:∃ (g:Nat) (acc:List Tree) (us:List Tok) (v:Value) (kids:List ATree),g≤F∧Z3 g (.stmts 1 acc) d us=some r∧Got w B w1 (.mk nb v 1 ⟨#[]⟩ 0 kids) (.mk 1 ⟨#[]⟩ 0 acc)∧Rd w1 rb us d∧RFr w w1 rb∧acc.length + us.length≤ts.length∧(∀ x∈acc,x.kind=15→x.kids≠[]):=
  ⟨F,[],ts,_,[],Y5 _,HQ.out,G0,R0,F0,by simp,fun x hx=>by cases hx⟩
 have ST:=lh hst;have HNB:=lh hnb;clear hst hw1 G0 R0 F0 HC hnb;go_wp2_with fail
 go_loopw [] (fun wr=>∃ (g:Nat) (acc:List Tree) (us:List Tok) (v:Value) (kids:List ATree),g≤F∧Z3 g (.stmts 1 acc) d us=some r∧Got w B wr (.mk nb v 1 ⟨#[]⟩ 0 kids) (.mk 1 ⟨#[]⟩ 0 acc)∧Rd wr rb us d∧RFr w wr rb∧acc.length + us.length≤ts.length∧(∀ x∈acc,x.kind=15→x.kids≠[])) (fun wr=>leftOf wr rb)
 case atStart=>exact ST.out
 case round=>
  obtain ⟨g,acc,us,v,kids,hg,hq,hG,hR,hF,hl,hx⟩:=hrel;have G:=lh hG;have R:=lh hR;have FF:=lh hF;have HX:=lh hx;have RL:=lh hR.left;cases g with
  | zero=>cases hq
  | succ g=>
  rw [Z3] at hq;obtain ⟨tb,off,cpp,hh⟩:=hR;have c0:=hh.c0;have k0:=hh.hd (j:=0) (x:=.int .i64 (hdT us).kind) rfl;rw [Nat.add_zero] at k0;have hps:=hh.pos;clear hh;by_cases hb:(hdT us).kind=6
  ·have nk : ((hdT us).kind != 6) = false := by simp [hb]
   rw [Yb (by rw [Yb rfl]; simpa using hb)] at hq;have hr:=Yk hq;have HRr:=lh hr.symm;clear hG hF hq hr hb hx ST;have hB2:Below wr.heap.size wr wr:=Y8 _ _;have hlt:=HP.out.lt;have F2:=lh (FF.out.trans (RFr.below (rb:=rb) hB2));have G2:=lh (G.out.rfr hlt (RFr.below (rb:=rb) hB2));have R2:=lh (R.out.below hB2);have hblk:=G2.out.at'.blkOf;have hrow:=G2.out.at'.rowOf;simp only [ATree.b,ATree.v,ATree.kind,ATree.text,ATree.n,ATree.kids] at hblk hrow;have n3:wr.cell? ⟨nb,3,none⟩=some v:=by simp [World.cell?,hblk]
   have nz:wr.frozen? ⟨nb,1,none⟩=false:=by simp [World.frozen?,hblk]
   have nc1:wr.cell? ⟨nb,1,none⟩=some (.string ⟨#[]⟩):=by simp [World.cell?,hblk]
   have htr:=G2.out.tree;simp only [ATree.tree,Tree.mk.injEq,true_and] at htr;have fin0:Z1u acc=false→Z06 w rb B d r (.returned (.pointer (some ⟨nb,0,none⟩))) wr:=fun h=>by
    rw [HRr.out,h];exact ⟨_,rfl,G2.out,R2.out,F2.out⟩
   have FIN0:=lh fin0;have fin1:Z1u acc=true→Z06 w rb B d r (.returned (.pointer (some ⟨nb,0,none⟩))) (wr.setCell ⟨nb,1,none⟩ (.string Z03)):=fun h=>by
    rw [HRr.out,h];obtain ⟨h1,h2,h3⟩:=Got.text (t':=Z03) hlt HP.out.le G2.out F2.out R2.out;exact ⟨_,rfl,h1,h3,h2⟩
   have FIN1:=lh fin1;have HTR:=lh htr;have hks:∀ a∈kids,TreeAt wr B a:=fun a ha=>G2.out.at'.kid (k:=a) ha;have HKS:=lh hks;clear hB2 hblk fin0 fin1 htr hks FF G R;cases kids with
   | nil =>
     have hs0:Z1u acc=false:=by rw [← HTR.out]; rfl
     have H0:=lh (FIN0.out hs0);clear hs0;rcases Zb hrow with ⟨rfl,_⟩ | ⟨g0,cap0,rfl,_,_,_⟩
     all_goals
      clear hrow;go_wp2;go_ret;exact H0.out
   | cons a0 ks =>
     rcases Zb hrow with ⟨_,h0⟩ | ⟨g0,cap0,rfl,k1,k2,k3⟩;·simp at h0
     have p0:=Zi hrow (g:=g0) rfl (i:=0) (x:=a0.ptr) rfl;have hT0:=HKS.out a0 (by simp);have hb0:=hT0.blkOf;have hr0:=hT0.rowOf;have hx0:=HX.out a0.tree (by rw [← HTR.out]; simp [Z0o]);obtain ⟨b0,v0,kd0,t0,n0,l0⟩:=a0;simp only [ATree.b,ATree.v,ATree.kind,ATree.text,ATree.n,ATree.kids,ATree.ptr,List.length_cons] at hb0 hr0 p0 k1 n3 ⊢;unfold maxLen at k2;have d0:wr.cell? ⟨b0,0,none⟩=some (.int .i64 kd0):=by simp [World.cell?,hb0]
     have d3:wr.cell? ⟨b0,3,none⟩=some v0:=by simp [World.cell?,hb0]
     by_cases h15:kd0=15
     ·subst h15;cases l0 with
      | nil=>exact absurd rfl (hx0 rfl)
      | cons x xs=>
      rcases Zb hr0 with ⟨_,h0⟩ | ⟨g1,cap1,rfl,j1,j2,j3⟩;·simp at h0
      have p1:=Zi hr0 (g:=g1) rfl (i:=0) (x:=x.ptr) rfl;have hb1:=(hT0.kid (k:=x) (by simp [ATree.kids])).blkOf;obtain ⟨b1,v1,kd1,t1,n1,l1⟩:=x;simp only [ATree.b,ATree.v,ATree.kind,ATree.text,ATree.n,ATree.ptr,List.length_cons] at hb1 p1 j1 d3;unfold maxLen at j2;have e0:wr.cell? ⟨b1,0,none⟩=some (.int .i64 kd1):=by simp [World.cell?,hb1]
      have e1:wr.cell? ⟨b1,1,none⟩=some (.string t1):=by simp [World.cell?,hb1]
      have hstr:Z1u acc=(decide (kd1=18) && Zp t1 Z0c):=by rw [← HTR.out]; rfl
      have HST:=lh hstr;clear hrow hr0 hT0 hb0 hb1 hx0 hstr;by_cases h18:kd1=18
      ·subst h18;by_cases hus : t1 = Z0c
       ·subst hus;have H1:=lh (FIN1.out (by rw [HST.out]; simp [Zp]));unfold Z0c at e1;go_wp2;go_ret;exact H1.out
       ·have H0 := lh (FIN0.out (by rw [HST.out]; simp [Zp, hus]));have hne : ¬ t1.toList = Z0c.toList := fun h => hus (Z2i h);have hne2 : (t1.toList == Z0c.toList) = false := by simpa using hne
        have hl:Z0c.toList=[117,115,101,32,115,116,114,105,99,116]:=by rw [Lib.toList_data]; rfl
        have hne3:¬ t1.toList=[117,115,101,32,115,116,114,105,99,116]:=by rw [← hl]; exact hne
        have hne4:(t1.toList == [117,115,101,32,115,116,114,105,99,116])=false:=by simpa using hne3
        unfold Z0c at hne hne2;clear hus hl;go_wp2;go_ret;exact H0.out
      ·have n18 : (kd1 == 18) = false := by simpa using h18
       have H0:=lh (FIN0.out (by rw [HST.out]; simp [h18]));clear h18;go_wp2;go_ret;exact H0.out
     ·have n15 : (kd0 == 15) = false := by simpa using h15
      have H0:=lh (FIN0.out (by rw [← HTR.out]; cases l0 <;> simp [Z0o,ATree.tree,Z1u,h15]));clear hrow hr0 hT0 hb0 hx0 h15;go_wp2;go_ret;exact H0.out
  ·have nk : ((hdT us).kind != 6) = true := by simpa using hb
   rw [Y9 (by rw [Yb rfl]; simpa using hb)] at hq;have HQ2:=lh hq;clear hG hF hq hb hx ST;have hB2:Below wr.heap.size wr wr:=Y8 _ _;have F2:=FF.out.trans (RFr.below (rb:=rb) hB2);have G2:=G.out.rfr HP.out.lt (RFr.below (rb:=rb) hB2);have R2:=R.out.below hB2;have n3:wr.cell? ⟨nb,3,none⟩=some v:=by have:=G2.at'.blkOf; simp only [ATree.b,ATree.v,ATree.kind,ATree.text,ATree.n] at this; simp [World.cell?,this]
   have F2:=lh F2;have G2:=lh G2;have R2:=lh R2;clear hB2 FF G R;go_wp2_with fail
   refine Z0 [(true,0),(true,1),(true,2),(true,3),(true,4),(true,5),(true,6),(true,7),(false,8),(false,9),(false,10)] [11,12,13] (fun W=>W.cell? ⟨nb,3,none⟩=some v) (by kernel_rfl) (by kernel_rfl) (fun _ _ d _ _ h=>by cases d <;> exact h) n3 (fun hS0=>?_);simp only [Za,zD,zE,zF,zG,zH,zI]
   iterate 8
    first
     | (refine Z1 ?_ (by rfl) (fun w' hS'=>?_) ?_; rotate_left; (have s0:=hS'; go_simp; first | done | with_reducible rfl); simp only [Act.put,zA,zB,zC])
     | (refine Z2 (by rfl) ?_; simp only [Act.put,zA,zB,zC])
   refine Z6 (fun K hK=>?_);go_simp
   have hlt:=HP.out.lt;have hRF2:RFr wr wr.drew rb:=(RFr.refl wr rb).drew;have hus:us.length≤4000:=by have:=HP.out.few; omega
   have hle2:B≤wr.drew.heap.size:=Ya HP.out.le F2.out.size;rcases Zr HQ2.out with ⟨⟨c,p⟩,hv,rfl⟩ | ⟨t,vs,hv,hq3⟩
   ·refine (Z0b wr.drew rb B us d _ _ R2.out.drew (by have:=HP.out.deep; omega) hlt hv fun hd h1 w1 hR1 hs=>HS.out g (by omega) w1 rb B (d + 1) us _ ⟨hR1,hd,hlt,by omega,hus⟩ h1).mono ?_;rintro e w3 ⟨⟨b,rfl,h1,h2⟩,hF3⟩;exact ⟨rfl,Z06.pre F2.out.drew (r:=.error (c,p)) ⟨⟨b,rfl,h1,h2⟩,hF3⟩⟩
   ·have hvl:vs.length < us.length:=Leaves.within (Z1p g .stmt (d + 1) us) t vs hv;have hvx:t.kind=15→t.kids≠[]:=by
     unfold Z0l at hv;by_cases h30:30 < d + 1;·rw [Yb h30] at hv; cases hv
     ·rw [Y9 h30] at hv;cases g with
      | zero=>cases hv
      | succ g=>exact Zca hv
    have HVX:=lh hvx;have HQ3:=lh hq3;refine (Z0b wr.drew rb B us d _ _ R2.out.drew (by have:=HP.out.deep; omega) hlt hv fun hd h1 w1 hR1 hs=>HS.out g (by omega) w1 rb B (d + 1) us _ ⟨hR1,hd,hlt,by omega,hus⟩ h1).mono ?_;rintro e w3 ⟨a,rfl,hA,hR3,hF3⟩;have hF23:RFr wr w3 rb:=hRF2.trans hF3;have hN3:=G2.out.rfr hlt hF23;have hblk:=hN3.at'.blkOf;simp only [ATree.b,ATree.v,ATree.kind,ATree.text,ATree.n] at hblk;have m3:w3.cell? ⟨nb,3,none⟩=some v:=by simp [World.cell?,hblk]
    have mz:w3.frozen? ⟨nb,3,none⟩=false:=by simp [World.frozen?,hblk]
    have hnb3:nb < w3.heap.size:=(Y6.1 hblk).1;have hnd:=hN3.nodup;simp only [ATree.blocks,List.nodup_cons,List.mem_append,Option.mem_toList,not_or] at hnd;have hne:v.ownBlock≠some nb:=hnd.1.1;have hkl:kids.length=acc.length:=by
     have:=hN3.tree;simp only [ATree.tree,Tree.mk.injEq,true_and] at this;rw [← this,Z25,Yv]
    have hk4:kids.length≤4000:=by have:=HP.out.few; omega
    have N3:=lh hN3;have A3:=lh hA;have R3:=lh hR3;have F3:=lh (F2.out.trans hF23);have NE:=lh hne;have HKL:=lh hkl;refine hK _ _ m3 ?_;obtain ⟨i0,hi,hz0,hz1,hz2⟩:=info_parts Tryz.infoPtr;clear hK K hA hR3 hF3 hF23 hN3 hblk hnd hne hvx hq3 hv hkl n3 hRF2;refine Z6 (fun K hK=>?_);go_simp
    refine hK _ _ ((Z5 hnb3).trans m3) ?_;clear hK K;refine Z6 (fun K hK=>?_);refine step_append_lies _ (by rfl) (.tmp 37) (.tmp 42) 47 (by rfl) B 22 i0 _ 1 8 Tryz.underlying47 hi hz0 hz1 hz2 rfl (by decide) v kids.length (kids.map ATree.ptr) (by rfl) (N3.out.at'.rowOf.alloc _) ⟨w3.heap.size,0,none⟩ 1 1 [a.ptr] (by rfl) rfl (Yi (cs:=#[a.ptr]) (t:=22) (fr:=(0,0)) (heap_alloc_new w3 _)) (by simp [ATree.ptr,Value.oneCell']) (by decide) (by unfold maxLen; omega) (by omega) (by simp; have:=F3.out.size; have:=HP.out.le; omega) (w3.heap.size + 1) (by simp) ?_
    intro gg cap w4 hown4 hgrow4 hat4 hlt4;have m4:w4.cell? ⟨nb,3,none⟩=some v:=(hgrow4.cell_far ⟨nb,3,none⟩ (by simp; omega) (fun e=>NE.out e.symm)).trans ((Z5 hnb3).trans m3);have mz4:w4.frozen? ⟨nb,3,none⟩=false:=(hgrow4.frozen_far ⟨nb,3,none⟩ (by simp; omega) (fun e=>NE.out e.symm)).trans ((Zz hnb3).trans mz);refine hK _ _ m4 ?_;clear hK K;simp only [Act.put,zA,zB,zC]
    have hfin:=Got.push hlt HP.out.le N3.out (wA:=wr.drew) (fun x hx=>(G2.out.new x hx).2) A3.out F3.out R3.out ((Y8 _ _).alloc (Y5 _) _) hgrow4 hown4 (by rcases hat4 with h | h; (exact .inl h); (exact .inr (by omega))) hlt4;have FIN:=lh hfin;clear hgrow4 hown4 hat4 hlt4 hfin;refine Z4 ?_;go_wp2;go_roundw
    case rel=>
     refine ⟨g,acc ++ [t],vs,.slice (some ⟨gg,0,none⟩) (kids.length + 1) cap,kids ++ [a],by omega,HQ3.out,?_,FIN.out.2.2,FIN.out.2.1,by simp; omega,fun x hx=>?_⟩
     ·have h1:=FIN.out.1;have h2:=G2.out.tree;simp only [ATree.tree,Tree.mk.injEq,true_and] at h2;rw [h2] at h1;exact h1
     ·rcases List.mem_append.1 hx with hx | hx;·exact HX.out x hx
      ·simp only [List.mem_singleton] at hx; subst hx; exact HVX.out
    case measure=>
     rw [FIN.out.2.2.left,RL.out];exact hvl
def Z12 (ts:List Tree):ByteArray:=if Z1u ts then Z03 else ByteArray.empty
theorem Z50 (w0 w:World) (B:Nat) (v:Value) (kids:List ATree) (ts:List Tree) (L:ListAt w0 B w v kids ts) (hx:∀ x∈ts,x.kind=15→x.kids≠[]) :
 Calls Tryz.prog 28 #[v] w fun e w'=>e=.returned (.string (Z12 ts))∧Below w.heap.size w w':=by
 have HTR:=lh L.ks.tree;have HX:=lh hx;have hrow:=L.row;have HKS:=lh L.ks.at';clear hx L;cases kids with
 | nil =>
   have hs0:Z12 ts=ByteArray.empty:=by rw [← HTR.out]; rfl
   rw [hs0];clear HTR HX HKS hs0;rcases Zb hrow with ⟨rfl,_⟩ | ⟨g0,cap0,rfl,_,_,_⟩
   all_goals
    clear hrow;go_enter Tryz.func28,Tryz.ntmps28
    go_wp2;go_ret;exact ⟨rfl,Y8 _ _⟩
 | cons a0 ks =>
   rcases Zb hrow with ⟨_,h0⟩ | ⟨g0,cap0,rfl,k1,k2,k3⟩;·simp at h0
   have p0:=Zi hrow (g:=g0) rfl (i:=0) (x:=a0.ptr) rfl;have hT0:=HKS.out a0 (by simp);have hb0:=hT0.blkOf;have hr0:=hT0.rowOf;have hx0:=HX.out a0.tree (by rw [← HTR.out]; simp [Z0o]);obtain ⟨b0,v0,kd0,t0,n0,l0⟩:=a0;simp only [ATree.b,ATree.v,ATree.kind,ATree.text,ATree.n,ATree.kids,ATree.ptr,List.length_cons] at hb0 hr0 p0 k1 ⊢;unfold maxLen at k2;have d0:w.cell? ⟨b0,0,none⟩=some (.int .i64 kd0):=by simp [World.cell?,hb0]
   have d3:w.cell? ⟨b0,3,none⟩=some v0:=by simp [World.cell?,hb0]
   by_cases h15:kd0=15
   ·subst h15;cases l0 with
    | nil=>exact absurd rfl (hx0 rfl)
    | cons x xs=>
    rcases Zb hr0 with ⟨_,h0⟩ | ⟨g1,cap1,rfl,j1,j2,j3⟩;·simp at h0
    have p1:=Zi hr0 (g:=g1) rfl (i:=0) (x:=x.ptr) rfl;have hb1:=(hT0.kid (k:=x) (by simp [ATree.kids])).blkOf;obtain ⟨b1,v1,kd1,t1,n1,l1⟩:=x;simp only [ATree.b,ATree.v,ATree.kind,ATree.text,ATree.n,ATree.ptr,List.length_cons] at hb1 p1 j1 d3;unfold maxLen at j2;have e0:w.cell? ⟨b1,0,none⟩=some (.int .i64 kd1):=by simp [World.cell?,hb1]
    have e1:w.cell? ⟨b1,1,none⟩=some (.string t1):=by simp [World.cell?,hb1]
    have hstr:Z1u ts=(decide (kd1=18) && Zp t1 Z0c):=by rw [← HTR.out]; rfl
    have HST:=lh hstr;clear hrow hr0 hT0 hb0 hb1 hx0 hstr HTR HX HKS;by_cases h18:kd1=18
    ·subst h18;by_cases hus : t1 = Z0c
     ·subst hus;rw [show Z12 ts = Z03 from by unfold Z12; rw [HST.out]; simp [Zp]];unfold Z0c at e1;go_enter Tryz.func28, Tryz.ntmps28
      go_wp2;go_ret;exact ⟨rfl,Y8 _ _⟩
     ·rw [show Z12 ts = ByteArray.empty from by unfold Z12; rw [HST.out]; simp [Zp, hus]];have hne : ¬ t1.toList = Z0c.toList := fun h => hus (Z2i h);have hl : Z0c.toList = [117, 115, 101, 32, 115, 116, 114, 105, 99, 116] := by rw [Lib.toList_data]; rfl
      have hne3:¬ t1.toList=[117,115,101,32,115,116,114,105,99,116]:=by rw [← hl]; exact hne
      have hne4:(t1.toList == [117,115,101,32,115,116,114,105,99,116])=false:=by simpa using hne3
      clear hus hl hne;go_enter Tryz.func28,Tryz.ntmps28
      go_wp2;go_ret;exact ⟨rfl,Y8 _ _⟩
    ·have n18 : (kd1 == 18) = false := by simpa using h18
     rw [show Z12 ts=ByteArray.empty from by unfold Z12; rw [HST.out]; simp [h18]];clear h18;go_enter Tryz.func28,Tryz.ntmps28
     go_wp2;go_ret;exact ⟨rfl,Y8 _ _⟩
   ·have n15 : (kd0 == 15) = false := by simpa using h15
    rw [show Z12 ts=ByteArray.empty from by unfold Z12; rw [← HTR.out]; cases l0 <;> simp [Z0o,ATree.tree,Z1u,h15]];clear hrow hr0 hT0 hb0 hx0 h15 HTR HX HKS;go_enter Tryz.func28,Tryz.ntmps28
    go_wp2;go_ret;exact ⟨rfl,Y8 _ _⟩
theorem Zbx {f d:Nat} {b:Bool} {σ σ':RS} {t:Tree} (h:refF f (.braces b) d σ=some (t,σ')):t.kind=6:=by
 cases f with
 | zero=>simp [refF] at h
 | succ f =>
   rw [refF] at h;obtain ⟨l,σ1,_,h⟩:=Zf h;simp only [Option.some.injEq,Prod.mk.injEq] at h;rw [← h.1]; rfl
theorem Zfx {f d:Nat} {k:Int} {s:ByteArray} {σ σ':RS} {t:Tree} (h:refF f (.func k s) d σ=some (t,σ')):t.kind=k:=by
 cases f with
 | zero=>simp [refF] at h
 | succ f =>
   rw [refF] at h;obtain ⟨l,σ1,_,h⟩:=Zf h;obtain ⟨l,σ1,_,h⟩:=Zf h;simp only [Option.some.injEq,Prod.mk.injEq] at h;rw [← h.1]; rfl
theorem Zjc (σ:RS):Z3z σ≠15:=by
 unfold Z3z;split;·decide
 ·split;·decide
  ·split <;> decide
theorem Z7g {a t:Tree} {σ σ':RS} (h:some (a,σ)=some (t,σ')):a=t:=by simp only [Option.some.injEq,Prod.mk.injEq] at h; exact h.1
theorem Z7e {f d:Nat} {σ σ':RS} {t:Tree} (h:refF f .stmt d σ=some (t,σ')) (hk:t.kind=15):t.kids≠[]:=by
 cases f with
 | zero=>simp [refF] at h
 | succ f=>
 rw [refF] at h;by_cases c:30 < d
 ·rw [Yb c] at h;rw [← Z7g h] at hk; cases hk
 rw [Y9 c] at h;by_cases c:Ze Zc σ=true;·rw [Yb c] at h; have:=Zbx h; omega
 rw [Y9 c] at h;by_cases c:Ze Zh σ=true;·rw [Yb c] at h; rw [← Z7g h] at hk; cases hk
 rw [Y9 c] at h;by_cases c:Ze Z9 σ=true;·rw [Yb c] at h; have:=Zfx h; omega
 rw [Y9 c] at h;by_cases c:Ze s_if σ=true
 ·rw [Yb c] at h;obtain ⟨_, _, _, h⟩ := Zf h;obtain ⟨_, σ2, _, h⟩ := Zf h;try simp only at h
  split at h
  ·obtain ⟨_,_,_,h⟩:=Zf h;rw [← Z7g h] at hk; cases hk
  ·rw [← Z7g h] at hk; cases hk
 rw [Y9 c] at h;by_cases c:(Ze Zu σ || Ze Z05 σ)=true
 ·rw [Yb c] at h;obtain ⟨_,_,_,h⟩:=Zf h;obtain ⟨_,_,_,h⟩:=Zf h;rw [← Z7g h] at hk;simp only [Tree.kind] at hk;split at hk <;> cases hk
 rw [Y9 c] at h;by_cases c:Ze Z26 σ=true
 ·rw [Yb c] at h;obtain ⟨_,_,_,h⟩:=Zf h;have key:∀ (l:List Tree) (σ1:RS),(if Ze Zx σ1=true then Z02 (refF f (.braces false) d (advR σ1)) fun c σ=>tryF (l ++ [.mk 14 ByteArray.empty 0 [c]]) σ else tryF l σ1)=some (t,σ')→t.kind=12:=by
   intro l σ1 h;split at h
   ·obtain ⟨_,_,_,h⟩:=Zf h;unfold tryF at h;rw [← Z7g h]; rfl
   ·unfold tryF at h;rw [← Z7g h]; rfl
  try simp only at h
  split at h
  ·obtain ⟨_,_,_,h⟩:=Zf h;have:=key _ _ h; omega
  ·have:=key _ _ h; omega
 rw [Y9 c] at h;by_cases c:Z3z σ≠0
 ·rw [Yb c] at h;have hd := Zjc σ;split at h
  ·obtain ⟨_,_,_,h⟩:=Zf h;rw [← Z7g h] at hk; exact absurd hk hd
  ·rw [← Z7g h] at hk; exact absurd hk hd
 rw [Y9 c] at h;by_cases c:Ze Z0d σ=true
 ·rw [Yb c] at h;split at h;·rw [← Z7g h] at hk; cases hk
  ·obtain ⟨_,_,_,h⟩:=Zf h;rw [← Z7g h] at hk; cases hk
 rw [Y9 c] at h;by_cases c:Ze Z1n σ=true
 ·rw [Yb c] at h;obtain ⟨_,_,_,h⟩:=Zf h;rw [← Z7g h] at hk; cases hk
 rw [Y9 c] at h;obtain ⟨_,_,_,h⟩:=Zf h;rw [← Z7g h];simp [Tree.kids]
def BInv (w0:World) (C:QC) (B d f:Nat) (t:Tree) (σ':RS) (g:Nat) (v:Value) (wr:World):Prop:=
 ∃ (acc:List Tree) (kids:List ATree) (σ:RS),refF g (.bracesL acc) d σ=some (t,σ')∧ListAt w0 B wr v kids acc∧QS wr C σ∧RFr w0 wr C.rb∧acc.length + g≤f∧∀ x∈acc,x.kind=15→x.kids≠[]
theorem Z9x (f:Nat) (hS:∀ g,g < f→Z16 27 qd .stmt g):Z16 56 (Zb2 false) (.braces false) (f + 1):=by
 intro w C B d σ t σ' hQ hr hB hd hp;rw [refF] at hp;obtain ⟨l,σ1,hl,hp⟩:=Zf hp;simp only [Option.some.injEq,Prod.mk.injEq] at hp;have HP:=lh hp;have HM:=lh (Z09 hQ Zc B hr hB);have HR:=lh hr;have HB:=lh hB;have HD:=lh hd;have HS:=lh hS;have HL:=lh hl;clear hQ hB hr hp hd hS hl;unfold Zb2;go_enter Tryz.func56,Tryz.ntmps56
 go_wp2_with fail
 refine HM.out.mono ?_;rintro e w0 ⟨rfl,h1,h2⟩;have ST:=lh (show ∃ g,g≤f∧BInv w0 C B d f l σ1 g (.slice none 0 0) w0 from ⟨f,Y5 _,[],[],_,HL.out,ListAt.nil,h1,RFr.refl _ _,by simp,fun x hx=>by cases hx⟩);have F0:=lh h2;clear h1 h2 HM;go_wp2_with fail
 go_loopw [7] (fun v wr=>∃ g,g≤f∧BInv w0 C B d f l σ1 g v wr) (fun v wr=>least fun g=>g≤f∧BInv w0 C B d f l σ1 g v wr)
 case atStart=>exact ST.out
 case round=>
  have hI:=Z3o hrel;clear ST;obtain ⟨g,hg⟩:=zX (least fun g=>g≤f∧BInv w0 C B d f l σ1 g u7 wr)
  rw [← hg] at hI;have HG:=lh hg;clear hg hrel;obtain ⟨hgF,acc,kids,σ,hp,hL,hQ,hF,h8,hx⟩:=hI;cases g with
  | zero=>simp [refF] at hp
  | succ g=>
  rw [refF] at hp;have HO:=Z22 hQ;have HN:=Zd hQ Zl;obtain ⟨p,cp,rfl⟩:=hL.slice;have HL:=lh hL;have HQ:=lh hQ;have HF:=lh hF;have H8:=lh h8;have HX:=lh hx;have HGF:=lh hgF;by_cases hf:σ.f.isNone=true;rotate_left
  ·have hf : σ.f.isNone = false := Bool.eq_false_iff.2 hf;rw [hf] at HO;rw [Y9 (by simp [hf])] at hp;simp only [Option.some.injEq, Prod.mk.injEq] at hp;have HO := lh HO;have HE := lh hp;have F1 := HF;have Q1 := HQ;clear hL hQ hF h8 hgF hf hp HN hx;go_wp2_with fail
   refine HO.out.mono ?_;rintro e w1 ⟨rfl,rfl⟩;go_wp2_with fail
   refine (Z09 Q1.out Zl B HR.out (Ya HB.out (F0.out.trans F1.out).size)).mono ?_;rintro e w2 ⟨rfl,h2,h3⟩;have F2:=lh ((F0.out.trans F1.out).trans h3);have L2:=lh (HL.out.rfr HR.out h3);have hal:Below w2.heap.size w2 (w2.alloc (.cells #[.int .i64 6,.string ⟨#[]⟩,.int .i64 0,.slice p acc.length cp] 50)):=(Y8 _ _).alloc (Y5 _) _;have N3:=lh ((L2.out.pre F0.out.size).node (k:=6) (tx:=⟨#[]⟩) (n:=0) (Ya HB.out F2.out.size) F2.out.size);have Q3:=lh (h2.below hal);have F3:=lh (F2.out.trans (RFr.below (rb:=C.rb) hal))
   have L3:=lh (L2.out.rfr HR.out (RFr.below (rb:=C.rb) hal));clear h2 h3 hal;go_wp2;go_ret;obtain ⟨h4,h5⟩:=HE.out;obtain ⟨h6,h7⟩:=HP.out;refine ⟨.mk w2.heap.size (.slice p acc.length cp) 6 ⟨#[]⟩ 0 kids,rfl,?_,by rw [← h7,← h5]; exact Q3.out,F3.out⟩;rw [← h6,← h4];exact N3.out
  rw [hf] at HO;by_cases hn:Ze Zl σ=true
  ·rw [hn] at HN;rw [Y9 (by simp [hn])] at hp;simp only [Option.some.injEq, Prod.mk.injEq] at hp;have HO := lh HO;have HN := lh HN;have HE := lh hp;clear hL hQ hF h8 hgF hf hn hp hx;go_wp2_with fail
   refine HO.out.mono ?_;rintro e w1 ⟨rfl,rfl⟩;go_wp2_with fail
   refine HN.out.mono ?_;rintro e w1 ⟨rfl,hb1⟩;have Q1:=lh (HQ.out.below hb1);have F1:=lh (HF.out.trans (RFr.below (rb:=C.rb) hb1));replace HL:=lh (HL.out.rfr HR.out (RFr.below (rb:=C.rb) hb1))
   clear hb1;go_wp2_with fail
   refine (Z09 Q1.out Zl B HR.out (Ya HB.out (F0.out.trans F1.out).size)).mono ?_;rintro e w2 ⟨rfl,h2,h3⟩;have F2:=lh ((F0.out.trans F1.out).trans h3);have L2:=lh (HL.out.rfr HR.out h3);have hal:Below w2.heap.size w2 (w2.alloc (.cells #[.int .i64 6,.string ⟨#[]⟩,.int .i64 0,.slice p acc.length cp] 50)):=(Y8 _ _).alloc (Y5 _) _;have N3:=lh ((L2.out.pre F0.out.size).node (k:=6) (tx:=⟨#[]⟩) (n:=0) (Ya HB.out F2.out.size) F2.out.size);have Q3:=lh (h2.below hal);have F3:=lh (F2.out.trans (RFr.below (rb:=C.rb) hal))
   have L3:=lh (L2.out.rfr HR.out (RFr.below (rb:=C.rb) hal));clear h2 h3 hal;go_wp2;go_ret;obtain ⟨h4,h5⟩:=HE.out;obtain ⟨h6,h7⟩:=HP.out;refine ⟨.mk w2.heap.size (.slice p acc.length cp) 6 ⟨#[]⟩ 0 kids,rfl,?_,by rw [← h7,← h5]; exact Q3.out,F3.out⟩;rw [← h6,← h4];exact N3.out
  have hn:Ze Zl σ=false:=by simpa using hn
  rw [hn] at HN;rw [Yb (by simp [hn,hf])] at hp;obtain ⟨x,σ3,hit,hrest⟩:=Zf hp;have IT:=lh hit;have RE:=lh hrest;have HO:=lh HO;have HN:=lh HN;have HK:=lh (hL.len);have XX:=lh (fun hk=>Z7e hit hk);obtain ⟨i0,hi,hz0,hz1,hz2⟩:=info_parts Tryz.infoPtr;clear hL hQ hF h8 hgF hn hp hit hrest hx hf;go_wp2_with fail
  refine HO.out.mono ?_;rintro e w1 ⟨rfl,rfl⟩;go_wp2_with fail
  refine HN.out.mono ?_;rintro e w1 ⟨rfl,hb1⟩;have Q1:=lh (HQ.out.below hb1);have F1:=lh (HF.out.trans (RFr.below (rb:=C.rb) hb1));have L1:=lh (HL.out.rfr HR.out (RFr.below (rb:=C.rb) hb1));have hdd:=HD.out;clear hb1 HO HN HQ HF HL;go_wp2_with fail
  refine (HS.out g (by have:=HGF.out; omega) w1 C B (d + 1) _ _ _ Q1.out HR.out (Ya HB.out (F0.out.trans F1.out).size) (by have:=HGF.out; omega) IT.out).mono ?_;rintro e w2 ⟨a,rfl,h2,h3,h4⟩;have A2:=lh h2;have Q2:=lh h3;have F2:=lh h4;have L2:=lh (L1.out.rfr HR.out h4);clear h2 h3 h4 Q1
  go_wp2_with (at_builtin; go_must (refine wpList_append_lies _ rfl (.tmp 18) (.tmp 23) 47 rfl B 22 i0 _ 1 8 Tryz.underlying47 hi hz0 hz1 hz2 rfl (by decide) (.slice p acc.length cp) kids.length (kids.map ATree.ptr) rfl (L2.out.row.alloc _) ⟨w2.heap.size,0,none⟩ 1 1 [a.ptr] rfl rfl (Yi (cs:=#[a.ptr]) (t:=22) (fr:=(0,0)) (heap_alloc_new w2 _)) (by simp [ATree.ptr,Value.oneCell']) (by decide) (by have:=HK.out; have:=H8.out; unfold maxLen; omega) (by have:=HK.out; have:=H8.out; omega) (by simp; have:=F0.out.size; have:=F1.out.size; have:=F2.out.size; have:=HB.out; omega) (w2.heap.size + 1) (by simp) ?_); intro gg cap w4 hown2 hgrow2 hat2 hgl2)
  have hpush:=L2.out.push (wA:=w1) (fun y hy=>(L1.out.ks.new y hy).2) (fun y hy=>(L1.out.own y hy).2.1) A2.out F1.out.size F2.out.size ((Y8 _ _).alloc (Y5 _) _) hgrow2 hown2 (by rcases hat2 with h | h; (exact .inl h); (exact .inr (by omega))) hgl2 (F1.out.trans F2.out);have hinv:g≤f∧BInv w0 C B d f l σ1 g (.slice (some ⟨gg,0,none⟩) (kids.length + 1) cap) w4:=
   ⟨by have := HGF.out; omega, acc ++ [x], kids ++ [a], σ3, RE.out, hpush.1, Q2.out.keep fun k hk => hpush.2.1 k (by have := Q2.out.rlt; omega) (fun e => by have h1 := (L2.out.own k e).1; have h2 := HR.out; have h3 := HB.out; have h4 := F0.out.size; omega), hpush.2.2.2, by have := H8.out; simp; omega, fun y hy => by
    rcases List.mem_append.1 hy with hy | hy;·exact HX.out y hy
    ·simp only [List.mem_singleton] at hy; subst hy; exact XX.out⟩
  exact ⟨⟨g,hinv⟩,by rw [← HG.out]; exact Nat.lt_succ_of_le (Z37 hinv)⟩
theorem Zb7 (f:Nat) (hS:∀ g,g < f→Z16 27 qd .stmt g):Z16 56 (Zb2 true) (.braces true) (f + 1):=by
 intro w C B d σ t σ' hQ hr hB hd hp;rw [refF] at hp;obtain ⟨l,σ1,hl,hp⟩:=Zf hp;simp only [Option.some.injEq,Prod.mk.injEq] at hp;have HP:=lh hp;have HM:=lh (Z09 hQ Zc B hr hB);have HR:=lh hr;have HB:=lh hB;have HD:=lh hd;have HS:=lh hS;have HL:=lh hl;clear hQ hB hr hp hd hS hl;unfold Zb2;go_enter Tryz.func56,Tryz.ntmps56
 go_wp2_with fail
 refine HM.out.mono ?_;rintro e w0 ⟨rfl,h1,h2⟩;have ST:=lh (show ∃ g,g≤f∧BInv w0 C B d f l σ1 g (.slice none 0 0) w0 from ⟨f,Y5 _,[],[],_,HL.out,ListAt.nil,h1,RFr.refl _ _,by simp,fun x hx=>by cases hx⟩);have F0:=lh h2;clear h1 h2 HM;go_wp2_with fail
 go_loopw [7] (fun v wr=>∃ g,g≤f∧BInv w0 C B d f l σ1 g v wr) (fun v wr=>least fun g=>g≤f∧BInv w0 C B d f l σ1 g v wr)
 case atStart=>exact ST.out
 case round=>
  have hI:=Z3o hrel;clear ST;obtain ⟨g,hg⟩:=zX (least fun g=>g≤f∧BInv w0 C B d f l σ1 g u7 wr)
  rw [← hg] at hI;have HG:=lh hg;clear hg hrel;obtain ⟨hgF,acc,kids,σ,hp,hL,hQ,hF,h8,hx⟩:=hI;cases g with
  | zero=>simp [refF] at hp
  | succ g=>
  rw [refF] at hp;have HO:=Z22 hQ;have HN:=Zd hQ Zl;obtain ⟨p,cp,rfl⟩:=hL.slice;have HL:=lh hL;have HQ:=lh hQ;have HF:=lh hF;have H8:=lh h8;have HX:=lh hx;have HGF:=lh hgF;by_cases hf:σ.f.isNone=true;rotate_left
  ·have hf : σ.f.isNone = false := Bool.eq_false_iff.2 hf;rw [hf] at HO;rw [Y9 (by simp [hf])] at hp;simp only [Option.some.injEq, Prod.mk.injEq] at hp;have HO := lh HO;have HE := lh hp;have F1 := HF;have Q1 := HQ;clear hL hQ hF h8 hgF hf hp HN hx;go_wp2_with fail
   refine HO.out.mono ?_;rintro e w1 ⟨rfl,rfl⟩;go_wp2_with fail
   refine (Z09 Q1.out Zl B HR.out (Ya HB.out (F0.out.trans F1.out).size)).mono ?_;rintro e w2 ⟨rfl,h2,h3⟩;have F2:=lh ((F0.out.trans F1.out).trans h3);have L2:=lh (HL.out.rfr HR.out h3);have hal:Below w2.heap.size w2 (w2.alloc (.cells #[.int .i64 6,.string ⟨#[]⟩,.int .i64 0,.slice p acc.length cp] 50)):=(Y8 _ _).alloc (Y5 _) _;have N3:=lh ((L2.out.pre F0.out.size).node (k:=6) (tx:=⟨#[]⟩) (n:=0) (Ya HB.out F2.out.size) F2.out.size);have Q3:=lh (h2.below hal);have F3:=lh (F2.out.trans (RFr.below (rb:=C.rb) hal))
   have L3:=lh (L2.out.rfr HR.out (RFr.below (rb:=C.rb) hal));clear h2 h3 hal;have HO3:=Z22 Q3.out;by_cases hok:(Z0a Zl σ).f.isNone=true
   ·rw [hok] at HO3;have HO3 := lh HO3;have HOK := lh hok;clear hok;go_wp2_with fail
    refine HO3.out.mono ?_;rintro e w3 ⟨rfl,rfl⟩;clear HO3;go_wp2_with fail
    refine (Z50 w0 _ B _ kids acc L3.out HX.out).mono ?_;rintro e w4 ⟨rfl,hb4⟩;have N4:=N3.out.rfr HR.out (RFr.below (rb:=C.rb) hb4);have F4:=F3.out.trans (RFr.below (rb:=C.rb) hb4);have Q4:=lh (Q3.out.below hb4);have hblk:=N4.at'.blkOf;simp only [ATree.b,ATree.v,ATree.kind,ATree.text,ATree.n] at hblk;have z1:w4.cell? ⟨w2.heap.size,1,none⟩=some (.string ⟨#[]⟩):=by simp [World.cell?,hblk]
    have zz:w4.frozen? ⟨w2.heap.size,1,none⟩=false:=by simp [World.frozen?,hblk]
    have FIN:=lh (Got.text0 (t':=Z12 acc) HR.out HB.out N4 F4);clear hb4 N4 F4 hblk;go_wp2;go_ret;obtain ⟨h4,h5⟩:=HE.out;obtain ⟨h6,h7⟩:=HP.out;obtain ⟨g1,g2,g3⟩:=FIN.out;refine ⟨.mk w2.heap.size (.slice p acc.length cp) 6 (Z12 acc) 0 kids,rfl,?_,by rw [← h7,← h5]; exact Q4.out.keep fun k hk=>g3 k (by have:=HR.out; omega),g2⟩;rw [← h5,HOK.out] at h6;rw [← h6,← h4];exact g1
   ·have hok : (Z0a Zl σ).f.isNone = false := Bool.eq_false_iff.2 hok;rw [hok] at HO3;have HO3 := lh HO3;have HOK := lh hok;clear hok;go_wp2_with fail
    refine HO3.out.mono ?_;rintro e w3 ⟨rfl,rfl⟩;clear HO3;go_wp2;go_ret;obtain ⟨h4,h5⟩:=HE.out;obtain ⟨h6,h7⟩:=HP.out;refine ⟨.mk w2.heap.size (.slice p acc.length cp) 6 ⟨#[]⟩ 0 kids,rfl,?_,by rw [← h7,← h5]; exact Q3.out,F3.out⟩;rw [← h5,HOK.out] at h6;rw [← h6,← h4];exact N3.out
  rw [hf] at HO;by_cases hn:Ze Zl σ=true
  ·rw [hn] at HN;rw [Y9 (by simp [hn])] at hp;simp only [Option.some.injEq, Prod.mk.injEq] at hp;have HO := lh HO;have HN := lh HN;have HE := lh hp;clear hL hQ hF h8 hgF hf hn hp hx;go_wp2_with fail
   refine HO.out.mono ?_;rintro e w1 ⟨rfl,rfl⟩;go_wp2_with fail
   refine HN.out.mono ?_;rintro e w1 ⟨rfl,hb1⟩;have Q1:=lh (HQ.out.below hb1);have F1:=lh (HF.out.trans (RFr.below (rb:=C.rb) hb1));replace HL:=lh (HL.out.rfr HR.out (RFr.below (rb:=C.rb) hb1))
   clear hb1;go_wp2_with fail
   refine (Z09 Q1.out Zl B HR.out (Ya HB.out (F0.out.trans F1.out).size)).mono ?_;rintro e w2 ⟨rfl,h2,h3⟩;have F2:=lh ((F0.out.trans F1.out).trans h3);have L2:=lh (HL.out.rfr HR.out h3);have hal:Below w2.heap.size w2 (w2.alloc (.cells #[.int .i64 6,.string ⟨#[]⟩,.int .i64 0,.slice p acc.length cp] 50)):=(Y8 _ _).alloc (Y5 _) _;have N3:=lh ((L2.out.pre F0.out.size).node (k:=6) (tx:=⟨#[]⟩) (n:=0) (Ya HB.out F2.out.size) F2.out.size);have Q3:=lh (h2.below hal);have F3:=lh (F2.out.trans (RFr.below (rb:=C.rb) hal))
   have L3:=lh (L2.out.rfr HR.out (RFr.below (rb:=C.rb) hal));clear h2 h3 hal;have HO3:=Z22 Q3.out;by_cases hok:(Z0a Zl σ).f.isNone=true
   ·rw [hok] at HO3;have HO3 := lh HO3;have HOK := lh hok;clear hok;go_wp2_with fail
    refine HO3.out.mono ?_;rintro e w3 ⟨rfl,rfl⟩;clear HO3;go_wp2_with fail
    refine (Z50 w0 _ B _ kids acc L3.out HX.out).mono ?_;rintro e w4 ⟨rfl,hb4⟩;have N4:=N3.out.rfr HR.out (RFr.below (rb:=C.rb) hb4);have F4:=F3.out.trans (RFr.below (rb:=C.rb) hb4);have Q4:=lh (Q3.out.below hb4);have hblk:=N4.at'.blkOf;simp only [ATree.b,ATree.v,ATree.kind,ATree.text,ATree.n] at hblk;have z1:w4.cell? ⟨w2.heap.size,1,none⟩=some (.string ⟨#[]⟩):=by simp [World.cell?,hblk]
    have zz:w4.frozen? ⟨w2.heap.size,1,none⟩=false:=by simp [World.frozen?,hblk]
    have FIN:=lh (Got.text0 (t':=Z12 acc) HR.out HB.out N4 F4);clear hb4 N4 F4 hblk;go_wp2;go_ret;obtain ⟨h4,h5⟩:=HE.out;obtain ⟨h6,h7⟩:=HP.out;obtain ⟨g1,g2,g3⟩:=FIN.out;refine ⟨.mk w2.heap.size (.slice p acc.length cp) 6 (Z12 acc) 0 kids,rfl,?_,by rw [← h7,← h5]; exact Q4.out.keep fun k hk=>g3 k (by have:=HR.out; omega),g2⟩;rw [← h5,HOK.out] at h6;rw [← h6,← h4];exact g1
   ·have hok : (Z0a Zl σ).f.isNone = false := Bool.eq_false_iff.2 hok;rw [hok] at HO3;have HO3 := lh HO3;have HOK := lh hok;clear hok;go_wp2_with fail
    refine HO3.out.mono ?_;rintro e w3 ⟨rfl,rfl⟩;clear HO3;go_wp2;go_ret;obtain ⟨h4,h5⟩:=HE.out;obtain ⟨h6,h7⟩:=HP.out;refine ⟨.mk w2.heap.size (.slice p acc.length cp) 6 ⟨#[]⟩ 0 kids,rfl,?_,by rw [← h7,← h5]; exact Q3.out,F3.out⟩;rw [← h5,HOK.out] at h6;rw [← h6,← h4];exact N3.out
  have hn:Ze Zl σ=false:=by simpa using hn
  rw [hn] at HN;rw [Yb (by simp [hn,hf])] at hp;obtain ⟨x,σ3,hit,hrest⟩:=Zf hp;have IT:=lh hit;have RE:=lh hrest;have HO:=lh HO;have HN:=lh HN;have HK:=lh (hL.len);have XX:=lh (fun hk=>Z7e hit hk);obtain ⟨i0,hi,hz0,hz1,hz2⟩:=info_parts Tryz.infoPtr;clear hL hQ hF h8 hgF hn hp hit hrest hx hf;go_wp2_with fail
  refine HO.out.mono ?_;rintro e w1 ⟨rfl,rfl⟩;go_wp2_with fail
  refine HN.out.mono ?_;rintro e w1 ⟨rfl,hb1⟩;have Q1:=lh (HQ.out.below hb1);have F1:=lh (HF.out.trans (RFr.below (rb:=C.rb) hb1));have L1:=lh (HL.out.rfr HR.out (RFr.below (rb:=C.rb) hb1));have hdd:=HD.out;clear hb1 HO HN HQ HF HL;go_wp2_with fail
  refine (HS.out g (by have:=HGF.out; omega) w1 C B (d + 1) _ _ _ Q1.out HR.out (Ya HB.out (F0.out.trans F1.out).size) (by have:=HGF.out; omega) IT.out).mono ?_;rintro e w2 ⟨a,rfl,h2,h3,h4⟩;have A2:=lh h2;have Q2:=lh h3;have F2:=lh h4;have L2:=lh (L1.out.rfr HR.out h4);clear h2 h3 h4 Q1
  go_wp2_with (at_builtin; go_must (refine wpList_append_lies _ rfl (.tmp 18) (.tmp 23) 47 rfl B 22 i0 _ 1 8 Tryz.underlying47 hi hz0 hz1 hz2 rfl (by decide) (.slice p acc.length cp) kids.length (kids.map ATree.ptr) rfl (L2.out.row.alloc _) ⟨w2.heap.size,0,none⟩ 1 1 [a.ptr] rfl rfl (Yi (cs:=#[a.ptr]) (t:=22) (fr:=(0,0)) (heap_alloc_new w2 _)) (by simp [ATree.ptr,Value.oneCell']) (by decide) (by have:=HK.out; have:=H8.out; unfold maxLen; omega) (by have:=HK.out; have:=H8.out; omega) (by simp; have:=F0.out.size; have:=F1.out.size; have:=F2.out.size; have:=HB.out; omega) (w2.heap.size + 1) (by simp) ?_); intro gg cap w4 hown2 hgrow2 hat2 hgl2)
  have hpush:=L2.out.push (wA:=w1) (fun y hy=>(L1.out.ks.new y hy).2) (fun y hy=>(L1.out.own y hy).2.1) A2.out F1.out.size F2.out.size ((Y8 _ _).alloc (Y5 _) _) hgrow2 hown2 (by rcases hat2 with h | h; (exact .inl h); (exact .inr (by omega))) hgl2 (F1.out.trans F2.out);have hinv:g≤f∧BInv w0 C B d f l σ1 g (.slice (some ⟨gg,0,none⟩) (kids.length + 1) cap) w4:=
   ⟨by have := HGF.out; omega, acc ++ [x], kids ++ [a], σ3, RE.out, hpush.1, Q2.out.keep fun k hk => hpush.2.1 k (by have := Q2.out.rlt; omega) (fun e => by have h1 := (L2.out.own k e).1; have h2 := HR.out; have h3 := HB.out; have h4 := F0.out.size; omega), hpush.2.2.2, by have := H8.out; simp; omega, fun y hy => by
    rcases List.mem_append.1 hy with hy | hy;·exact HX.out y hy
    ·simp only [List.mem_singleton] at hy; subst hy; exact XX.out⟩
  exact ⟨⟨g,hinv⟩,by rw [← HG.out]; exact Nat.lt_succ_of_le (Z37 hinv)⟩
theorem Got.pushQ {w0 wA w w1 w2:World} {rb B b g cap:Nat} {v:Value} {k n:Int} {t:ByteArray} {kids:List ATree} {a:ATree} {tn ta:Tree} (hr:rb < B) (hB0:B≤w0.heap.size)
 (N:Got w0 B w (.mk b v k t n kids) tn) (hNA:∀ x∈(ATree.mk b v k t n kids).blocks,x < wA.heap.size) (A:Got wA B w a ta) (F:RFr w0 w rb)
 (hB1:Below w.heap.size w w1) (hg:w1.grownBy w2 v.ownBlock) (hown:w2.ownsRow B 22 1 (.slice (some ⟨g,0,none⟩) (kids.length + 1) cap) (kids.length + 1) (kids.map ATree.ptr ++ [a.ptr]))
 (hat:v.ownBlock=some g∨w.heap.size≤g) (hgl:g < w2.heap.size) :
 Got w0 B (w2.setCell ⟨b,3,none⟩ (.slice (some ⟨g,0,none⟩) (kids.length + 1) cap)) (.mk b (.slice (some ⟨g,0,none⟩) (kids.length + 1) cap) k t n (kids ++ [a])) (.mk k t n (Z0o kids ++ [ta])) ∧
  RFr w0 (w2.setCell ⟨b,3,none⟩ (.slice (some ⟨g,0,none⟩) (kids.length + 1) cap)) rb∧(∀ x,x < B→(w2.setCell ⟨b,3,none⟩ (.slice (some ⟨g,0,none⟩) (kids.length + 1) cap)).heap[x]?=w.heap[x]?):=by
 have hnd:=N.nodup;simp only [ATree.blocks,List.nodup_cons,List.mem_append,List.nodup_append,Option.mem_toList,not_or] at hnd;obtain ⟨⟨hb1,hb2⟩,_,hk1,hk2⟩:=hnd;have hbw:b < w.heap.size:=N.at'.lt;have hb0:w0.heap.size≤b:=(N.new b (by simp [ATree.blocks])).1;have hv0:∀ x,v.ownBlock=some x→w0.heap.size≤x∧x < wA.heap.size∧x < w.heap.size:=fun x hx=>
  ⟨(N.new x (by simp [ATree.blocks,hx])).1,hNA x (by simp [ATree.blocks,hx]),(N.new x (by simp [ATree.blocks,hx])).2⟩
 have hbA:b < wA.heap.size:=hNA b (by simp [ATree.blocks]);have hs1:w.heap.size≤w2.heap.size:=Ya hB1.size hg.size;have hsz:(w2.setCell ⟨b,3,none⟩ (.slice (some ⟨g,0,none⟩) (kids.length + 1) cap)).heap.size=w2.heap.size:=Yn ..;have far2:∀ x,x < w.heap.size→v.ownBlock≠some x→w2.heap[x]?=w.heap[x]?:=fun x hx hn=>(hg.block x (Ye hx hB1.size) (fun e=>hn e.symm)).trans (hB1.block x hx)
 have far:∀ x,x < w.heap.size→x≠b→v.ownBlock≠some x→(w2.setCell ⟨b,3,none⟩ (.slice (some ⟨g,0,none⟩) (kids.length + 1) cap)).heap[x]?=w.heap[x]?:=fun x hx hxb hn=>(Yg _ _ _ _ hxb).trans (far2 x hx hn);have hgb:g≠b:=by
  rcases hat with h | h;·rintro rfl; exact hb1 h
  ·omega
 have hgA:∀ x∈a.blocks,g≠x:=fun x hx=>by
  have h1:=A.new x hx;rcases hat with h | h;·have:=hv0 g h; omega
  ·omega
 have hgk:∀ x∈Zv kids,g≠x:=fun x hx=>by
  rcases hat with h | h;·exact hk2 g h x hx
  ·have:=(N.new x (by simp [ATree.blocks,hx])).2; omega
 have hg0:w0.heap.size≤g:=by
  rcases hat with h | h;·exact (hv0 g h).1
  ·have:=F.size; omega
 refine ⟨⟨?_,?_,?_,?_⟩,⟨?_,?_,?_,?_,?_⟩,?_⟩
 ·simp only [ATree.tree,Z5t,Z0o];rw [A.tree]
 ·refine .mk ?_ N.at'.le ?_ fun x hx => ?_
  ·have h1:=(far2 b hbw hb1).trans N.at'.blkOf;exact Zm (o:=3) _ h1
  ·rw [Yq,Yu];exact Zg hown fun g' hg'=>Yg _ _ _ _ (by simp only [Value.ownBlock,Option.some.injEq] at hg'; rw [← hg']; exact hgb)
  ·rcases List.mem_append.1 hx with hx | hx
   ·have hT := N.at'.kid (k := x) hx;refine hT.keepB fun y hy => ?_;have hyk : y ∈ Zv kids := by rw [Z0y]; exact List.mem_flatMap.2 ⟨x, hx, hy⟩
    exact far y (hT.has y hy).2 (fun e=>hb2 (by rw [← e]; exact hyk)) (fun e=>hk2 y e y hyk rfl)
   ·simp only [List.mem_singleton] at hx;subst hx;refine A.at'.keepB fun y hy=>?_;have h1:=A.new y hy;exact far y h1.2 (by omega) (fun e=>by have:=hv0 y e; omega)
 ·simp only [ATree.blocks, Value.ownBlock, Z1e, Zv, List.append_nil, List.nodup_cons, List.mem_append, List.nodup_append, Option.toList, List.mem_cons, List.not_mem_nil, or_false, not_or, List.nodup_nil, not_false_eq_true, true_and];refine ⟨⟨fun e => hgb e.symm, hb2, fun hm => by have := A.new b hm; omega⟩, ⟨hk1, A.nodup, fun x hx y hy e => by have h1 := hNA x (by simp [ATree.blocks, hx]); have h2 := A.new y hy; omega⟩, ?_⟩;rintro x rfl y hy;rcases hy with hy | hy;·exact hgk y hy
  ·exact hgA y hy
 ·intro x hx;rw [hsz];simp only [ATree.blocks, Value.ownBlock, Z1e, Zv, List.append_nil, List.mem_cons, List.mem_append, Option.toList, List.not_mem_nil, or_false] at hx;rcases hx with rfl | rfl | hx | hx;·exact ⟨hb0, by omega⟩
  ·exact ⟨hg0,hgl⟩
  ·have:=N.new x (by simp [ATree.blocks,hx]); omega
  ·have:=A.new x hx; omega
 ·exact (hg.os.trans hB1.os).trans F.os
 ·exact (hg.tape.trans hB1.tape).trans F.tape
 ·exact (hg.output.trans hB1.output).trans F.output
 ·rw [hsz]; have:=F.size; omega
 ·intro x hx hn;have:=F.size;exact (far x (by omega) (by omega) (fun e=>by have:=hv0 x e; omega)).trans (F.block x hx hn)
 ·have:=F.size;exact fun x hx=>far x (by omega) (by omega) (fun e=>by have:=hv0 x e; omega)
theorem Got.cells {w0 w:World} {B b:Nat} {v:Value} {k n:Int} {tx:ByteArray} {kids:List ATree} {t:Tree} (N:Got w0 B w (.mk b v k tx n kids) t) :
 w.cell? ⟨b,0,none⟩=some (.int .i64 k)∧w.cell? ⟨b,1,none⟩=some (.string tx)∧w.cell? ⟨b,3,none⟩=some v∧(∀ j,w.frozen? ⟨b,j,none⟩=false)∧b < w.heap.size:=by
 have hb:=N.at'.blkOf;simp only [ATree.b,ATree.v,ATree.kind,ATree.text,ATree.n] at hb;exact ⟨by simp [World.cell?,hb],by simp [World.cell?,hb],by simp [World.cell?,hb],fun j=>by simp [World.frozen?,hb],(Y6.1 hb).1⟩
theorem Got.giveKids {w w1 w2:World} {rb B b:Nat} {v:Value} {k n:Int} {tx:ByteArray} {ks0 kids:List ATree} {l0 ts:List Tree} (hr:rb < B) (hB:B≤w.heap.size) (G:Got w B w1 (.mk b v k tx n ks0) (.mk k tx n l0)) (F1:RFr w w1 rb) (F12:RFr w1 w2 rb) (K:KidsAt w1 B w2 kids ts) (hl:kids.length≤1000)
 (row:Array Value) (hrow:row=(kids.map ATree.ptr).toArray) (m:Nat) (hm:m=kids.length) :
 ((w2.alloc (.cells row 22)).cell? ⟨b,3,none⟩=some v∧(w2.alloc (.cells row 22)).frozen? ⟨b,3,none⟩=false) ∧
 Got w B ((w2.alloc (.cells row 22)).setCell ⟨b,3,none⟩ (.slice (some ⟨w2.heap.size,0,none⟩) m m)) (.mk b (.slice (some ⟨w2.heap.size,0,none⟩) m m) k tx n kids) (.mk k tx n ts) ∧
 RFr w ((w2.alloc (.cells row 22)).setCell ⟨b,3,none⟩ (.slice (some ⟨w2.heap.size,0,none⟩) m m)) rb ∧
 (∀ x,x < B→((w2.alloc (.cells row 22)).setCell ⟨b,3,none⟩ (.slice (some ⟨w2.heap.size,0,none⟩) m m)).heap[x]?=w2.heap[x]?):=by
 subst hrow hm;have hal:=(Y8 w2.heap.size w2).alloc (Y5 _) (.cells (kids.map ATree.ptr).toArray 22);have hF2:=F1.trans F12;have hFF:=hF2.trans (RFr.below (rb:=rb) hal);have G2:=(G.rfr hr F12).rfr hr (RFr.below (rb:=rb) hal);obtain ⟨_,_,y3,z3,_⟩:=G2.cells;have hL:=K.lit (Ya hB hF2.size) F12.size hl;have hb1:b < w1.heap.size:=(G.new b (by simp [ATree.blocks])).2;have hap:=hL.apart hb1;obtain ⟨e1,e2,e3⟩:=Got.kids0 hr hB G2.at' (G.new b (by simp [ATree.blocks])).1 (hL.pre (w0:=w) F1.size) hap.1 hap.2 hFF
 refine ⟨⟨y3,z3 3⟩,e1,e2,fun x hx=>(e3 x hx).trans (hal.block x ?_)⟩;have:=hF2.size; omega
theorem Got.pushT {w0 wA w w1 w2:World} {rb B b g cap:Nat} {v:Value} {k n:Int} {t:ByteArray} {kids:List ATree} {a:ATree} {ts:List Tree} {ta:Tree} (hr:rb < B) (hB0:B≤w0.heap.size)
 (N:Got w0 B w (.mk b v k t n kids) (.mk k t n ts)) (hNA:∀ x∈(ATree.mk b v k t n kids).blocks,x < wA.heap.size) (A:Got wA B w a ta) (F:RFr w0 w rb)
 (hB1:Below w.heap.size w w1) (hg:w1.grownBy w2 v.ownBlock) (hown:w2.ownsRow B 22 1 (.slice (some ⟨g,0,none⟩) (kids.length + 1) cap) (kids.length + 1) (kids.map ATree.ptr ++ [a.ptr]))
 (hat:v.ownBlock=some g∨w.heap.size≤g) (hgl:g < w2.heap.size) :
 Got w0 B (w2.setCell ⟨b,3,none⟩ (.slice (some ⟨g,0,none⟩) (kids.length + 1) cap)) (.mk b (.slice (some ⟨g,0,none⟩) (kids.length + 1) cap) k t n (kids ++ [a])) (.mk k t n (ts ++ [ta])) ∧
  RFr w0 (w2.setCell ⟨b,3,none⟩ (.slice (some ⟨g,0,none⟩) (kids.length + 1) cap)) rb∧(∀ x,x < B→(w2.setCell ⟨b,3,none⟩ (.slice (some ⟨g,0,none⟩) (kids.length + 1) cap)).heap[x]?=w.heap[x]?):=by
 have e:Z0o kids=ts:=by
  have:=N.tree;simp only [ATree.tree,Tree.mk.injEq,true_and] at this;exact this
 subst e;exact Got.pushQ hr hB0 N hNA A F hB1 hg hown hat hgl
end Go.Proofs.YtajomcjaljakhaaGreatDoor
