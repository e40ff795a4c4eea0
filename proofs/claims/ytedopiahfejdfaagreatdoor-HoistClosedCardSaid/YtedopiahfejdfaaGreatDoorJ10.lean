/- Package tree: statements of a whole program. -/
import Derived.Test.YtedopiahfejdfaaGreatDoorJ09
namespace Go.Proofs.YtedopiahfejdfaaGreatDoor
open Go Go.RowKit
set_option maxRecDepth 100000
set_option maxHeartbeats 20000000
set_option linter.unusedVariables false
theorem Zd2 (F:Nat) (hS:∀ g,g < F→Says 48 rArg .stmt g) :
 Says 19 (fun rb=>#[.pointer (some ⟨rb,0,none⟩),.int .i64 1,.string ⟨#[]⟩]) (.stmts 1 []) F:=by
 intro w rb B d ts r hP hp;have HC:=lh (Zw w rb 1 ⟨#[]⟩ none 0 0);have HP:=lh hP;have HQ:=lh hp;have HS:=lh hS;have hmf:∀ (fn:Fn) (first cap:Array Value) (w:World),(Instr.makeFunc fn first cap).run Tryz.prog w=.ok (.func fn first cap) w:=fun _ _ _ _=>rfl;obtain ⟨nb,hnb⟩:=zX w.heap.size
 have G0:=Got.leaf (k:=1) (t:=⟨#[]⟩) (n:=0) hP.le (RFr.refl w rb);have R0:=hP.rd.below ((Y2 _ _).alloc (Y0 _) (.cells #[.int .i64 1,.string ⟨#[]⟩,.int .i64 0,.slice none 0 0] 37));have F0:RFr w (w.alloc (.cells #[.int .i64 1,.string ⟨#[]⟩,.int .i64 0,.slice none 0 0] 37)) rb:=RFr.below ((Y2 _ _).alloc (Y0 _) _);rw [← hnb] at G0 HC;clear hP hp hS;simp only;go_enter Tryz.func19,Tryz.ntmps19
 go_wp2_with fail
 refine HC.out.mono ?_;rintro e w1 ⟨rfl,hw1⟩;rw [← hw1] at G0 R0 F0;have hst:∃ (g:Nat) (acc:List Tree) (us:List Tok) (v:Value) (kids:List ATree),g≤F∧Z0 g (.stmts 1 acc) d us=some r∧Got w B w1 (.mk nb v 1 ⟨#[]⟩ 0 kids) (.mk 1 ⟨#[]⟩ 0 acc)∧Rd w1 rb us d∧RFr w w1 rb∧acc.length + us.length≤ts.length∧(∀ x∈acc,x.kind=15→x.kids≠[]):=
  ⟨F,[],ts,_,[],Y0 _,HQ.out,G0,R0,F0,by simp,fun x hx=>by cases hx⟩
 have ST:=lh hst;have HNB:=lh hnb;clear hst hw1 G0 R0 F0 HC hnb;go_wp2_with fail
 go_loopw [] (fun wr=>∃ (g:Nat) (acc:List Tree) (us:List Tok) (v:Value) (kids:List ATree),g≤F∧Z0 g (.stmts 1 acc) d us=some r∧Got w B wr (.mk nb v 1 ⟨#[]⟩ 0 kids) (.mk 1 ⟨#[]⟩ 0 acc)∧Rd wr rb us d∧RFr w wr rb∧acc.length + us.length≤ts.length∧(∀ x∈acc,x.kind=15→x.kids≠[])) (fun wr=>leftOf wr rb)
 case atStart=>exact ST.out
 case round=>
  obtain ⟨g,acc,us,v,kids,hg,hq,hG,hR,hF,hl,hx⟩:=hrel;have G:=lh hG;have R:=lh hR;have FF:=lh hF;have HX:=lh hx;have RL:=lh hR.left;cases g with
  | zero=>cases hq
  | succ g=>
  rw [Z0] at hq;obtain ⟨tb,off,cpp,hh⟩:=hR;have c0:=hh.c0;have k0:=hh.hd (j:=0) (x:=.int .i64 (hdT us).kind) rfl;rw [Nat.add_zero] at k0;have hps:=hh.pos;clear hh;by_cases hb:(hdT us).kind=6
  ·have nk : ((hdT us).kind != 6) = false := by simp [hb]
   rw [Y5 (by rw [Y5 rfl]; simpa using hb)] at hq;have hr:=Yc hq;have HRr:=lh hr.symm;clear hG hF hq hr hb hx ST;have hB2:Below wr.heap.size wr wr:=Y2 _ _;have hlt:=HP.out.lt;have F2:=lh (FF.out.trans (RFr.below (rb:=rb) hB2));have G2:=lh (G.out.rfr hlt (RFr.below (rb:=rb) hB2));have R2:=lh (R.out.below hB2);have hblk:=G2.out.at'.blkOf;have hrow:=G2.out.at'.rowOf;simp only [ATree.b,ATree.v,ATree.kind,ATree.text,ATree.n,ATree.kids] at hblk hrow;have n3:wr.cell? ⟨nb,3,none⟩=some v:=by simp [World.cell?,hblk]
   have nz:wr.frozen? ⟨nb,1,none⟩=false:=by simp [World.frozen?,hblk]
   have nc1:wr.cell? ⟨nb,1,none⟩=some (.string ⟨#[]⟩):=by simp [World.cell?,hblk]
   have htr:=G2.out.tree;simp only [ATree.tree,Tree.mk.injEq,true_and] at htr;have fin0:Z1i acc=false→Zo w rb B d r (.returned (.pointer (some ⟨nb,0,none⟩))) wr:=fun h=>by
    rw [HRr.out,h];exact ⟨_,rfl,G2.out,R2.out,F2.out⟩
   have FIN0:=lh fin0;have fin1:Z1i acc=true→Zo w rb B d r (.returned (.pointer (some ⟨nb,0,none⟩))) (wr.setCell ⟨nb,1,none⟩ (.string Z3i)):=fun h=>by
    rw [HRr.out,h];obtain ⟨h1,h2,h3⟩:=Got.text (t':=Z3i) hlt HP.out.le G2.out F2.out R2.out;exact ⟨_,rfl,h1,h3,h2⟩
   have FIN1:=lh fin1;have HTR:=lh htr;have hks:∀ a∈kids,TreeAt wr B a:=fun a ha=>G2.out.at'.kid (k:=a) ha;have HKS:=lh hks;clear hB2 hblk fin0 fin1 htr hks FF G R;cases kids with
   | nil =>
     have hs0:Z1i acc=false:=by rw [← HTR.out]; rfl
     have H0:=lh (FIN0.out hs0);clear hs0;rcases Z8 hrow with ⟨rfl,_⟩ | ⟨g0,cap0,rfl,_,_,_⟩
     all_goals
      clear hrow;go_wp2;go_ret;exact H0.out
   | cons a0 ks =>
     rcases Z8 hrow with ⟨_,h0⟩ | ⟨g0,cap0,rfl,k1,k2,k3⟩;·simp at h0
     have p0:=Zu hrow (g:=g0) rfl (i:=0) (x:=a0.ptr) rfl;have hT0:=HKS.out a0 (by simp);have hb0:=hT0.blkOf;have hr0:=hT0.rowOf;have hx0:=HX.out a0.tree (by rw [← HTR.out]; simp [Zp]);obtain ⟨b0,v0,kd0,t0,n0,l0⟩:=a0;simp only [ATree.b,ATree.v,ATree.kind,ATree.text,ATree.n,ATree.kids,ATree.ptr,List.length_cons] at hb0 hr0 p0 k1 n3 ⊢;unfold maxLen at k2;have d0:wr.cell? ⟨b0,0,none⟩=some (.int .i64 kd0):=by simp [World.cell?,hb0]
     have d3:wr.cell? ⟨b0,3,none⟩=some v0:=by simp [World.cell?,hb0]
     by_cases h15:kd0=15
     ·subst h15;cases l0 with
      | nil=>exact absurd rfl (hx0 rfl)
      | cons x xs=>
      rcases Z8 hr0 with ⟨_,h0⟩ | ⟨g1,cap1,rfl,j1,j2,j3⟩;·simp at h0
      have p1:=Zu hr0 (g:=g1) rfl (i:=0) (x:=x.ptr) rfl;have hb1:=(hT0.kid (k:=x) (by simp [ATree.kids])).blkOf;obtain ⟨b1,v1,kd1,t1,n1,l1⟩:=x;simp only [ATree.b,ATree.v,ATree.kind,ATree.text,ATree.n,ATree.ptr,List.length_cons] at hb1 p1 j1 d3;unfold maxLen at j2;have e0:wr.cell? ⟨b1,0,none⟩=some (.int .i64 kd1):=by simp [World.cell?,hb1]
      have e1:wr.cell? ⟨b1,1,none⟩=some (.string t1):=by simp [World.cell?,hb1]
      have hstr:Z1i acc=(decide (kd1=18) && Z0r t1 Z0a):=by rw [← HTR.out]; rfl
      have HST:=lh hstr;clear hrow hr0 hT0 hb0 hb1 hx0 hstr;by_cases h18:kd1=18
      ·subst h18;by_cases hus : t1 = Z0a
       ·subst hus;have H1:=lh (FIN1.out (by rw [HST.out]; simp [Z0r]));unfold Z0a at e1;go_wp2;go_ret;exact H1.out
       ·have H0 := lh (FIN0.out (by rw [HST.out]; simp [Z0r, hus]));have hne : ¬ t1.toList = Z0a.toList := fun h => hus (Z34 h);have hne2 : (t1.toList == Z0a.toList) = false := by simpa using hne
        have hl:Z0a.toList=[117,115,101,32,115,116,114,105,99,116]:=by rw [Lib.toList_data]; rfl
        have hne3:¬ t1.toList=[117,115,101,32,115,116,114,105,99,116]:=by rw [← hl]; exact hne
        have hne4:(t1.toList == [117,115,101,32,115,116,114,105,99,116])=false:=by simpa using hne3
        unfold Z0a at hne hne2;clear hus hl;go_wp2;go_ret;exact H0.out
      ·have n18 : (kd1 == 18) = false := by simpa using h18
       have H0:=lh (FIN0.out (by rw [HST.out]; simp [h18]));clear h18;go_wp2;go_ret;exact H0.out
     ·have n15 : (kd0 == 15) = false := by simpa using h15
      have H0:=lh (FIN0.out (by rw [← HTR.out]; cases l0 <;> simp [Zp,ATree.tree,Z1i,h15]));clear hrow hr0 hT0 hb0 hx0 h15;go_wp2;go_ret;exact H0.out
  ·have nk : ((hdT us).kind != 6) = true := by simpa using hb
   rw [Y3 (by rw [Y5 rfl]; simpa using hb)] at hq;have HQ2:=lh hq;clear hG hF hq hb hx ST;have hB2:Below wr.heap.size wr wr:=Y2 _ _;have F2:=FF.out.trans (RFr.below (rb:=rb) hB2);have G2:=G.out.rfr HP.out.lt (RFr.below (rb:=rb) hB2);have R2:=R.out.below hB2;have n3:wr.cell? ⟨nb,3,none⟩=some v:=by have:=G2.at'.blkOf; simp only [ATree.b,ATree.v,ATree.kind,ATree.text,ATree.n] at this; simp [World.cell?,this]
   have F2:=lh F2;have G2:=lh G2;have R2:=lh R2;clear hB2 FF G R;go_wp2_with fail
   refine Z1 [(true,0),(true,1),(true,2),(true,3),(true,4),(true,5),(true,6),(true,7),(false,8),(false,9),(false,10)] [11,12,13] (fun W=>W.cell? ⟨nb,3,none⟩=some v) (by kernel_rfl) (by kernel_rfl) (fun _ _ d _ _ h=>by cases d <;> exact h) n3 (fun hS0=>?_);simp only [Zc,zD,zE,zF,zG,zH,zI]
   iterate 8
    first
     | (refine Z3 ?_ (by rfl) (fun w' hS'=>?_) ?_; rotate_left; (have s0:=hS'; go_simp; first | done | with_reducible rfl); simp only [Act.put,zA,zB,zC])
     | (refine Z4 (by rfl) ?_; simp only [Act.put,zA,zB,zC])
   refine Z5 (fun K hK=>?_);go_simp
   have hlt:=HP.out.lt;have hRF2:RFr wr wr.drew rb:=(RFr.refl wr rb).drew;have hus:us.length≤4000:=by have:=HP.out.few; omega
   have hle2:B≤wr.drew.heap.size:=Y4 HP.out.le F2.out.size;rcases Zb HQ2.out with ⟨⟨c,p⟩,hv,rfl⟩ | ⟨t,vs,hv,hq3⟩
   ·refine (Zr wr.drew rb B us d _ _ R2.out.drew (by have:=HP.out.deep; omega) hlt hv fun hd h1 w1 hR1 hs=>HS.out g (by omega) w1 rb B (d + 1) us _ ⟨hR1,hd,hlt,by omega,hus⟩ h1).mono ?_;rintro e w3 ⟨⟨b,rfl,h1,h2⟩,hF3⟩;exact ⟨rfl,Zo.pre F2.out.drew (r:=.error (c,p)) ⟨⟨b,rfl,h1,h2⟩,hF3⟩⟩
   ·have hvl:vs.length < us.length:=Leaves.within (Zx g .stmt (d + 1) us) t vs hv;have hvx:t.kind=15→t.kids≠[]:=by
     unfold Zj at hv;by_cases h30:30 < d + 1;·rw [Y5 h30] at hv; cases hv
     ·rw [Y3 h30] at hv;cases g with
      | zero=>cases hv
      | succ g=>exact Z8s hv
    have HVX:=lh hvx;have HQ3:=lh hq3;refine (Zr wr.drew rb B us d _ _ R2.out.drew (by have:=HP.out.deep; omega) hlt hv fun hd h1 w1 hR1 hs=>HS.out g (by omega) w1 rb B (d + 1) us _ ⟨hR1,hd,hlt,by omega,hus⟩ h1).mono ?_;rintro e w3 ⟨a,rfl,hA,hR3,hF3⟩;have hF23:RFr wr w3 rb:=hRF2.trans hF3;have hN3:=G2.out.rfr hlt hF23;have hblk:=hN3.at'.blkOf;simp only [ATree.b,ATree.v,ATree.kind,ATree.text,ATree.n] at hblk;have m3:w3.cell? ⟨nb,3,none⟩=some v:=by simp [World.cell?,hblk]
    have mz:w3.frozen? ⟨nb,3,none⟩=false:=by simp [World.frozen?,hblk]
    have hnb3:nb < w3.heap.size:=(Y1.1 hblk).1;have hnd:=hN3.nodup;simp only [ATree.blocks,List.nodup_cons,List.mem_append,Option.mem_toList,not_or] at hnd;have hne:v.ownBlock≠some nb:=hnd.1.1;have hkl:kids.length=acc.length:=by
     have:=hN3.tree;simp only [ATree.tree,Tree.mk.injEq,true_and] at this;rw [← this,Z20,Ym]
    have hk4:kids.length≤4000:=by have:=HP.out.few; omega
    have N3:=lh hN3;have A3:=lh hA;have R3:=lh hR3;have F3:=lh (F2.out.trans hF23);have NE:=lh hne;have HKL:=lh hkl;refine hK _ _ m3 ?_;obtain ⟨i0,hi,hz0,hz1,hz2⟩:=info_parts Tryz.infoPtr;clear hK K hA hR3 hF3 hF23 hN3 hblk hnd hne hvx hq3 hv hkl n3 hRF2;refine Z5 (fun K hK=>?_);go_simp
    refine hK _ _ ((Zd hnb3).trans m3) ?_;clear hK K;refine Z5 (fun K hK=>?_);refine step_append_lies _ (by rfl) (.tmp 37) (.tmp 42) 35 (by rfl) B 22 i0 _ 1 8 Tryz.underlying35 hi hz0 hz1 hz2 rfl (by decide) v kids.length (kids.map ATree.ptr) (by rfl) (N3.out.at'.rowOf.alloc _) ⟨w3.heap.size,0,none⟩ 1 1 [a.ptr] (by rfl) rfl (Ya (cs:=#[a.ptr]) (t:=22) (fr:=(0,0)) (heap_alloc_new w3 _)) (by simp [ATree.ptr,Value.oneCell']) (by decide) (by unfold maxLen; omega) (by omega) (by simp; have:=F3.out.size; have:=HP.out.le; omega) (w3.heap.size + 1) (by simp) ?_
    intro gg cap w4 hown4 hgrow4 hat4 hlt4;have m4:w4.cell? ⟨nb,3,none⟩=some v:=(hgrow4.cell_far ⟨nb,3,none⟩ (by simp; omega) (fun e=>NE.out e.symm)).trans ((Zd hnb3).trans m3);have mz4:w4.frozen? ⟨nb,3,none⟩=false:=(hgrow4.frozen_far ⟨nb,3,none⟩ (by simp; omega) (fun e=>NE.out e.symm)).trans ((Z0b hnb3).trans mz);refine hK _ _ m4 ?_;clear hK K;simp only [Act.put,zA,zB,zC]
    have hfin:=Got.push hlt HP.out.le N3.out (wA:=wr.drew) (fun x hx=>(G2.out.new x hx).2) A3.out F3.out R3.out ((Y2 _ _).alloc (Y0 _) _) hgrow4 hown4 (by rcases hat4 with h | h; (exact .inl h); (exact .inr (by omega))) hlt4;have FIN:=lh hfin;clear hgrow4 hown4 hat4 hlt4 hfin;refine Z6 ?_;go_wp2;go_roundw
    case rel=>
     refine ⟨g,acc ++ [t],vs,.slice (some ⟨gg,0,none⟩) (kids.length + 1) cap,kids ++ [a],by omega,HQ3.out,?_,FIN.out.2.2,FIN.out.2.1,by simp; omega,fun x hx=>?_⟩
     ·have h1:=FIN.out.1;have h2:=G2.out.tree;simp only [ATree.tree,Tree.mk.injEq,true_and] at h2;rw [h2] at h1;exact h1
     ·rcases List.mem_append.1 hx with hx | hx;·exact HX.out x hx
      ·simp only [List.mem_singleton] at hx; subst hx; exact HVX.out
    case measure=>
     rw [FIN.out.2.2.left,RL.out];exact hvl
theorem Got.cells {w0 w:World} {B b:Nat} {v:Value} {k n:Int} {tx:ByteArray} {kids:List ATree} {t:Tree} (N:Got w0 B w (.mk b v k tx n kids) t) :
 w.cell? ⟨b,0,none⟩=some (.int .i64 k)∧w.cell? ⟨b,1,none⟩=some (.string tx)∧w.cell? ⟨b,3,none⟩=some v∧(∀ j,w.frozen? ⟨b,j,none⟩=false)∧b < w.heap.size:=by
 have hb:=N.at'.blkOf;simp only [ATree.b,ATree.v,ATree.kind,ATree.text,ATree.n] at hb;exact ⟨by simp [World.cell?,hb],by simp [World.cell?,hb],by simp [World.cell?,hb],fun j=>by simp [World.frozen?,hb],(Y1.1 hb).1⟩
theorem Z6i (a:ATree):a.kids.length < a.many:=by
 have key:∀ l:List ATree,l.length≤Z0h l:=by
  intro l;induction l with
  | nil=>simp [Z0h]
  | cons x l ih =>
    simp only [Z0h,List.length_cons];have:0 < x.many:=by cases x; simp [ATree.many]
    omega
 obtain ⟨b,v,k,t,n,ks⟩:=a;have:=key ks;simp only [ATree.kids,ATree.many];omega
theorem Z4p {l:List ByteArray} {s x:ByteArray} (h:x∈l):x∈addL l s:=by
 unfold addL;split;·exact h
 ·exact List.mem_append_left _ h
theorem Z4l (l:List ByteArray) (s:ByteArray):s∈addL l s:=by
 unfold addL;split;·rename_i h; exact (Lib.containsS_iff _ _).1 h
 ·simp
def ownV (a:ATree) (l:List ByteArray):List ByteArray:=if a.kind == 2 then addL l a.text else l
theorem Z43 (a:ATree) (l:List ByteArray):Z3j Z1f a l=cond (Z2l a) (ownV a l) (Z17 Z1f a.kids (ownV a l)):=by
 rw [Z85];have h1:(Z1f l a).1=!Z2l a:=rfl;have h2:(Z1f l a).2=ownV a l:=rfl;rw [h2];cases hi:Z2l a with
 | true=>rw [Y3 (by rw [h1,hi]; decide)]; rfl
 | false=>rw [Y5 (by rw [h1,hi]; rfl)]; rfl
theorem Zf1 (a:ATree) (l:List ByteArray):(ownV a l).length≤l.length + 1:=by
 unfold ownV;split;·exact Z8e _ _
 ·omega
mutual
theorem Zdj:∀ (a:ATree) (l:List ByteArray),(Z3j Z1f a l).length≤l.length + a.many
 | .mk b v k t n ks, l => by
   rw [Z43];have h0:=Zf1 (.mk b v k t n ks) l;cases Z2l (.mk b v k t n ks) with
   | true=>simp only [cond_true,ATree.many]; omega
   | false =>
     simp only [cond_false,ATree.kids,ATree.many];have:=Z59 ks (ownV (.mk b v k t n ks) l);omega
theorem Z59:∀ (ks:List ATree) (l:List ByteArray),(Z17 Z1f ks l).length≤l.length + Z0h ks
 | [],l=>by simp [Z17]
 | a :: ks, l => by
   simp only [Z17,Z0h];have h1:=Zdj a l;have h2:=Z59 ks (Z3j Z1f a l);omega
end
theorem Zcu (a:ATree):(Z45 a).length≤a.many:=by
 have:=Z59 a.kids [];obtain ⟨b,v,k,t,n,ks⟩:=a;unfold Z45;simp only [ATree.kids,List.length_nil,ATree.many] at this ⊢;omega
theorem Z40 {a b:ATree} (h:a.tree=b.tree):a.kind=b.kind∧a.text=b.text∧a.n=b.n∧Zp a.kids=Zp b.kids:=by
 cases a; cases b;simp only [ATree.tree,Tree.mk.injEq] at h;exact h
mutual
theorem Z6o:∀ a:ATree,(a.subs.map ATree.b).Sublist a.blocks
 | .mk b v k t n ks => by
   simp only [ATree.subs,List.map_cons,ATree.b,ATree.blocks];exact List.Sublist.cons_cons _ ((Z5l ks).trans (by first | exact List.Sublist.refl _ | exact List.sublist_append_right _ _))
theorem Z5l:∀ l:List ATree,((Z3c l).map ATree.b).Sublist (Zs l)
 | []=>by simp [Z3c]
 | a :: l => by
   simp only [Z3c,Zs,List.map_append];exact List.Sublist.append (Z6o a) (Z5l l)
end
theorem Got.apart {w w':World} {B:Nat} {a:ATree} {t:Tree} (h:Got w B w' a t):(a.subs.map ATree.b).Nodup:=h.nodup.sublist (Z6o a)
def Zdd (l:List (Nat×Nat)):Prop:=∀ (i:Nat) (x:Nat×Nat),l[i]?=some x→x.2=i
theorem Zdd.push {l:List (Nat×Nat)} (h:Zdd l) (b:Nat):Zdd (l ++ [(b,l.length)]):=by
 intro i x hx;rcases Nat.lt_or_ge i l.length with hi | hi
 ·rw [List.getElem?_append_left hi] at hx;exact h i x hx
 ·rw [List.getElem?_append_right hi] at hx;cases hd : i - l.length with
  | zero =>
    rw [hd] at hx;simp only [List.getElem?_cons_zero,Option.some.injEq] at hx;rw [← hx];simp only;omega
  | succ n=>rw [hd] at hx; simp at hx
mutual
theorem Zbf:∀ (a b:ATree),a.tree=b.tree→∀ l,Z3j Z1f a l=Z3j Z1f b l
 | .mk b1 v1 k1 t1 n1 ks1, .mk b2 v2 k2 t2 n2 ks2, h, l => by
   simp only [ATree.tree,Tree.mk.injEq] at h;obtain ⟨rfl,rfl,_,h⟩:=h;rw [Z43,Z43];have e1:Z2l (.mk b1 v1 k1 t1 n1 ks1)=Z2l (.mk b2 v2 k1 t1 n2 ks2):=rfl;have e2:ownV (.mk b1 v1 k1 t1 n1 ks1) l=ownV (.mk b2 v2 k1 t1 n2 ks2) l:=rfl;rw [e1,e2];simp only [ATree.kids];rw [Z3f ks1 ks2 h]
theorem Z3f:∀ (l1 l2:List ATree),Zp l1=Zp l2→∀ l,Z17 Z1f l1 l=Z17 Z1f l2 l
 | [],[],_,l=>rfl
 | [],_ :: _,h,_=>by simp [Zp] at h
 | _ :: _,[],h,_=>by simp [Zp] at h
 | a :: l1, b :: l2, h, l => by
   simp only [Zp,List.cons.injEq] at h;simp only [Z17];rw [Zbf a b h.1,Z3f l1 l2 h.2]
end
theorem Zar {a b:ATree} (h:a.tree=b.tree):Z45 a=Z45 b:=Z3f _ _ (Z40 h).2.2.2 _
theorem Z1x (p:ATree→Bool) (hp:∀ a b:ATree,a.kind=b.kind→p a=p b):∀ (l1 l2:List ATree),Zp l1=Zp l2→(l1.filter p).map ATree.text=(l2.filter p).map ATree.text
 | [],[],_=>rfl
 | [],_ :: _,h=>by simp [Zp] at h
 | _ :: _,[],h=>by simp [Zp] at h
 | a :: l1, b :: l2, h => by
   simp only [Zp,List.cons.injEq] at h;have ih:=Z1x p hp l1 l2 h.2;obtain ⟨e1,e2,_,_⟩:=Z40 h.1;have e3:=hp a b e1;simp only [List.filter_cons];rw [e3];split;·simp only [List.map_cons,ih,e2]
   ·exact ih
theorem Z6t (a b:ATree) (h:a.kind=b.kind):Z19 a=Z19 b:=by unfold Z19; rw [h]
theorem Z7l (a b:ATree) (h:a.kind=b.kind):Z26 a=Z26 b:=by unfold Z26; rw [h]
theorem Z56 (l:List ByteArray) (ks:List ATree):Z0z l ks=(ks.map ATree.text).foldl addL l:=by
 unfold Z0z;rw [List.foldl_map]
theorem Z6k {a b:ATree} (h:a.tree=b.tree) (body:Bool):Z0y body a=Z0y body b:=by
 have hk:=(Z40 h).2.2.2;unfold Z0y;rw [Z56,Z56,Z56,Z56,Z1x Z19 Z6t _ _ hk,Z1x Z26 Z7l _ _ hk,Zar h]
theorem Z1k.parts {w:World} {B:Nat} {v:Value} {l:List ATree} (h:Z1k w B v l):∃ p cp,v=.slice p l.length cp∧l.length≤cp∧cp≤9223372036854775807:=by
 rcases h.form with ⟨h1,h2⟩ | ⟨g,cap,h1,h2,h3⟩;·exact ⟨none,0,by rw [h1,h2]; rfl,by rw [h2]; exact Y0 _,by omega⟩
 ·unfold maxLen at h3; exact ⟨_,_,h1,h2,by omega⟩
theorem Zv.parts {w:World} {B:Nat} {v:Value} {l:List ByteArray} (h:Zv w B v l):∃ p cp,v=.slice p l.length cp∧l.length≤cp∧cp≤9223372036854775807:=by
 rcases h.form with ⟨h1,h2⟩ | ⟨g,cap,h1,h2,h3⟩;·exact ⟨none,0,by rw [h1,h2]; rfl,by rw [h2]; exact Y0 _,by omega⟩
 ·unfold maxLen at h3; exact ⟨_,_,h1,h2,by omega⟩
def Bnd (n:Nat) (p:PR):Prop:=∀ t ts,p=some (.ok (t,ts))→t.many + 2 * ts.length≤n
theorem Bnd.fail {n:Nat} {e:Int} {ts:List Tok}:Bnd n (Z11 e ts):=by intro t ts' h; cases h
theorem Bnd.none {n:Nat}:Bnd n none:=by intro t ts' h; cases h
theorem Bnd.err {n:Nat} {e:Int×Nat}:Bnd n (some (.error e)):=by intro t ts' h; cases h
theorem Bnd.ok {n:Nat} {t:Tree} {ts:List Tok} (h:t.many + 2 * ts.length≤n):Bnd n (okT t ts):=by
 intro t' ts' h';simp only [okT,Option.some.injEq,Except.ok.injEq,Prod.mk.injEq] at h';rw [← h'.1,← h'.2]; exact h
theorem Bnd.bind {n m:Nat} {p:PR} {k:Tree→List Tok→PR} (hp:Bnd m p) (hk:∀ t ts,t.many + 2 * ts.length≤m→Bnd n (k t ts)):Bnd n (Zh p k):=by
 cases p with
 | none=>exact Bnd.none
 | some r =>
   cases r with
   | error e=>exact Bnd.err
   | ok x=>obtain ⟨t,ts⟩:=x; exact hk t ts (hp t ts rfl)
theorem Bnd.want {n:Nat} {s:ByteArray} {ts:List Tok} {k:List Tok→PR} (hk:ts.tail.length < ts.length→Bnd n (k ts.tail)):Bnd n (Z00 s ts k):=by
 unfold Z00;by_cases h:isT s ts=true;·rw [Y5 h]; exact hk (Zg h)
 ·rw [Y3 h]; exact Bnd.fail
theorem Bnd.name {n:Nat} {ts:List Tok} {k:ByteArray→List Tok→PR} (hk:∀ s,ts.tail.length < ts.length→Bnd n (k s ts.tail)):Bnd n (Z13 ts k):=by
 unfold Z13;by_cases h:(hdT ts).kind=1;·rw [Y5 h]; exact hk _ (Z1l (by omega))
 ·rw [Y3 h]; exact Bnd.fail
theorem Bnd.within {n d:Nat} {ts:List Tok} {p:PR} (h:Bnd n p):Bnd n (Zj d ts p):=by
 unfold Zj;by_cases h':30 < d + 1;·rw [Y5 h']; exact Bnd.fail
 ·rw [Y3 h']; exact h
theorem Bnd.ite {n:Nat} {c:Prop} [Decidable c] {p q:PR} (hp:c→Bnd n p) (hq:¬ c→Bnd n q):Bnd n (if c then p else q):=by
 by_cases h:c;·rw [Y5 h]; exact hp h
 ·rw [Y3 h]; exact hq h
theorem Bnd.comma {n:Nat} {c:Prop} [Decidable c] {ts:List Tok} {k:List Tok→PR} (hk:∀ ts',ts'.length≤ts.length→Bnd n (k ts')):Bnd n ((if c then Z00 Z07 ts else fun k=>k ts) k):=by
 by_cases h:c;·rw [Y5 h]; exact Bnd.want fun h'=>hk _ (by omega)
 ·rw [Y3 h]; exact hk _ (Y0 _)
theorem Bnd.end' {n:Nat} {t:Tree} {ts:List Tok} (h:t.many + 2 * ts.length≤n + 2):Bnd n (endT t ts):=Bnd.want fun h'=>Bnd.ok (by omega)
def Job.base:Job→Nat
 | .stmts _ acc=>Z1t acc + 1
 | .params acc=>Z1t acc + 1
 | .try_=>1
 | .binLoop _ x=>x.many
 | .postLoop x=>x.many
 | .args acc=>Z1t acc + 1
 | .object acc=>Z1t acc + 1
 | _=>0
theorem Z3x (l m:List Tree):Z1t (l ++ m)=Z1t l + Z1t m:=by
 induction l with
 | nil=>simp [Z1t]
 | cons x l ih=>simp only [List.cons_append,Z1t,ih]; omega
theorem Z0c (k:Int) (s:ByteArray) (n:Int) (l:List Tree):(Tree.mk k s n l).many=Z1t l + 1:=by simp [Tree.many]
theorem Z0x (x:Tree):Z1t [x]=x.many:=by simp [Z1t]
theorem Z2o (x y:Tree):Z1t [x,y]=x.many + y.many:=by simp [Z1t]
theorem Za3 (x y z:Tree):Z1t [x,y,z]=x.many + y.many + z.many:=by simp [Z1t]; omega
theorem Z1c:Z1t []=0:=by simp [Z1t]
theorem Zdm (x:Tree):x.many=Z1t x.kids + 1:=by cases x; simp [Tree.many,Tree.kids]
theorem Zbj:∀ (f:Nat) (job:Job) (d:Nat) (ts:List Tok),Bnd (job.base + 2 * ts.length) (Z0 f job d ts):=by
 intro f;induction f with
 | zero=>intro job d ts; exact Bnd.none
 | succ f ih =>
   intro job d ts;have htl:=Zz ts;have ih':∀ (job:Job) (d:Nat) (us:List Tok) {n:Nat},job.base + 2 * us.length≤n→Bnd n (Z0 f job d us):=fun job d us n h t vs hp=>Y4 (ih job d us t vs hp) h;cases job with
   | stmts kind acc =>
     rw [Z0];refine Bnd.ite (fun _=>Bnd.ok ?_) fun _=>Bnd.bind (Bnd.within (ih .stmt _ _)) fun t us h=>ih' _ _ _ ?_;·rw [Z0c]; simp only [Job.base]; omega
     ·simp only [Job.base,Z3x,Z0x] at *; omega
   | block body =>
     rw [Z0];refine Bnd.want fun h1=>Bnd.bind (ih (.stmts 6 []) _ _) fun t us h=>Bnd.want fun h2=>Bnd.ok ?_;simp only [Job.base,Z1c] at *;cases body;·simp only [Bool.false_eq_true,if_false]; rw [Z0c]; rw [Zdm] at h; omega
     ·simp only [if_true]; omega
   | func kind text =>
     rw [Z0];refine Bnd.want fun h1=>Bnd.bind (ih (.params []) _ _) fun t us h=>Bnd.want fun h2=>Bnd.bind (ih (.block true) _ _) fun t vs h3=>Bnd.ok ?_;simp only [Job.base,Z1c,Z0c,Z2o] at *; omega
   | params acc =>
     rw [Z0];refine Bnd.ite (fun _=>Bnd.ok ?_) fun _=>Bnd.comma fun us h=>Bnd.ite (fun _=>Bnd.fail) fun _=>Bnd.name fun s h2=>ih' _ _ _ ?_;·rw [Z0c]; simp only [Job.base]; omega
     ·simp only [Job.base,Z3x,Z0x,Z0c,Z1c] at *; omega
   | around =>
     rw [Z0];refine Bnd.want fun h1=>Bnd.bind (ih .value _ _) fun t us h=>Bnd.want fun h2=>Bnd.ok ?_;simp only [Job.base] at *; omega
   | stmt =>
     rw [Z0];refine Bnd.ite (fun h=>ih' _ _ _ (by simp only [Job.base]; omega)) fun _=>?_;refine Bnd.ite (fun h=>Bnd.ok (by have:=Zg h; simp only [Job.base,Z0c,Z1c]; omega)) fun _=>?_;refine Bnd.ite (fun h=>Bnd.bind (ih _ _ _) fun t us h2=>Bnd.end' (by simp only [Job.base] at *; omega)) fun _=>?_;refine Bnd.ite (fun h=>Bnd.bind (ih _ _ _) fun t us h2=>Bnd.end' (by simp only [Job.base] at *; omega)) fun _=>?_;refine Bnd.ite (fun h=>Bnd.bind (ih _ _ _) fun t us h2=>Bnd.end' (by simp only [Job.base] at *; omega)) fun _=>?_
     refine Bnd.ite (fun h=>Bnd.name fun s h2=>ih' _ _ _ (by simp only [Job.base]; omega)) fun _=>?_;refine Bnd.ite (fun h=>?_) fun _=>?_
     ·have:=Zg h;refine Bnd.bind (ih .around _ _) fun t us h2=>Bnd.bind (Bnd.within (ih .stmt _ _)) fun t vs h3=>?_;have:=Zz vs;exact Bnd.ite (fun h4=>Bnd.bind (Bnd.within (ih .stmt _ _)) fun t xs h5=>Bnd.ok (by simp only [Job.base,Z0c,Za3] at *; omega)) fun _=>Bnd.ok (by simp only [Job.base,Z0c,Z2o] at *; omega)
     refine Bnd.ite (fun h=>?_) fun _=>?_
     ·have:=Zg h;exact Bnd.bind (ih .around _ _) fun t us h2=>Bnd.bind (Bnd.within (ih .stmt _ _)) fun t vs h3=>Bnd.ok (by simp only [Job.base,Z0c,Z2o] at *; omega)
     refine Bnd.ite (fun h=>?_) fun _=>?_
     ·have:=Zg h;exact Bnd.bind (ih .around _ _) fun t us h2=>Bnd.bind (Bnd.within (ih .stmt _ _)) fun t vs h3=>Bnd.ok (by simp only [Job.base,Z0c,Z2o] at *; omega)
     refine Bnd.ite (fun h=>?_) fun _=>?_
     ·have:=Zg h;exact Bnd.ite (fun h1=>Bnd.end' (by simp only [Job.base,Z0c,Z1c] at *; omega)) fun _=>Bnd.bind (ih .value _ _) fun t us h2=>Bnd.end' (by simp only [Job.base,Z0c,Z0x] at *; omega)
     refine Bnd.ite (fun h=>?_) fun _=>?_
     ·have:=Zg h;exact Bnd.bind (ih .value _ _) fun t us h2=>Bnd.end' (by simp only [Job.base,Z0c,Z0x] at *; omega)
     refine Bnd.ite (fun h=>ih' _ _ _ (by have:=Zg h; simp only [Job.base]; omega)) fun _=>?_;exact Bnd.bind (ih .value _ _) fun t us h2=>Bnd.end' (by simp only [Job.base,Z0c,Z0x] at *; omega)
   | decl kind must =>
     rw [Z0];refine Bnd.name fun s h=>Bnd.ite (fun _=>Bnd.fail) fun _=>Bnd.ite (fun h2=>Bnd.bind (ih .value _ _) fun t us h3=>Bnd.ok ?_) fun _=>Bnd.ok ?_;·have:=Zz ts.tail; simp only [Job.base,Z0c,Z0x] at *; omega
     ·simp only [Job.base,Z0c,Z1c] at *; omega
   | try_ =>
     rw [Z0];refine Bnd.bind (ih (.block false) _ _) fun b us h=>?_;have hk:∀ (l:List Tree) (vs:List Tok),Z1t l + 2 * vs.length≤2 * ts.length→Bnd (1 + 2 * ts.length) (if isT Zf vs then Zh (Z0 f (.block false) d vs.tail) fun c ts=>okT (.mk 12 ByteArray.empty 0 (l ++ [.mk 14 ByteArray.empty 0 [c]])) ts else if l.length=1 then Z11 3 vs else okT (.mk 12 ByteArray.empty 0 l) vs):=by
      intro l vs h2;refine Bnd.ite (fun h3=>Bnd.bind (ih (.block false) _ _) fun t xs h4=>Bnd.ok ?_) fun _=>Bnd.ite (fun _=>Bnd.fail) fun _=>Bnd.ok ?_;·have:=Zg h3; simp only [Job.base,Z0c,Z3x,Z0x] at *; omega
      ·rw [Z0c]; omega
     refine Bnd.ite (fun h1=>?_) fun _=>hk _ _ (by simp only [Job.base,Z0x] at *; omega);have:=Zg h1;refine Bnd.want fun h2=>Bnd.name fun s h3=>Bnd.want fun h4=>Bnd.bind (ih (.block false) _ _) fun c vs h5=>hk _ _ ?_;simp only [Job.base,Z0c,Z0x,Z2o] at *; omega
   | value=>rw [Z0]; exact Bnd.within (ih' _ _ _ (by simp only [Job.base]; omega))
   | assign =>
     rw [Z0];refine Bnd.bind (ih (.bin 0) _ _) fun x us h=>Bnd.ite (fun h1=>Bnd.ite (fun _=>Bnd.bind (ih .value _ _) fun y vs h2=>Bnd.ok ?_) fun _=>Bnd.err) fun _=>Bnd.ok ?_;·have:=Zg h1; simp only [Job.base,Z0c,Z2o] at *; omega
     ·simp only [Job.base] at *; omega
   | bin level =>
     rw [Z0];refine Bnd.ite (fun h=>ih' _ _ _ (by simp only [Job.base]; omega)) fun h=>Bnd.bind (ih (.bin (level + 1)) _ _) fun x us h=>ih' _ _ _ (by simp only [Job.base] at *; omega)
   | binLoop level x =>
     rw [Z0];refine Bnd.ite (fun _=>Bnd.ok (by simp only [Job.base]; omega)) fun h0=>Bnd.bind (ih (.bin (level + 1)) _ _) fun y us h=>ih' _ _ _ ?_;have:=Z4j h0; simp only [Job.base,Z0c,Z2o] at *; omega
   | unary =>
     rw [Z0];refine Bnd.ite (fun _=>ih' _ _ _ (by simp only [Job.base]; omega)) fun h0=>Bnd.bind (Bnd.within (ih .unary _ _)) fun y us h=>Bnd.ok ?_;have:=Z6x h0; simp only [Job.base,Z0c,Z0x] at *; omega
   | postfix_ =>
     rw [Z0];exact Bnd.bind (ih .primary _ _) fun y us h=>ih' _ _ _ (by simp only [Job.base] at *; omega)
   | postLoop x =>
     rw [Z0];refine Bnd.ite (fun h=>Bnd.name fun s h2=>ih' _ _ _ ?_) fun _=>Bnd.ite (fun h=>?_) fun _=>Bnd.ok (by simp only [Job.base]; omega);·have:=Zg h; simp only [Job.base,Z0c,Z0x] at *; omega
     ·have:=Zg h;exact Bnd.bind (ih (.args [x]) _ _) fun y us h=>ih' _ _ _ (by simp only [Job.base,Z0x] at *; omega)
   | args acc =>
     rw [Z0];refine Bnd.ite (fun h=>Bnd.ok ?_) fun _=>Bnd.comma fun us h=>Bnd.ite (fun _=>Bnd.fail) fun _=>Bnd.bind (ih .value _ _) fun y vs h2=>ih' _ _ _ ?_;·rw [Z0c]; simp only [Job.base]; omega
     ·simp only [Job.base,Z3x,Z0x] at *; omega
   | primary =>
     rw [Z0];have:=Zz ts.tail;refine Bnd.ite (fun h=>Bnd.ok ?_) fun _=>Bnd.ite (fun h=>Bnd.ok ?_) fun _=>Bnd.ite (fun h=>Bnd.ok ?_) fun _=>Bnd.ite (fun h=>Bnd.ok ?_) fun _=>?_;·have:=Z1l (ts:=ts) (by omega); simp only [Job.base,Z0c,Z1c] at *; omega
     ·have:=Z1l (ts:=ts) (by omega); simp only [Job.base,Z0c,Z1c] at *; omega
     ·have:=Z1l (ts:=ts) (by omega); simp only [Job.base,Z0c,Z1c] at *; omega
     ·have:ts.tail.length < ts.length:=by
       unfold Z0j at h;by_cases h1:isT Z2i ts=true;·exact Zg h1
       ·by_cases h2 : isT Z1o ts = true;·exact Zg h2
        ·by_cases h3 : isT Z37 ts = true;·exact Zg h3
         ·by_cases h4 : isT Z0k ts = true;·exact Zg h4
          ·simp [h1,h2,h3,h4] at h
      simp only [Job.base,Z0c,Z1c] at *; omega
     refine Bnd.ite (fun _=>ih' _ _ _ (by simp only [Job.base]; omega)) fun _=>?_;refine Bnd.ite (fun _=>Bnd.ite (fun _=>ih' _ _ _ (by simp only [Job.base]; omega)) fun _=>ih' _ _ _ (by simp only [Job.base]; omega)) fun _=>?_;exact Bnd.ite (fun h=>ih' _ _ _ (by have:=Zg h; simp only [Job.base,Z1c]; omega)) fun _=>Bnd.fail
   | object acc =>
     rw [Z0];refine Bnd.ite (fun h=>Bnd.ok ?_) fun _=>Bnd.comma fun us h=>Bnd.ite (fun _=>Bnd.fail) fun _=>Bnd.name fun s h1=>Bnd.want fun h2=>Bnd.bind (ih .value _ _) fun y vs h3=>ih' _ _ _ ?_;·rw [Z0c]; simp only [Job.base]; omega
     ·simp only [Job.base,Z3x,Z0x,Z0c] at *; omega
def FAr (k:Int) (l:List Tree):Prop:=k=5∨k=37→∃ p b,l=[p,b]∧b.kind=6
theorem FAr.any {k:Int} {l:List Tree} (h:k≠5∧k≠37):FAr k l:=fun h'=>by omega
mutual
def FT:Tree→Prop
 | .mk k _ _ l=>FAr k l∧FTL l
def FTL:List Tree→Prop
 | []=>True
 | t :: l=>FT t∧FTL l
end
theorem Z6n {l m:List Tree} (h:FTL l) (g:FTL m):FTL (l ++ m):=by
 induction l with
 | nil=>exact g
 | cons x l ih=>exact ⟨h.1,ih h.2⟩
theorem FT.kids {t:Tree} (h:FT t):FTL t.kids:=by cases t; exact h.2
theorem FT.leaf {k:Int} {s:ByteArray} {n:Int} (h:k≠5∧k≠37):FT (.mk k s n []):=⟨FAr.any h,trivial⟩
def Fh (P:Tree→Prop) (p:PR):Prop:=∀ t ts,p=some (.ok (t,ts))→P t
theorem Fh.fail {P:Tree→Prop} {e:Int} {ts:List Tok}:Fh P (Z11 e ts):=by intro t ts' h; cases h
theorem Fh.none {P:Tree→Prop}:Fh P none:=by intro t ts' h; cases h
theorem Fh.err {P:Tree→Prop} {e:Int×Nat}:Fh P (some (.error e)):=by intro t ts' h; cases h
theorem Fh.ok {P:Tree→Prop} {t:Tree} {ts:List Tok} (h:P t):Fh P (okT t ts):=by
 intro t' ts' h';simp only [okT,Option.some.injEq,Except.ok.injEq,Prod.mk.injEq] at h';rw [← h'.1]; exact h
theorem Fh.bind {P Q:Tree→Prop} {p:PR} {k:Tree→List Tok→PR} (hp:Fh P p) (hk:∀ t ts,P t→Fh Q (k t ts)):Fh Q (Zh p k):=by
 cases p with
 | none=>exact Fh.none
 | some r =>
   cases r with
   | error e=>exact Fh.err
   | ok x=>obtain ⟨t,ts⟩:=x; exact hk t ts (hp t ts rfl)
theorem Fh.want {P:Tree→Prop} {s:ByteArray} {ts:List Tok} {k:List Tok→PR} (hk:Fh P (k ts.tail)):Fh P (Z00 s ts k):=by
 unfold Z00;by_cases h:isT s ts=true;·rw [Y5 h]; exact hk
 ·rw [Y3 h]; exact Fh.fail
theorem Fh.name {P:Tree→Prop} {ts:List Tok} {k:ByteArray→List Tok→PR} (hk:∀ s,Fh P (k s ts.tail)):Fh P (Z13 ts k):=by
 unfold Z13;by_cases h:(hdT ts).kind=1;·rw [Y5 h]; exact hk _
 ·rw [Y3 h]; exact Fh.fail
theorem Fh.within {P:Tree→Prop} {d:Nat} {ts:List Tok} {p:PR} (h:Fh P p):Fh P (Zj d ts p):=by
 unfold Zj;by_cases h':30 < d + 1;·rw [Y5 h']; exact Fh.fail
 ·rw [Y3 h']; exact h
theorem Fh.ite {P:Tree→Prop} {c:Prop} [Decidable c] {p q:PR} (hp:c→Fh P p) (hq:¬ c→Fh P q):Fh P (if c then p else q):=by
 by_cases h:c;·rw [Y5 h]; exact hp h
 ·rw [Y3 h]; exact hq h
theorem Fh.comma {P:Tree→Prop} {c:Prop} [Decidable c] {ts:List Tok} {k:List Tok→PR} (hk:∀ ts',Fh P (k ts')):Fh P ((if c then Z00 Z07 ts else fun k=>k ts) k):=by
 by_cases h:c;·rw [Y5 h]; exact Fh.want (hk _)
 ·rw [Y3 h]; exact hk _
theorem Fh.end' {P:Tree→Prop} {t:Tree} {ts:List Tok} (h:P t):Fh P (endT t ts):=Fh.want (Fh.ok h)
theorem Fh.weak {P Q:Tree→Prop} {p:PR} (h:Fh P p) (g:∀ t,P t→Q t):Fh Q p:=fun t ts e=>g t (h t ts e)
def Job.res:Job→Tree→Prop
 | .stmts kind _=>fun t=>FT t∧t.kind=kind
 | .block _=>fun t=>FT t∧t.kind=6
 | _=>FT
def Job.goodX:Job→Prop
 | .stmts kind acc=>(kind=1∨kind=6)∧FTL acc
 | .func kind _=>kind=5∨kind=37
 | .params acc=>FTL acc
 | .decl kind _=>kind=2∨kind=3∨kind=4
 | .binLoop _ x=>FT x
 | .postLoop x=>FT x
 | .args acc=>FTL acc∧acc≠[]
 | .object acc=>FTL acc
 | _=>True
theorem Zcs (lv:Nat) (ts:List Tok):Z03 lv ts=0∨(25≤Z03 lv ts∧Z03 lv ts≤31):=by
 unfold Z03;split <;> (try split) <;> (try split) <;> omega
theorem Zce (ts:List Tok):Z0i ts=0∨(32≤Z0i ts∧Z0i ts≤34):=by
 unfold Z0i;split <;> (try split) <;> (try split) <;> omega
theorem Zc3 (ts:List Tok):Z0j ts=0∨(19≤Z0j ts∧Z0j ts≤22):=by
 unfold Z0j;split <;> (try split) <;> (try split) <;> (try split) <;> omega
theorem Z9a {k:Int} {s:ByteArray} {n:Int} {x y:Tree} (hx:FT x) (hy:FT y) (h:k≠5∧k≠37):FT (.mk k s n [x,y]):=⟨FAr.any h,hx,hy,trivial⟩
theorem Z4o {k:Int} {s:ByteArray} {n:Int} {x:Tree} (hx:FT x) (h:k≠5∧k≠37):FT (.mk k s n [x]):=⟨FAr.any h,hx,trivial⟩
theorem Z57 {k:Int} {s:ByteArray} {n:Int} {l:List Tree} (hx:FTL l) (h:k≠5∧k≠37):FT (.mk k s n l):=⟨FAr.any h,hx⟩
theorem Zab:∀ (f:Nat) (job:Job) (d:Nat) (ts:List Tok),job.goodX→Fh job.res (Z0 f job d ts):=by
 intro f;induction f with
 | zero=>intro job d ts _; unfold Z0; exact Fh.none
 | succ f ih =>
   intro job d ts hg;cases job with
   | stmts kind acc =>
     unfold Z0;show Fh (fun t=>FT t∧t.kind=kind) _;refine Fh.ite (fun _=>Fh.ok ⟨Z57 hg.2 (by have:=hg.1; omega),rfl⟩) fun _=>?_;exact Fh.bind (Fh.within (ih .stmt _ _ trivial)) fun t ts' h=>ih _ _ _ ⟨hg.1,Z6n hg.2 ⟨h,trivial⟩⟩
   | block body =>
     unfold Z0;refine Fh.want (Fh.bind (ih (.stmts 6 []) _ _ ⟨.inr rfl,trivial⟩) fun t ts' h'=>Fh.want (Fh.ok ?_));show FT _∧_;by_cases hb:body=true;·rw [Y5 hb]; exact h'
     ·rw [Y3 hb]; exact ⟨Z57 h'.1.kids (by omega),rfl⟩
   | func kind text =>
     unfold Z0;show Fh FT _;exact Fh.want (Fh.bind (ih (.params []) _ _ trivial) fun t ts' h'=>Fh.want (Fh.bind (ih (.block true) _ _ trivial) fun t ts' h3=>Fh.ok ⟨fun _=>⟨_,_,rfl,h3.2⟩,h',h3.1,trivial⟩))
   | params acc =>
     unfold Z0;show Fh FT _;refine Fh.ite (fun _=>Fh.ok (Z57 hg (by omega))) fun _=>?_;exact Fh.comma fun ts'=>Fh.ite (fun _=>Fh.fail) fun _=>Fh.name fun s=>ih _ _ _ (Z6n hg ⟨FT.leaf (by omega),trivial⟩)
   | around =>
     unfold Z0;show Fh FT _;exact Fh.want (Fh.bind (ih .value _ _ trivial) fun t ts' h'=>Fh.want (Fh.ok h'))
   | stmt =>
     unfold Z0;show Fh FT _;refine Fh.ite (fun h=>(ih (.block false) _ _ trivial).weak fun _ h=>h.1) fun _=>?_;refine Fh.ite (fun h=>Fh.ok (FT.leaf (by omega))) fun _=>?_;refine Fh.ite (fun h=>Fh.bind (ih (.decl 2 false) _ _ (.inl rfl)) fun t us h2=>Fh.end' h2) fun _=>?_;refine Fh.ite (fun h=>Fh.bind (ih (.decl 3 false) _ _ (.inr (.inl rfl))) fun t us h2=>Fh.end' h2) fun _=>?_;refine Fh.ite (fun h=>Fh.bind (ih (.decl 4 true) _ _ (.inr (.inr rfl))) fun t us h2=>Fh.end' h2) fun _=>?_;refine Fh.ite (fun h=>Fh.name fun s=>ih _ _ _ (.inl rfl)) fun _=>?_
     refine Fh.ite (fun h=>Fh.bind (ih .around _ _ trivial) fun x us h2=>Fh.bind (Fh.within (ih .stmt _ _ trivial)) fun y vs h3=>Fh.ite (fun h4=>Fh.bind (Fh.within (ih .stmt _ _ trivial)) fun z xs h5=>Fh.ok ⟨FAr.any (by omega),h2,h3,h5,trivial⟩) fun _=>Fh.ok (Z9a h2 h3 (by omega))) fun _=>?_;refine Fh.ite (fun h=>Fh.bind (ih .around _ _ trivial) fun t us h2=>Fh.bind (Fh.within (ih .stmt _ _ trivial)) fun t vs h3=>Fh.ok (Z9a h2 h3 (by omega))) fun _=>?_
     refine Fh.ite (fun h=>Fh.bind (ih .around _ _ trivial) fun t us h2=>Fh.bind (Fh.within (ih .stmt _ _ trivial)) fun t vs h3=>Fh.ok (Z9a h2 h3 (by omega))) fun _=>?_;refine Fh.ite (fun h=>Fh.ite (fun h1=>Fh.end' (FT.leaf (by omega))) (fun _=>Fh.bind (ih .value _ _ trivial) fun t us h2=>Fh.end' (Z4o h2 (by omega)))) fun _=>?_;refine Fh.ite (fun h=>Fh.bind (ih .value _ _ trivial) fun t us h2=>Fh.end' (Z4o h2 (by omega))) fun _=>?_;refine Fh.ite (fun h=>ih _ _ _ trivial) fun _=>?_;exact Fh.bind (ih .value _ _ trivial) fun t us h2=>Fh.end' (Z4o h2 (by omega))
   | decl kind must =>
     have hk:kind=2∨kind=3∨kind=4:=hg;unfold Z0;show Fh FT _;exact Fh.name fun s=>Fh.ite (fun _=>Fh.fail) fun _=>Fh.ite (fun h2=>Fh.bind (ih .value _ _ trivial) fun t us h3=>Fh.ok (Z4o h3 (by omega))) fun _=>Fh.ok (FT.leaf (by omega))
   | try_ =>
     unfold Z0;show Fh FT _;refine Fh.bind (ih (.block false) _ _ trivial) fun b us h=>?_;have hk:∀ (l:List Tree) (vs:List Tok),FTL l→Fh FT (if isT Zf vs then Zh (Z0 f (.block false) d vs.tail) fun c ts=>okT (.mk 12 ByteArray.empty 0 (l ++ [.mk 14 ByteArray.empty 0 [c]])) ts else if l.length=1 then Z11 3 vs else okT (.mk 12 ByteArray.empty 0 l) vs):=by
      intro l vs h2;exact Fh.ite (fun _=>Fh.bind (ih (.block false) _ _ trivial) fun t xs h3=>Fh.ok (Z57 (Z6n h2 ⟨Z4o h3.1 (by omega),trivial⟩) (by omega))) fun _=>Fh.ite (fun _=>Fh.fail) fun _=>Fh.ok (Z57 h2 (by omega))
     refine Fh.ite (fun h1=>?_) fun _=>hk _ _ ⟨h.1,trivial⟩;exact Fh.want (Fh.name fun s=>Fh.want (Fh.bind (ih (.block false) _ _ trivial) fun c vs h5=>hk _ _ ⟨h.1,Z4o h5.1 (by omega),trivial⟩))
   | value=>unfold Z0; exact Fh.within (ih _ _ _ trivial)
   | assign =>
     unfold Z0;show Fh FT _;exact Fh.bind (ih (.bin 0) _ _ trivial) fun x us h=>Fh.ite (fun h1=>Fh.ite (fun _=>Fh.bind (ih .value _ _ trivial) fun y vs h2=>Fh.ok (Z9a h h2 (by omega))) fun _=>Fh.err) fun _=>Fh.ok h
   | bin level =>
     unfold Z0;show Fh FT _;exact Fh.ite (fun _=>ih _ _ _ trivial) fun _=>Fh.bind (ih (.bin (level + 1)) _ _ trivial) fun x us h=>ih _ _ _ h
   | binLoop level x =>
     unfold Z0;show Fh FT _;exact Fh.ite (fun _=>Fh.ok hg) fun h0=>Fh.bind (ih (.bin (level + 1)) _ _ trivial) fun y us h=>ih _ _ _ (show Job.goodX (.binLoop level (.mk (Z03 level ts) ByteArray.empty 0 [x,y])) from Z9a (s:=ByteArray.empty) (n:=0) hg h (by have:=Zcs level ts; omega))
   | unary =>
     unfold Z0;show Fh FT _;exact Fh.ite (fun _=>ih _ _ _ trivial) fun h0=>Fh.bind (Fh.within (ih .unary _ _ trivial)) fun x us h=>Fh.ok (Z4o h (by have:=Zce ts; omega))
   | postfix_ =>
     unfold Z0;show Fh FT _;exact Fh.bind (ih .primary _ _ trivial) fun x us h=>ih _ _ _ h
   | postLoop x =>
     unfold Z0;show Fh FT _;exact Fh.ite (fun _=>Fh.name fun s=>ih _ _ _ (show Job.goodX (.postLoop (.mk 36 s 0 [x])) from Z4o (s:=s) (n:=0) hg (by omega))) fun _=>Fh.ite (fun _=>Fh.bind (ih (.args [x]) _ _ ⟨⟨hg,trivial⟩,by simp⟩) fun n us h=>ih _ _ _ h) fun _=>Fh.ok hg
   | args acc =>
     unfold Z0;show Fh FT _;refine Fh.ite (fun _=>Fh.ok ⟨FAr.any (by omega),hg.1⟩) fun _=>?_;exact Fh.comma fun ts'=>Fh.ite (fun _=>Fh.fail) fun _=>Fh.bind (ih .value _ _ trivial) fun v us h=>ih _ _ _ ⟨Z6n hg.1 ⟨h,trivial⟩,by simp⟩
   | primary =>
     unfold Z0;show Fh FT _;refine Fh.ite (fun h=>Fh.ok (FT.leaf (by omega))) fun _=>?_;refine Fh.ite (fun h=>Fh.ok (FT.leaf (by omega))) fun _=>?_;refine Fh.ite (fun h=>Fh.ok (FT.leaf (by omega))) fun _=>?_;refine Fh.ite (fun h=>Fh.ok (FT.leaf (by have:=Zc3 ts; omega))) fun _=>?_;refine Fh.ite (fun h=>ih _ _ _ trivial) fun _=>?_;refine Fh.ite (fun h=>Fh.ite (fun _=>ih _ _ _ (.inr rfl)) fun _=>ih _ _ _ (.inr rfl)) fun _=>?_;exact Fh.ite (fun h=>ih _ _ _ trivial) fun _=>Fh.fail
   | object acc =>
     unfold Z0;show Fh FT _;refine Fh.ite (fun _=>Fh.ok (Z57 hg (by omega))) fun _=>?_;exact Fh.comma fun ts'=>Fh.ite (fun _=>Fh.fail) fun _=>Fh.name fun s=>Fh.want (Fh.bind (ih .value _ _ trivial) fun v us h=>ih _ _ _ (Z6n hg ⟨Z4o h (by omega),trivial⟩))
theorem Z76 {text:ByteArray} {t:Tree} (h:Zi text=.ok t):FT t∧t.kind=1:=by
 unfold Zi at h;split at h;·cases h
 ·split at h;·cases h
  ·rename_i ts _;split at h;·cases h
   ·cases h
   ·rename_i t' ts' hp;split at h;·cases h
    ·have e : t' = t := by simpa using h
     subst e;exact Zab _ _ _ _ (show Job.goodX (.stmts 1 []) from ⟨.inl rfl,trivial⟩) _ _ hp
theorem Z7m {text:ByteArray} {j k:Nat} {t:Tok} (h:Z0g text j=.ok (t,k)):t.kind≠6∧(t.kind=2→Z1q t.text=true)∧(t.kind=5→t.text=text.extract j (j + Zl text j)∧Z01 (Z2 text j)=false):=by
 unfold Z0g at h;simp only at h;split at h
 ·rename_i hl;split at h
  ·rename_i hw;simp only [Except.ok.injEq,Prod.mk.injEq] at h;obtain ⟨rfl,_⟩:=h;exact ⟨by simp,fun _=>hw,(fun h=>by simp at h)⟩
  ·split at h;·cases h
   ·simp only [Except.ok.injEq,Prod.mk.injEq] at h;obtain ⟨rfl,_⟩:=h;exact ⟨by simp,(fun h=>by simp at h),(fun h=>by simp at h)⟩
 ·rename_i hl;split at h
  ·split at h;·cases h
   ·split at h;·cases h
    ·simp only [Except.ok.injEq,Prod.mk.injEq] at h;obtain ⟨rfl,_⟩:=h;exact ⟨by simp,(fun h=>by simp at h),(fun h=>by simp at h)⟩
  ·split at h
   ·split at h;·cases h
    ·split at h;·cases h
     ·simp only [Except.ok.injEq,Prod.mk.injEq] at h;obtain ⟨rfl,_⟩:=h;exact ⟨by simp,(fun h=>by simp at h),(fun h=>by simp at h)⟩
   ·split at h;·cases h
    ·simp only [Except.ok.injEq,Prod.mk.injEq] at h;obtain ⟨rfl,_⟩:=h;exact ⟨by simp,(fun h=>by simp at h),fun _=>⟨rfl,by simpa using hl⟩⟩
theorem Zd7 {s:ByteArray} (h:Z1q s=true):Z8a s=0:=by
 refine Decidable.byContradiction fun hs=>?_;have key:s=s_or∨s=Z77∨s=Z4c∨s=Z4d∨s=Z6e∨s=Z7c∨s=Z7i:=by
  unfold Z8a Z0r at hs;simp only [decide_eq_true_eq] at hs;by_cases h1:s=s_or;·exact .inl h1
  by_cases h2:s=Z77;·exact .inr (.inl h2)
  by_cases h3:s=Z4c;·exact .inr (.inr (.inl h3))
  by_cases h4:s=Z4d;·exact .inr (.inr (.inr (.inl h4)))
  by_cases h5:s=Z6e;·exact .inr (.inr (.inr (.inr (.inl h5))))
  by_cases h6:s=Z7c;·exact .inr (.inr (.inr (.inr (.inr (.inl h6)))))
  by_cases h7:s=Z7i;·exact .inr (.inr (.inr (.inr (.inr (.inr h7)))))
  simp [h1,h2,h3,h4,h5,h6,h7] at hs
 have no:∀ x,Z1q x=false→s=x→False:=fun x h1 h2=>by rw [h2,h1] at h; cases h
 rcases key with e | e | e | e | e | e | e;all_goals exact no _ (by kernel_rfl) e
theorem Z8v {s:ByteArray} (h:Zdu s≠0):Z01 (Z2 s 0)=true∧0 < s.size:=by
 unfold Zdu at h;by_cases h1:Z0r s Z2i=true
 ·have : s = Z2i := by simpa [Z0r] using h1
  subst this; exact ⟨by kernel_rfl,by decide⟩
 by_cases h2:Z0r s Z1o=true
 ·have : s = Z1o := by simpa [Z0r] using h2
  subst this; exact ⟨by kernel_rfl,by decide⟩
 by_cases h3:Z0r s Z37=true
 ·have : s = Z37 := by simpa [Z0r] using h3
  subst this; exact ⟨by kernel_rfl,by decide⟩
 by_cases h4:Z0r s Z0k=true
 ·have : s = Z0k := by simpa [Z0r] using h4
  subst this; exact ⟨by kernel_rfl,by decide⟩
 simp [h1,h2,h3,h4] at h
theorem Zay {text:ByteArray} {j k:Nat} {t:Tok} (hj:j < text.size) (h:Z0g text j=.ok (t,k)):Zf3 t:=by
 obtain ⟨_,h2,h5⟩:=Z7m h;refine ⟨fun hk=>Zd7 (h2 hk),fun hk=>?_⟩;obtain ⟨ht,hl⟩:=h5 hk;refine Decidable.byContradiction fun hc=>?_;obtain ⟨hb,hs⟩:=Z8v hc;have hsz:0 < Zl text j:=by
  unfold Zl;split;·omega
  ·split;·omega
   ·split <;> omega
 have hp:Z2 t.text 0=Z2 text j:=by
  rw [ht];have hle:(text.extract j (j + Zl text j)).size≤Zl text j:=by rw [ByteArray.size_extract]; omega
  by_cases hk:j + Zl text j≤text.size;·rw [Za text (by omega) hk]; rfl
  ·have e:text.extract j (j + Zl text j)=text.extract j text.size:=by
    apply ByteArray.ext;simp only [ByteArray.data_extract];apply Array.ext
    ·simp only [Array.size_extract];have:text.size=text.data.size:=rfl;omega
    ·intro i h1 h2; simp only [Array.getElem_extract]
   rw [e,Za text (by omega) (Y0 _)]; rfl
 rw [hp,hl] at hb;cases hb
theorem Z6w {text:ByteArray}:∀ (r:List Tok) (i:Nat),i≤text.size→Z3y text i r→(∃ l e,r=l ++ [e]∧e.kind=6∧∀ t∈l,t.kind≠6)∧r.length + i≤text.size + 1∧Z5h r:=by
 intro r;induction r with
 | nil=>intro i _ h; exact h.elim
 | cons t r ih =>
   intro i hi h;cases r with
   | nil =>
     obtain ⟨h1,h2⟩:=h;refine ⟨⟨[],t,rfl,by rw [h2],fun t ht=>by cases ht⟩,by simp; omega,fun x hx=>?_⟩;simp only [List.mem_singleton] at hx;subst hx;rw [h2];exact ⟨fun h=>by simp at h,fun h=>by simp at h⟩
   | cons u r =>
     obtain ⟨k,h1,h2,h3⟩:=h;obtain ⟨c1,c2,_⟩:=Z0o text h1 h2;obtain ⟨s1,_,_,_⟩:=Z02 Zn text (text.size - i) i (Y0 _) hi;obtain ⟨⟨l,e,h4,h5,h6⟩,h7,h8⟩:=ih k c2 h3;refine ⟨⟨t :: l,e,by rw [h4]; rfl,h5,fun x hx=>?_⟩,?_,fun x hx=>?_⟩
     ·rcases List.mem_cons.1 hx with rfl | hx;·exact (Z7m h2).1
      ·exact h6 x hx
     ·simp only [List.length_cons] at h7 ⊢; omega
     ·rcases List.mem_cons.1 hx with rfl | hx;·exact Zay h1 h2
      ·exact h8 x hx
end Go.Proofs.YtedopiahfejdfaaGreatDoor
