/- Package tree: the kinds of what is read. -/
import Derived.Test.YtjcgkdfeplbajaaGreatDoorJ08
import Derived.Laws.Pointers
import Derived.Laws.LoneSync
import Derived.RegionTactic
import Derived.RegionCalls
import Derived.ChangeAlike
namespace Go.Proofs.YtjcgkdfeplbajaaGreatDoor
open Go Go.RowKit
set_option maxRecDepth 100000
set_option maxHeartbeats 20000000
theorem Z21 {t t':Tree} {ts ts':List Tok} (h:okT t ts=some (.ok (t',ts'))):t=t'∧ts=ts':=by simpa [okT] using h
theorem Z0t {p:PR} {k:Tree→List Tok→PR} {t:Tree} {ts:List Tok} (h:Zz p k=some (.ok (t,ts))):∃ x us,p=some (.ok (x,us))∧k x us=some (.ok (t,ts)):=by
 rcases Zp h with ⟨e,_,he⟩ | h;·cases he
 ·exact h
theorem Z3h {s:ByteArray} {us:List Tok} {k:List Tok→PR} {t:Tree} {ts:List Tok} (h:Z0i s us k=some (.ok (t,ts))):isT s us=true∧k us.tail=some (.ok (t,ts)):=by
 rcases Z17 h with h | ⟨_,h⟩;·exact h
 ·cases h
theorem Z76 {us:List Tok} {k:ByteArray→List Tok→PR} {t:Tree} {ts:List Tok} (h:Z1m us k=some (.ok (t,ts))):(hdT us).kind=1∧k (hdT us).text us.tail=some (.ok (t,ts)):=by
 rcases Z2a h with h | ⟨_,h⟩;·exact h
 ·cases h
theorem Z62 {f d:Nat} {k:Int} {m:Bool} {us ts:List Tok} {t:Tree} (h:Z0 f (.decl k m) d us=some (.ok (t,ts))):t.kind=k:=by
 cases f with
 | zero=>cases h
 | succ f =>
   obtain ⟨_,h⟩:=Z76 h;split at h;·cases h
   ·split at h
    ·obtain ⟨x,vs,_,h⟩:=Z0t h;obtain ⟨rfl,_⟩:=Z21 h; rfl
    ·obtain ⟨rfl,_⟩:=Z21 h; rfl
theorem Zc5 {f d:Nat} {k:Int} {s:ByteArray} {us ts:List Tok} {t:Tree} (h:Z0 f (.func k s) d us=some (.ok (t,ts))):t.kind=k:=by
 cases f with
 | zero=>cases h
 | succ f =>
   obtain ⟨_,h⟩:=Z3h h;obtain ⟨x,vs,_,h⟩:=Z0t h;obtain ⟨_,h⟩:=Z3h h;obtain ⟨x,vs,_,h⟩:=Z0t h;obtain ⟨rfl,_⟩:=Z21 h; rfl
theorem Z9u:∀ {f d:Nat} {k:Int} {acc:List Tree} {us ts:List Tok} {t:Tree},Z0 f (.stmts k acc) d us=some (.ok (t,ts))→t.kind=k:=by
 intro f;induction f with
 | zero=>intro d k acc us ts t h; cases h
 | succ f ih =>
   intro d k acc us ts t h;rw [Z0] at h;generalize (if k=1 then decide ((hdT us).kind=6) else isT Z03 us)=c at h;cases c
   ·obtain ⟨x,vs,_,h⟩:=Z0t h;exact ih h
   ·obtain ⟨rfl,_⟩:=Z21 h; rfl
theorem Zam {f d:Nat} {b:Bool} {us ts:List Tok} {t:Tree} (h:Z0 f (.block b) d us=some (.ok (t,ts))):t.kind=6:=by
 cases f with
 | zero=>cases h
 | succ f =>
   obtain ⟨_,h⟩:=Z3h h;obtain ⟨x,vs,hx,h⟩:=Z0t h;obtain ⟨_,h⟩:=Z3h h;obtain ⟨h1,_⟩:=Z21 h;cases b;·simp at h1; rw [← h1]; rfl
   ·simp at h1; rw [← h1]; exact Z9u hx
theorem Zcv {f d:Nat} {us ts:List Tok} {t:Tree} (h:Z0 f .try_ d us=some (.ok (t,ts))):t.kind=12:=by
 cases f with
 | zero=>cases h
 | succ f =>
   have key:∀ (l:List Tree) (us:List Tok),(if isT Zs us=true then Zz (Z0 f (.block false) d us.tail) fun c ts=>okT (.mk 12 ByteArray.empty 0 (l ++ [.mk 14 ByteArray.empty 0 [c]])) ts else if l.length=1 then Z1k 3 us else okT (.mk 12 ByteArray.empty 0 l) us)=some (.ok (t,ts))→t.kind=12:=by
    intro l us h;by_cases c:isT Zs us=true
    ·rw [Y5 c] at h;obtain ⟨x,vs,hx,h⟩:=Z0t h;obtain ⟨rfl,_⟩:=Z21 h; rfl
    ·rw [Y3 c] at h;by_cases c2 : l.length = 1;·rw [Y5 c2] at h; cases h
     ·rw [Y3 c2] at h; obtain ⟨rfl,_⟩:=Z21 h; rfl
   rw [Z0] at h;obtain ⟨x,vs,hx,h⟩:=Z0t h;dsimp only at h
   by_cases c:isT Z10 vs=true
   ·rw [Y5 c] at h;obtain ⟨_,h⟩:=Z3h h;obtain ⟨_,h⟩:=Z76 h;obtain ⟨_,h⟩:=Z3h h;obtain ⟨x,vs,hx,h⟩:=Z0t h;exact key _ _ h
   ·rw [Y3 c] at h;exact key _ _ h
theorem Z79 {f d:Nat} {us ts:List Tok} {t:Tree} (h:Z0 (f + 1) .stmt d us=some (.ok (t,ts))) (hk:t.kind=15):t.kids≠[]:=by
 have hend:∀ {n:Tree} {vs:List Tok},endT n vs=some (.ok (t,ts))→n=t:=fun h=>(Z21 (Z3h h).2).1;rw [Z0] at h;by_cases c0:isT Z0u us=true
 ·rw [Y5 c0] at h;have:=Zam h; omega
 rw [Y3 c0] at h;by_cases c1:isT Z1x us=true
 ·rw [Y5 c1] at h;obtain ⟨rfl,_⟩:=Z21 h; cases hk
 rw [Y3 c1] at h;by_cases c2:isT Z5f us=true
 ·rw [Y5 c2] at h;obtain ⟨x,vs,hx,h⟩:=Z0t h;have:=Z62 hx; have:=hend h; subst this; omega
 rw [Y3 c2] at h;by_cases c3:isT Z63 us=true
 ·rw [Y5 c3] at h;obtain ⟨x,vs,hx,h⟩:=Z0t h;have:=Z62 hx; have:=hend h; subst this; omega
 rw [Y3 c3] at h;by_cases c4:isT Z32 us=true
 ·rw [Y5 c4] at h;obtain ⟨x,vs,hx,h⟩:=Z0t h;have:=Z62 hx; have:=hend h; subst this; omega
 rw [Y3 c4] at h;by_cases c5:isT Z0g us=true
 ·rw [Y5 c5] at h;obtain ⟨_,h⟩:=Z76 h;have:=Zc5 h; omega
 rw [Y3 c5] at h;by_cases c6:isT s_if us=true
 ·rw [Y5 c6] at h;obtain ⟨x, vs, hx, h⟩ := Z0t h;obtain ⟨y, vs, hx, h⟩ := Z0t h;split at h
  ·obtain ⟨z,vs,hx,h⟩:=Z0t h;obtain ⟨rfl,_⟩:=Z21 h; cases hk
  ·obtain ⟨rfl,_⟩:=Z21 h; cases hk
 rw [Y3 c6] at h;by_cases c7:isT Z2v us=true
 ·rw [Y5 c7] at h;obtain ⟨x,vs,hx,h⟩:=Z0t h;obtain ⟨y,vs,hx,h⟩:=Z0t h;obtain ⟨rfl,_⟩:=Z21 h; cases hk
 rw [Y3 c7] at h;by_cases c8:isT Z3t us=true
 ·rw [Y5 c8] at h;obtain ⟨x,vs,hx,h⟩:=Z0t h;obtain ⟨y,vs,hx,h⟩:=Z0t h;obtain ⟨rfl,_⟩:=Z21 h; cases hk
 rw [Y3 c8] at h;by_cases c9:isT Z26 us=true
 ·rw [Y5 c9] at h;split at h;·have := hend h; subst this; cases hk
  ·obtain ⟨x,vs,hx,h⟩:=Z0t h;have:=hend h; subst this; cases hk
 rw [Y3 c9] at h;by_cases c10:isT Z2t us=true
 ·rw [Y5 c10] at h;obtain ⟨x,vs,hx,h⟩:=Z0t h;have:=hend h; subst this; cases hk
 rw [Y3 c10] at h;by_cases c11:isT Z4e us=true
 ·rw [Y5 c11] at h;have:=Zcv h; omega
 rw [Y3 c11] at h;obtain ⟨x,vs,hx,h⟩:=Z0t h;have:=hend h; subst this;simp [Tree.kids]
end Go.Proofs.YtjcgkdfeplbajaaGreatDoor
namespace Go.Proofs.YtjcgkdfeplbajaaGreatDoor
open Go Go.RowKit
set_option maxRecDepth 100000
set_option maxHeartbeats 20000000
set_option linter.unusedVariables false
theorem Tryz.infoPtr:(Tryz.prog.info? 22).map (fun i=>(i.zero,i.size,i.bytes))=some (some (.pointer none),1,8):=by kernel_rfl
def leftOf (w:World) (rb:Nat):Nat:=match w.cell? ⟨rb,0,none⟩ with | some (.slice _ n _)=>n | _=>0
theorem Rd.left {w:World} {rb:Nat} {ts:List Tok} {d:Nat} (h:Rd w rb ts d):leftOf w rb=ts.length:=by
 obtain ⟨tb,off,cap,h⟩:=h;unfold leftOf;rw [h.c0]
theorem Z9x (F:Nat) (hS:∀ g,g < F→Says 31 rArg .stmt g) :
 Says 12 (fun rb=>#[.pointer (some ⟨rb,0,none⟩),.int .i64 6,.string Z03]) (.stmts 6 []) F:=by
 intro w rb B d ts r hP hp;have HC:=lh (Z0a w rb 6 ⟨#[]⟩ none 0 0);have HP:=lh hP;have HQ:=lh hp;have HS:=lh hS;have hmf:∀ (fn:Fn) (first cap:Array Value) (w:World),(Instr.makeFunc fn first cap).run Tryz.prog w=.ok (.func fn first cap) w:=fun _ _ _ _=>rfl;obtain ⟨nb,hnb⟩:=zX w.heap.size
 have G0:=Got.leaf (k:=6) (t:=⟨#[]⟩) (n:=0) hP.le (RFr.refl w rb);have R0:=hP.rd.below ((Y2 _ _).alloc (Y0 _) (.cells #[.int .i64 6,.string ⟨#[]⟩,.int .i64 0,.slice none 0 0] 34));have F0:RFr w (w.alloc (.cells #[.int .i64 6,.string ⟨#[]⟩,.int .i64 0,.slice none 0 0] 34)) rb:=RFr.below ((Y2 _ _).alloc (Y0 _) _);rw [← hnb] at G0 HC;unfold Z03;clear hP hp hS;simp only;go_enter Tryz.func12,Tryz.ntmps12
 go_wp2_with fail
 refine HC.out.mono ?_;rintro e w1 ⟨rfl,hw1⟩;rw [← hw1] at G0 R0 F0;have hst:∃ (g:Nat) (acc:List Tree) (us:List Tok) (v:Value) (kids:List ATree),g≤F∧Z0 g (.stmts 6 acc) d us=some r∧Got w B w1 (.mk nb v 6 ⟨#[]⟩ 0 kids) (.mk 6 ⟨#[]⟩ 0 acc)∧Rd w1 rb us d∧RFr w w1 rb∧acc.length + us.length≤ts.length∧(∀ x∈acc,x.kind=15→x.kids≠[]):=
  ⟨F,[],ts,_,[],Y0 _,HQ.out,G0,R0,F0,by simp,fun x hx=>by cases hx⟩
 have ST:=lh hst;have HNB:=lh hnb;clear hst hw1 G0 R0 F0 HC hnb;go_wp2_with fail
 go_loopw [] (fun wr=>∃ (g:Nat) (acc:List Tree) (us:List Tok) (v:Value) (kids:List ATree),g≤F∧Z0 g (.stmts 6 acc) d us=some r∧Got w B wr (.mk nb v 6 ⟨#[]⟩ 0 kids) (.mk 6 ⟨#[]⟩ 0 acc)∧Rd wr rb us d∧RFr w wr rb∧acc.length + us.length≤ts.length∧(∀ x∈acc,x.kind=15→x.kids≠[])) (fun wr=>leftOf wr rb)
 case atStart=>exact ST.out
 case round=>
  obtain ⟨g,acc,us,v,kids,hg,hq,hG,hR,hF,hl,hx⟩:=hrel;have G:=lh hG;have R:=lh hR;have FF:=lh hF;have HX:=lh hx;have RL:=lh hR.left;cases g with
  | zero=>cases hq
  | succ g=>
  rw [Z0] at hq;have HB:=Z2k wr rb us d Z03 hR;by_cases hb:isT Z03 us=true
  ·rw [hb] at HB;rw [Y5 (by rw [Y3 (by omega)]; exact hb)] at hq;have hr := Yc hq;have HRr := lh hr.symm;have HB := lh HB;unfold Z03 at HB;clear hG hR hF hq hr hb hx ST;go_wp2_with fail
   refine HB.out.mono ?_;rintro e w2 ⟨rfl,hB2⟩;have hlt:=HP.out.lt;have F2:=lh (FF.out.trans (RFr.below (rb:=rb) hB2));have G2:=lh (G.out.rfr hlt (RFr.below (rb:=rb) hB2));have R2:=lh (R.out.below hB2);have hblk:=G2.out.at'.blkOf;have hrow:=G2.out.at'.rowOf;simp only [ATree.b,ATree.v,ATree.kind,ATree.text,ATree.n,ATree.kids] at hblk hrow;have n3:w2.cell? ⟨nb,3,none⟩=some v:=by simp [World.cell?,hblk]
   have nz:w2.frozen? ⟨nb,1,none⟩=false:=by simp [World.frozen?,hblk]
   have nc1:w2.cell? ⟨nb,1,none⟩=some (.string ⟨#[]⟩):=by simp [World.cell?,hblk]
   have htr:=G2.out.tree;simp only [ATree.tree,Tree.mk.injEq,true_and] at htr;have fin0:Z1y acc=false→Z01 w rb B d r (.returned (.pointer (some ⟨nb,0,none⟩))) w2:=fun h=>by
    rw [HRr.out,h];exact ⟨_,rfl,G2.out,R2.out,F2.out⟩
   have FIN0:=lh fin0;have fin1:Z1y acc=true→Z01 w rb B d r (.returned (.pointer (some ⟨nb,0,none⟩))) (w2.setCell ⟨nb,1,none⟩ (.string Z33)):=fun h=>by
    rw [HRr.out,h];obtain ⟨h1,h2,h3⟩:=Got.text (t':=Z33) hlt HP.out.le G2.out F2.out R2.out;exact ⟨_,rfl,h1,h3,h2⟩
   have FIN1:=lh fin1;have HTR:=lh htr;have hks:∀ a∈kids,TreeAt w2 B a:=fun a ha=>G2.out.at'.kid (k:=a) ha;have HKS:=lh hks;clear hB2 hblk fin0 fin1 htr hks HB FF G R;cases kids with
   | nil =>
     have hs0:Z1y acc=false:=by rw [← HTR.out]; rfl
     have H0:=lh (FIN0.out hs0);clear hs0;rcases Zm hrow with ⟨rfl,_⟩ | ⟨g0,cap0,rfl,_,_,_⟩
     all_goals
      clear hrow;go_wp2;go_ret;exact H0.out
   | cons a0 ks =>
     rcases Zm hrow with ⟨_,h0⟩ | ⟨g0,cap0,rfl,k1,k2,k3⟩;·simp at h0
     have p0:=Z0z hrow (g:=g0) rfl (i:=0) (x:=a0.ptr) rfl;have hT0:=HKS.out a0 (by simp);have hb0:=hT0.blkOf;have hr0:=hT0.rowOf;have hx0:=HX.out a0.tree (by rw [← HTR.out]; simp [Zg]);obtain ⟨b0,v0,kd0,t0,n0,l0⟩:=a0;simp only [ATree.b,ATree.v,ATree.kind,ATree.text,ATree.n,ATree.kids,ATree.ptr,List.length_cons] at hb0 hr0 p0 k1 n3 ⊢;unfold maxLen at k2;have d0:w2.cell? ⟨b0,0,none⟩=some (.int .i64 kd0):=by simp [World.cell?,hb0]
     have d3:w2.cell? ⟨b0,3,none⟩=some v0:=by simp [World.cell?,hb0]
     by_cases h15:kd0=15
     ·subst h15;cases l0 with
      | nil=>exact absurd rfl (hx0 rfl)
      | cons x xs=>
      rcases Zm hr0 with ⟨_,h0⟩ | ⟨g1,cap1,rfl,j1,j2,j3⟩;·simp at h0
      have p1:=Z0z hr0 (g:=g1) rfl (i:=0) (x:=x.ptr) rfl;have hb1:=(hT0.kid (k:=x) (by simp [ATree.kids])).blkOf;obtain ⟨b1,v1,kd1,t1,n1,l1⟩:=x;simp only [ATree.b,ATree.v,ATree.kind,ATree.text,ATree.n,ATree.ptr,List.length_cons] at hb1 p1 j1 d3;unfold maxLen at j2;have e0:w2.cell? ⟨b1,0,none⟩=some (.int .i64 kd1):=by simp [World.cell?,hb1]
      have e1:w2.cell? ⟨b1,1,none⟩=some (.string t1):=by simp [World.cell?,hb1]
      have hstr:Z1y acc=(decide (kd1=18) && Z1f t1 Z0m):=by rw [← HTR.out]; rfl
      have HST:=lh hstr;clear hrow hr0 hT0 hb0 hb1 hx0 hstr;by_cases h18:kd1=18
      ·subst h18;by_cases hus : t1 = Z0m
       ·subst hus;have H1:=lh (FIN1.out (by rw [HST.out]; simp [Z1f]));unfold Z0m at e1;go_wp2;go_ret;exact H1.out
       ·have H0 := lh (FIN0.out (by rw [HST.out]; simp [Z1f, hus]));have hne : ¬ t1.toList = Z0m.toList := fun h => hus (Z2r h);have hne2 : (t1.toList == Z0m.toList) = false := by simpa using hne
        have hl:Z0m.toList=[117,115,101,32,115,116,114,105,99,116]:=by rw [Lib.toList_data]; rfl
        have hne3:¬ t1.toList=[117,115,101,32,115,116,114,105,99,116]:=by rw [← hl]; exact hne
        have hne4:(t1.toList == [117,115,101,32,115,116,114,105,99,116])=false:=by simpa using hne3
        unfold Z0m at hne hne2;clear hus hl;go_wp2;go_ret;exact H0.out
      ·have n18 : (kd1 == 18) = false := by simpa using h18
       have H0:=lh (FIN0.out (by rw [HST.out]; simp [h18]));clear h18;go_wp2;go_ret;exact H0.out
     ·have n15 : (kd0 == 15) = false := by simpa using h15
      have H0:=lh (FIN0.out (by rw [← HTR.out]; cases l0 <;> simp [Zg,ATree.tree,Z1y,h15]));clear hrow hr0 hT0 hb0 hx0 h15;go_wp2;go_ret;exact H0.out
  ·have hb' : isT Z03 us = false := by simpa using hb
   rw [hb'] at HB;rw [Y3 (by rw [Y3 (by omega)]; exact hb)] at hq;have HB:=lh HB;unfold Z03 at HB;have HQ2:=lh hq;clear hG hR hF hq hb hb' hx ST;go_wp2_with fail
   refine HB.out.mono ?_;rintro e w2 ⟨rfl,hB2⟩;have F2:=FF.out.trans (RFr.below (rb:=rb) hB2);have G2:=G.out.rfr HP.out.lt (RFr.below (rb:=rb) hB2);have R2:=R.out.below hB2;have n3:w2.cell? ⟨nb,3,none⟩=some v:=by have:=G2.at'.blkOf; simp only [ATree.b,ATree.v,ATree.kind,ATree.text,ATree.n] at this; simp [World.cell?,this]
   have F2:=lh F2;have G2:=lh G2;have R2:=lh R2;clear hB2 HB FF G R;go_wp2_with fail
   refine Z4 [(true,0),(true,1),(true,2),(true,3),(true,4),(true,5),(true,6),(true,7),(false,8),(false,9),(false,10)] [11,12,13] (fun W=>W.cell? ⟨nb,3,none⟩=some v) (by kernel_rfl) (by kernel_rfl) (fun _ _ d _ _ h=>by cases d <;> exact h) n3 (fun hS0=>?_);simp only [Zj,zD,zE,zF,zG,zH,zI]
   iterate 8
    first
     | (refine Z7 ?_ (by rfl) (fun w' hS'=>?_) ?_; rotate_left; (have s0:=hS'; go_simp; first | done | with_reducible rfl); simp only [Act.put,zA,zB,zC])
     | (refine Z6 (by rfl) ?_; simp only [Act.put,zA,zB,zC])
   refine Zd (fun K hK=>?_);go_simp
   have hlt:=HP.out.lt;have hRF2:RFr w2 w2.drew rb:=(RFr.refl w2 rb).drew;have hus:us.length≤4000:=by have:=HP.out.few; omega
   have hle2:B≤w2.drew.heap.size:=Y4 HP.out.le F2.out.size;rcases Zp HQ2.out with ⟨⟨c,p⟩,hv,rfl⟩ | ⟨t,vs,hv,hq3⟩
   ·refine (Z04 w2.drew rb B us d _ _ R2.out.drew (by have:=HP.out.deep; omega) hlt hv fun hd h1 w1 hR1 hs=>HS.out g (by omega) w1 rb B (d + 1) us _ ⟨hR1,hd,hlt,by omega,hus⟩ h1).mono ?_;rintro e w3 ⟨⟨b,rfl,h1,h2⟩,hF3⟩;exact ⟨rfl,Z01.pre F2.out.drew (r:=.error (c,p)) ⟨⟨b,rfl,h1,h2⟩,hF3⟩⟩
   ·have hvl:vs.length < us.length:=Leaves.within (Z0c g .stmt (d + 1) us) t vs hv;have hvx:t.kind=15→t.kids≠[]:=by
     unfold Z00 at hv;by_cases h30:30 < d + 1;·rw [Y5 h30] at hv; cases hv
     ·rw [Y3 h30] at hv;cases g with
      | zero=>cases hv
      | succ g=>exact Z79 hv
    have HVX:=lh hvx;have HQ3:=lh hq3;refine (Z04 w2.drew rb B us d _ _ R2.out.drew (by have:=HP.out.deep; omega) hlt hv fun hd h1 w1 hR1 hs=>HS.out g (by omega) w1 rb B (d + 1) us _ ⟨hR1,hd,hlt,by omega,hus⟩ h1).mono ?_;rintro e w3 ⟨a,rfl,hA,hR3,hF3⟩;have hF23:RFr w2 w3 rb:=hRF2.trans hF3;have hN3:=G2.out.rfr hlt hF23;have hblk:=hN3.at'.blkOf;simp only [ATree.b,ATree.v,ATree.kind,ATree.text,ATree.n] at hblk;have m3:w3.cell? ⟨nb,3,none⟩=some v:=by simp [World.cell?,hblk]
    have mz:w3.frozen? ⟨nb,3,none⟩=false:=by simp [World.frozen?,hblk]
    have hnb3:nb < w3.heap.size:=(Y1.1 hblk).1;have hnd:=hN3.nodup;simp only [ATree.blocks,List.nodup_cons,List.mem_append,Option.mem_toList,not_or] at hnd;have hne:v.ownBlock≠some nb:=hnd.1.1;have hkl:kids.length=acc.length:=by
     have:=hN3.tree;simp only [ATree.tree,Tree.mk.injEq,true_and] at this;rw [← this,Z1i,Yl]
    have hk4:kids.length≤4000:=by have:=HP.out.few; omega
    have N3:=lh hN3;have A3:=lh hA;have R3:=lh hR3;have F3:=lh (F2.out.trans hF23);have NE:=lh hne;have HKL:=lh hkl;refine hK _ _ m3 ?_;obtain ⟨i0,hi,hz0,hz1,hz2⟩:=info_parts Tryz.infoPtr;clear hK K hA hR3 hF3 hF23 hN3 hblk hnd hne hvx hq3 hv hkl n3 hRF2;refine Zd (fun K hK=>?_);go_simp
    refine hK _ _ ((Zu hnb3).trans m3) ?_;clear hK K;refine Zd (fun K hK=>?_);refine step_append_lies _ (by rfl) (.tmp 37) (.tmp 42) 32 (by rfl) B 22 i0 _ 1 8 Tryz.underlying32 hi hz0 hz1 hz2 rfl (by decide) v kids.length (kids.map ATree.ptr) (by rfl) (N3.out.at'.rowOf.alloc _) ⟨w3.heap.size,0,none⟩ 1 1 [a.ptr] (by rfl) rfl (Ya (cs:=#[a.ptr]) (t:=22) (fr:=(0,0)) (heap_alloc_new w3 _)) (by simp [ATree.ptr,Value.oneCell']) (by decide) (by unfold maxLen; omega) (by omega) (by simp; have:=F3.out.size; have:=HP.out.le; omega) (w3.heap.size + 1) (by simp) ?_
    intro gg cap w4 hown4 hgrow4 hat4 hlt4;have m4:w4.cell? ⟨nb,3,none⟩=some v:=(hgrow4.cell_far ⟨nb,3,none⟩ (by simp; omega) (fun e=>NE.out e.symm)).trans ((Zu hnb3).trans m3);have mz4:w4.frozen? ⟨nb,3,none⟩=false:=(hgrow4.frozen_far ⟨nb,3,none⟩ (by simp; omega) (fun e=>NE.out e.symm)).trans ((Z0o hnb3).trans mz);refine hK _ _ m4 ?_;clear hK K;simp only [Act.put,zA,zB,zC]
    have hfin:=Got.push hlt HP.out.le N3.out (wA:=w2.drew) (fun x hx=>(G2.out.new x hx).2) A3.out F3.out R3.out ((Y2 _ _).alloc (Y0 _) _) hgrow4 hown4 (by rcases hat4 with h | h; (exact .inl h); (exact .inr (by omega))) hlt4;have FIN:=lh hfin;clear hgrow4 hown4 hat4 hlt4 hfin;refine Zb ?_;go_wp2;go_roundw
    case rel=>
     refine ⟨g,acc ++ [t],vs,.slice (some ⟨gg,0,none⟩) (kids.length + 1) cap,kids ++ [a],by omega,HQ3.out,?_,FIN.out.2.2,FIN.out.2.1,by simp; omega,fun x hx=>?_⟩
     ·have h1:=FIN.out.1;have h2:=G2.out.tree;simp only [ATree.tree,Tree.mk.injEq,true_and] at h2;rw [h2] at h1;exact h1
     ·rcases List.mem_append.1 hx with hx | hx;·exact HX.out x hx
      ·simp only [List.mem_singleton] at hx; subst hx; exact HVX.out
    case measure=>
     rw [FIN.out.2.2.left,RL.out];exact hvl
def Z59 (w:World) (B:Nat) (v:Value) (l:List ATree):Prop:=w.ownsRow B 22 1 v l.length (l.map ATree.ptr)
theorem Z59.nil (w:World) (B:Nat):Z59 w B (.slice none 0 0) []:=World.ownsRow_nil w B _ _
theorem Z59.bel {w w':World} {B:Nat} {v:Value} {l:List ATree} (h:Z59 w B v l) (g:Below w.heap.size w w'):Z59 w' B v l:=
 Zr h fun k hk=>g.block k (Y9 h k hk).2
theorem Z59.form {w:World} {B:Nat} {v:Value} {l:List ATree} (h:Z59 w B v l):(v=.slice none 0 0∧l=[])∨∃ g cap,v=.slice (some ⟨g,0,none⟩) l.length cap∧l.length≤cap∧cap≤maxLen:=by
 rcases Zm h with ⟨h1,h2⟩ | ⟨g,cap,h1,h2,h3,_⟩;·exact .inl ⟨h1,List.eq_nil_of_length_eq_zero h2⟩
 ·exact .inr ⟨g,cap,h1,h2,h3⟩
theorem Z59.cell {w:World} {B:Nat} {v:Value} {l:List ATree} (h:Z59 w B v l) {b:Nat} (hb:v.ownBlock=some b) {j:Nat} {x:ATree} (hs:l[j]?=some x):w.cell? ⟨b,j,none⟩=some (.pointer (some ⟨x.b,0,none⟩)):=
 Z0z h hb (by rw [Yg,hs]; rfl)
theorem TreeAt.c0 {w:World} {B:Nat} {a:ATree} (h:TreeAt w B a):w.cell? ⟨a.b,0,none⟩=some (.int .i64 a.kind):=by simp [World.cell?,h.blkOf]
theorem TreeAt.c1 {w:World} {B:Nat} {a:ATree} (h:TreeAt w B a):w.cell? ⟨a.b,1,none⟩=some (.string a.text):=by simp [World.cell?,h.blkOf]
theorem TreeAt.c3 {w:World} {B:Nat} {a:ATree} (h:TreeAt w B a):w.cell? ⟨a.b,3,none⟩=some a.v:=by simp [World.cell?,h.blkOf]
theorem TreeAt.vOf {w:World} {B:Nat} {a:ATree} (h:TreeAt w B a):∃ p cp,a.v=.slice p a.kids.length cp∧a.kids.length≤cp∧cp≤maxLen:=by
 rcases Zm h.rowOf with ⟨h1,h2⟩ | ⟨g0,cap0,h1,h2,h3,_⟩;·exact ⟨none,0,by rw [h1,h2],by omega,by unfold maxLen; omega⟩
 ·exact ⟨_,_,h1,h2,h3⟩
theorem Z3v.slice {w:World} {B:Nat} {v:Value} {l:List ByteArray} (h:Z3v w B v l):∃ p n c,v=.slice p n c:=by
 rcases h.form with ⟨h,_⟩ | ⟨g,cap,h,_⟩;·exact ⟨_,_,_,h⟩
 ·exact ⟨_,_,_,h⟩
theorem Za1 {l:List ByteArray} {s:ByteArray} (h:l.Nodup):(addL l s).Nodup:=by
 unfold addL;by_cases hc:Lib.containsS l s=true;·rw [Y5 hc]; exact h
 ·rw [Y3 hc];rw [Lib.containsS_iff] at hc;rw [List.nodup_append];exact ⟨h,by simp,fun a ha b hb e=>hc (by simp at hb; rw [← hb,← e]; exact ha)⟩
theorem Zdn {l:List ByteArray} {s x:ByteArray} (h:x∈addL l s):x∈l∨x=s:=by
 unfold addL at h;split at h;·exact .inl h
 ·simpa using h
structure VInv (w0:World) (c:Nat) (T:List ByteArray) (l:List ByteArray) (w:World):Prop where
 cell:∃ v,w.heap[c]?=some (.cells #[v] 72 (0,0))∧Z3v w (c + 1) v l
 bel:Below c w0 w
 nd:l.Nodup
 sub:∀ s∈l,s∈T
section
variable {w0 w:World} {c B:Nat} {T l:List ByteArray} {a:ATree}
theorem VInv.lt (h:VInv w0 c T l w):c < w.heap.size:=by obtain ⟨v,hb,_⟩:=h.cell; exact (Y1.1 hb).1
theorem VInv.tree (h:VInv w0 c T l w) (hT:TreeAt w0 B a) (hc:w0.heap.size≤c):TreeAt w B a:=hT.keep fun k _ hk=>h.bel.block k (by omega)
theorem VInv.drew (h:VInv w0 c T l w):VInv w0 c T l w.drew:=⟨h.cell,h.bel.drew,h.nd,h.sub⟩
theorem VInv.add {w1:World} {v':Value} {s:ByteArray} (h:VInv w0 c T l w) (hs:s∈T) (hB:Below (c + 1) w w1) (ht:Z3v w1 (c + 1) v' (addL l s)):VInv w0 c T (addL l s) (w1.setCell ⟨c,0,none⟩ v'):=by
 obtain ⟨v,hb,_⟩:=h.cell;have hb1:w1.heap[c]?=some (.cells #[v] 72 (0,0)):=(hB.block c (by omega)).trans hb;refine ⟨⟨v',Z09 (o:=0) v' hb1,?_⟩,?_,Za1 h.nd,fun x hx=>(Zdn hx).elim (h.sub x) (fun e=>by rw [e]; exact hs)⟩;·exact Zr ht fun k hk=>Y8 _ _ _ _ (by have:=(Y9 ht k hk).1; simp only; omega)
 ·exact (h.bel.trans (hB.mono (by omega))).setCell (p:=⟨c,0,none⟩) (Y0 _) _
end
theorem Z7y {T e:TypeId} {B b:Nat} {bs:List Value} {w w':World} (h:Lib.IsBuilder T e B b bs w) (hb:Below w.heap.size w w'):Lib.IsBuilder T e B b bs w':=by
 have lt:∀ {k:Nat} {o:Obj},w.heap[k]?=some o→k < w.heap.size:=fun h=>(Y1.1 h).1;rcases h with ⟨h1,v,h2,h3,h4⟩ | ⟨h1,v,h2,h3,h4⟩;·exact .inl ⟨h1,v,(hb.block b (lt h2)).trans h2,Zr h3 fun g hg=>hb.block g (Y9 h3 g hg).2,h4⟩
 ·exact .inr ⟨h1,v,(hb.block b (lt h2)).trans h2,Zr h3 fun g hg=>hb.block g (Y9 h3 g hg).2,h4⟩
structure BW (w0:World) (B b:Nat) (l:List UInt8) (w:World):Prop where
 is:Lib.IsBuilder 55 5 B b (Lib.byteCells l) w
 bel:Below w0.heap.size w0 w
 low:w0.heap.size≤B
 sz:B≤w.heap.size
section
variable {w0 w w':World} {B b:Nat} {l:List UInt8}
theorem BW.next {bs':List UInt8} (h:BW w0 B b l w) (h1:Lib.BuilderAt 55 5 B b (.pointer (some ⟨b,0,none⟩)) (Lib.byteCells bs') w') (h2:Below B w w'):BW w0 B b bs' w':=
 ⟨.inr h1,h.bel.trans (h2.mono h.low),h.low,Y4 h.sz h2.size⟩
theorem BW.keep (h:BW w0 B b l w) (hb:Below w.heap.size w w'):BW w0 B b l w':=⟨Z7y h.is hb,h.bel.trans (hb.mono (Y4 h.low h.sz)),h.low,Y4 h.sz hb.size⟩
theorem BW.cell (h:BW w0 B b l w) {p:Addr} {v:Value} (hv:w0.cell? p=some v):w.cell? p=some v:=by
 have hl:p.block < w0.heap.size:=by
  unfold World.cell? at hv;split at hv
  ·rename_i hb;exact (Y1.1 hb).1
  ·cases hv
 exact (Yb (h.bel.block p.block hl)).trans hv
theorem BW.str (h:BW w0 B b l w) (s:ByteArray) (hl:l.length + s.data.toList.length≤140737488355328) :
 Calls Tryz.prog 36 #[.pointer (some ⟨b,0,none⟩),.string s] w fun e w'=>e=.returned (.tuple #[.int .i64 s.size,.nilIface])∧BW w0 B b (l ++ s.data.toList) w'∧Below B w w':=
 (Zcx B b (Lib.byteCells l) s w h.is (by simp [Lib.byteCells] at hl ⊢; exact hl) h.sz).mono fun e w' ⟨h1,h2,h3⟩=>⟨h1,h.next (by rw [Lib.byteCells_append]; exact h2) h3,h3⟩
theorem BW.byte (h:BW w0 B b l w) (c:UInt8) (hl:l.length + 1≤140737488355328) :
 Calls Tryz.prog 17 #[.pointer (some ⟨b,0,none⟩),.int .u8 c.toNat] w fun e w'=>e=.returned .nilIface∧BW w0 B b (l ++ [c]) w'∧Below B w w':=
 (Zbt B b (Lib.byteCells l) c.toNat w h.is (by rw [show (Lib.byteCells l).length=l.length by simp [Lib.byteCells]]; exact hl) h.sz).mono fun e w' ⟨h1,h2,h3⟩=>⟨h1,h.next (by rw [Lib.byteCells_append]; exact h2) h3,h3⟩
theorem BW.byteD (h:BW w0 B b l w) (c:UInt8) (hl:l.length + 1≤140737488355328) (u:FrameMode) :
 CallsD Tryz.prog 17 #[.pointer (some ⟨b,0,none⟩),.int .u8 c.toNat] u w fun e u' w'=>u'=u∧(e=.returned .nilIface∧BW w0 B b (l ++ [c]) w'∧Below B w w'):=
 (Za2 B b (Lib.byteCells l) c.toNat w h.is (by rw [show (Lib.byteCells l).length=l.length by simp [Lib.byteCells]]; exact hl) h.sz u).mono fun e u' w' ⟨h0,h1,h2,h3⟩=>⟨h0,h1,h.next (by rw [Lib.byteCells_append]; exact h2) h3,h3⟩
end
def Wrote (w0:World) (B b:Nat) (l:List UInt8) (w:World) (m:List UInt8) (e:Ending) (w':World):Prop:=
 e=.returned (.tuple #[])∧BW w0 B b (l ++ m) w'∧Below B w w'
def Fits (l m:List UInt8):Prop:=l.length + m.length≤140737488355328
def Ze (w0:World) (a:ATree):Prop:=∀ (need:Int) (B b:Nat) (l:List UInt8) (w:World),BW w0 B b l w→Fits l (Z5 (vP a.tree need)) →
 Calls Tryz.prog 37 #[.pointer (some ⟨b,0,none⟩),a.ptr,.int .i64 need] w (Wrote w0 B b l w (Z5 (vP a.tree need)))
def Z12 (w0:World) (a:ATree):Prop:=∀ (B b:Nat) (l:List UInt8) (w:World),BW w0 B b l w→Fits l (Z5 (sP a.tree)) →
 Calls Tryz.prog 16 #[.pointer (some ⟨b,0,none⟩),a.ptr] w (Wrote w0 B b l w (Z5 (sP a.tree)))
theorem Zc (k:Int) (w:World):Calls Tryz.prog 57 #[.int .i64 k] w fun e w'=>e=.returned (.int .i64 (Zf k))∧w'=w:=by
 by_cases h1:k=24;·subst h1; go_enter Tryz.func57,Tryz.ntmps57; go_wp2; go_ret; exact ⟨rfl,rfl⟩
 by_cases h2:k=25;·subst h2; go_enter Tryz.func57,Tryz.ntmps57; go_wp2; go_ret; exact ⟨rfl,rfl⟩
 by_cases h3:k=26;·subst h3; go_enter Tryz.func57,Tryz.ntmps57; go_wp2; go_ret; exact ⟨rfl,rfl⟩
 by_cases h4:k=27;·subst h4; go_enter Tryz.func57,Tryz.ntmps57; go_wp2; go_ret; exact ⟨rfl,rfl⟩
 by_cases h5:k=28;·subst h5; go_enter Tryz.func57,Tryz.ntmps57; go_wp2; go_ret; exact ⟨rfl,rfl⟩
 by_cases h6:k=29;·subst h6; go_enter Tryz.func57,Tryz.ntmps57; go_wp2; go_ret; exact ⟨rfl,rfl⟩
 by_cases h7:k=30;·subst h7; go_enter Tryz.func57,Tryz.ntmps57; go_wp2; go_ret; exact ⟨rfl,rfl⟩
 by_cases h8:k=31;·subst h8; go_enter Tryz.func57,Tryz.ntmps57; go_wp2; go_ret; exact ⟨rfl,rfl⟩
 by_cases h9:k=32;·subst h9; go_enter Tryz.func57,Tryz.ntmps57; go_wp2; go_ret; exact ⟨rfl,rfl⟩
 by_cases h10:k=33;·subst h10; go_enter Tryz.func57,Tryz.ntmps57; go_wp2; go_ret; exact ⟨rfl,rfl⟩
 by_cases h11:k=34;·subst h11; go_enter Tryz.func57,Tryz.ntmps57; go_wp2; go_ret; exact ⟨rfl,rfl⟩
 by_cases h12:k=35;·subst h12; go_enter Tryz.func57,Tryz.ntmps57; go_wp2; go_ret; exact ⟨rfl,rfl⟩
 by_cases h13:k=36;·subst h13; go_enter Tryz.func57,Tryz.ntmps57; go_wp2; go_ret; exact ⟨rfl,rfl⟩
 have hs:Zf k=9:=by
  unfold Zf;rw [Y3 h1,Y3 h2,Y3 h3,Y3 h4,Y3 h5,Y3 (by omega),Y3 h8,Y3 (by omega),Y3 (by omega)]
 rw [hs];have b1:(k == 24)=false:=by simp [h1]
 have b2:(k == 25)=false:=by simp [h2]
 have b3:(k == 26)=false:=by simp [h3]
 have b4:(k == 27)=false:=by simp [h4]
 have b5:(k == 28)=false:=by simp [h5]
 have b6:(k == 29)=false:=by simp [h6]
 have b7:(k == 30)=false:=by simp [h7]
 have b8:(k == 31)=false:=by simp [h8]
 have b9:(k == 32)=false:=by simp [h9]
 have b10:(k == 33)=false:=by simp [h10]
 have b11:(k == 34)=false:=by simp [h11]
 have b12:(k == 35)=false:=by simp [h12]
 have b13:(k == 36)=false:=by simp [h13]
 go_enter Tryz.func57,Tryz.ntmps57
 go_wp2;go_ret;exact ⟨rfl,rfl⟩
theorem Z52 (w:World):(callFunc 104 #[]).run Tryz.prog w=.ok (.value (.tuple #[])) w:=run_call_mark0 Tryz.func104 (by kernel_rfl) (by kernel_rfl) (by kernel_rfl) .disable (by kernel_rfl) w
theorem Z5x (w:World):(callFunc 106 #[]).run Tryz.prog w=.ok (.value (.tuple #[])) w:=run_call_mark0 Tryz.func106 (by kernel_rfl) (by kernel_rfl) (by kernel_rfl) .enable (by kernel_rfl) w
theorem Z7k (a:Addr) (w:World):(callFunc 107 #[.pointer (some a)]).run Tryz.prog w=.ok (.value (.tuple #[])) w:=run_call_marked Tryz.func107 (by kernel_rfl) (by kernel_rfl) (by kernel_rfl) .acquire (by kernel_rfl) a w
theorem Z7z (a:Addr) (w:World):(callFunc 109 #[.pointer (some a)]).run Tryz.prog w=.ok (.value (.tuple #[])) w:=run_call_marked Tryz.func109 (by kernel_rfl) (by kernel_rfl) (by kernel_rfl) .releaseMerge (by kernel_rfl) a w
theorem Z64 (a:Addr) (x:Value) (u:FrameMode) (w:World) (hc:w.cell? a=some x) (hz:w.frozen? a=false) :
 CallsD Tryz.prog 91 #[.pointer (some a),.bool true] u w fun e u' w'=>u'=u∧(e=.returned (.tuple #[])∧w'=w.drew.setCell a (.int .u32 1)):=by
 have hc':w.drew.cell? a=some x:=by go_simp
 have hz':w.drew.frozen? a=false:=by go_simp
 have hst:=run_call_store (P:=Tryz.prog) Tryz.func99 (by kernel_rfl) (by kernel_rfl) (by kernel_rfl) (by kernel_rfl) (k:=.u32) (y:=1) hc' hz';go_enter_d Tryz.func91,Tryz.ntmps91
 go_wp2;go_region_calls
 all_goals (go_end0; exact ⟨rfl,rfl⟩)
theorem unlock_deferred (a:Addr) (u:FrameMode) (w:World) (hc:w.cell? a=some (.int .i32 1)) (hz:w.frozen? a=false) :
 CallsD Tryz.prog 90 #[.pointer (some a)] u w fun e u' w'=>u'=u∧(e=.returned (.tuple #[])∧w'=w.setCell a (.int .i32 0)):=by
 have hd:=Z52;have he:=Z5x;have hr:=Z7z;have hadd:=run_call_add (P:=Tryz.prog) Tryz.func110 (by kernel_rfl) (by kernel_rfl) (by kernel_rfl) .i32 (by kernel_rfl) (y:=-1) (s:=0) hc hz (by simp [go_sem]; rfl);have hcv:=run_convert_to_unsafe (P:=Tryz.prog) (src:=192) (dst:=77) Tryz.underlying192 Tryz.underlying77 (by kernel_rfl) hc;go_enter_d Tryz.func90,Tryz.ntmps90
 go_wp2;go_end0
 go_wp2;go_end0
 exact ⟨rfl,rfl⟩
theorem lock_free (a:Addr) (w:World) (hc:w.cell? a=some (.int .i32 0)) (hz:w.frozen? a=false) :
 Calls Tryz.prog 89 #[.pointer (some a)] w fun e w'=>e=.returned (.tuple #[])∧w'=w.setCell a (.int .i32 1):=by
 have hd:=Z52;have he:=Z5x;have ha:=Z7k;have hcas:=run_call_cas_hit (P:=Tryz.prog) Tryz.func105 (by kernel_rfl) (by kernel_rfl) (by kernel_rfl) .i32 (by kernel_rfl) (y:=1) hc hz;have hc':(w.setCell a (.int .i32 1)).cell? a=some (.int .i32 1):=World.cell?_setCell_same w a _ hc;have hcv:=run_convert_to_unsafe (P:=Tryz.prog) (src:=192) (dst:=77) Tryz.underlying192 Tryz.underlying77 (by kernel_rfl) hc';go_enter Tryz.func89,Tryz.ntmps89
 go_wp2;first | go_end0 | (simp only [Exit.inBlock,Exit.then]; refine bodyPost_ret (results_none rfl _ _ _) rfl ?_) | refine bodyPost_ret (results_none rfl _ _ _) rfl ?_
 go_wp2;go_end0
 exact ⟨rfl,rfl⟩
end Go.Proofs.YtjcgkdfeplbajaaGreatDoor
