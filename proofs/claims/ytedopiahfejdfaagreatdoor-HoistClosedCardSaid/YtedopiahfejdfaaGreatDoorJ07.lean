/- Package tree: value, end, around, block. -/
import Derived.Test.YtedopiahfejdfaaGreatDoorJ06
namespace Go.Proofs.YtedopiahfejdfaaGreatDoor
open Go Go.RowKit
set_option maxRecDepth 100000
set_option maxHeartbeats 20000000
set_option linter.unusedVariables false
theorem Z08 {f:Nat} {job:Job} {d:Nat} {ts ts':List Tok} {t:Tree} (h:Z0 f job d ts=some (.ok (t,ts'))):ts'.length≤ts.length:=by
 have:=Zx f job d ts t ts' h;have hl:job.least≤1:=by cases job <;> simp [Job.least]
 omega
theorem Zat (f:Nat) (hA:Says 101 rArg .assign f):Says 84 rArg .value (f + 1):=by
 intro w rb B d ts r hP hp;have hw:Zj d ts (Z0 f .assign (d + 1) ts)=some r:=hp;have HC:=lh (Z88 w rb B ts d _ r hP.rd (by have:=hP.deep; omega) hP.lt hw fun hd h1 w1 hR hs=>hA w1 rb B (d + 1) ts r ⟨hR,hd,hP.lt,by have:=hP.le; omega,hP.few⟩ h1);have hmf:∀ (fn:Fn) (first cap:Array Value) (w:World),(Instr.makeFunc fn first cap).run Tryz.prog w=.ok (.func fn first cap) w:=fun _ _ _ _=>rfl;clear hP hp hw hA;unfold rArg;go_enter Tryz.func84,Tryz.ntmps84
 go_wp2_with fail
 refine HC.out.mono ?_;rcases r with ⟨c,p⟩ | ⟨t,ts'⟩
 ·rintro e w2 ⟨⟨b,rfl,h1,h2⟩,hF⟩;exact ⟨rfl,⟨b,rfl,h1,h2⟩,hF⟩
 ·rintro e w2 ⟨a,rfl,hG,hR,hF⟩;have HG:=lh hG;have HR:=lh hR;have HF:=lh hF;clear hG hR hF HC;go_wp2;go_ret;exact ⟨a,rfl,HG.out,HR.out,HF.out⟩
theorem Z9h (f:Nat) (hV:Says 84 rArg .value f):Says 83 rArg .around (f + 1):=by
 intro w rb B d ts r hP hp;have hw:Z00 Z0q ts (fun ts=>Zh (Z0 f .value d ts) fun x ts=>Z00 Z0p ts fun ts=>okT x ts)=some r:=hp;have HP:=lh hP;unfold rArg;rcases Z0s hw with ⟨hs,h1⟩ | ⟨hs,rfl⟩
 ·have HC := lh (Z0w w rb ts d Z0q hP.rd hs);have H1 := lh h1;clear hP hp hw hs h1;go_enter Tryz.func83, Tryz.ntmps83
  go_wp2_with fail
  refine HC.out.mono ?_;rintro e w1 ⟨rfl,hR1,hF1⟩;have P1:=lh (HP.out.tail hR1 hF1);have F1:=lh hF1;clear hR1 hF1 HC;rcases Zb H1.out with ⟨⟨c,p⟩,hv,rfl⟩ | ⟨t,ts2,hv,h2⟩
  ·have HV := lh (hV w1 rb B d _ _ P1.out hv);clear hv;go_wp2_with fail
   refine HV.out.mono ?_;rintro e w2 ⟨⟨b,rfl,h1,h2⟩,hF⟩;exact ⟨rfl,Zo.pre F1.out (r:=.error (c,p)) ⟨⟨b,rfl,h1,h2⟩,hF⟩⟩
  ·have HV := lh (hV w1 rb B d _ _ P1.out hv);have hl := Z08 hv;have H2 := lh h2;clear hv h2;go_wp2_with fail
   refine HV.out.mono ?_;rintro e w2 ⟨a,rfl,hG,hR2,hF2⟩;have P2:=lh (P1.out.next hR2 hF2 hl);have F2:=lh (F1.out.trans hF2);have G2:=lh (hG.pre F1.out);clear hG hR2 hF2 HV hl;rcases Z0s H2.out with ⟨hs,h3⟩ | ⟨hs,rfl⟩
   ·obtain rfl := Yc h3;have HC := lh (Z0w w2 rb ts2 d Z0p P2.out.rd hs);clear hs h3;go_wp2_with fail
    refine HC.out.mono ?_;rintro e w3 ⟨rfl,hR3,hF3⟩;have R3:=lh hR3;have F3:=lh hF3;clear hR3 hF3;go_wp2;go_ret;exact ⟨a,rfl,G2.out.rfr HP.out.lt F3.out,R3.out,F2.out.trans F3.out⟩
   ·have HC := lh (Z1n w2 rb ts2 d Z0p P2.out.rd hs);clear hs;go_wp2_with fail
    refine HC.out.mono ?_;rintro e w3 ⟨⟨b,rfl,h1,h2⟩,hB⟩;exact ⟨rfl,Zo.err F2.out ⟨b,rfl,h1,h2⟩ hB⟩
 ·have HC := lh (Z1n w rb ts d Z0q hP.rd hs);clear hP hp hw hs;go_enter Tryz.func83, Tryz.ntmps83
  go_wp2_with fail
  refine HC.out.mono ?_;rintro e w3 ⟨⟨b,rfl,h1,h2⟩,hB⟩;exact ⟨rfl,Zo.err (RFr.refl _ _) ⟨b,rfl,h1,h2⟩ hB⟩
end Go.Proofs.YtedopiahfejdfaaGreatDoor
namespace Go.Proofs.YtedopiahfejdfaaGreatDoor
open Go Go.RowKit
set_option maxRecDepth 100000
set_option maxHeartbeats 20000000
theorem Z1p {t t':Tree} {ts ts':List Tok} (h:okT t ts=some (.ok (t',ts'))):t=t'∧ts=ts':=by simpa [okT] using h
theorem Z0f {p:PR} {k:Tree→List Tok→PR} {t:Tree} {ts:List Tok} (h:Zh p k=some (.ok (t,ts))):∃ x us,p=some (.ok (x,us))∧k x us=some (.ok (t,ts)):=by
 rcases Zb h with ⟨e,_,he⟩ | h;·cases he
 ·exact h
theorem Z3k {s:ByteArray} {us:List Tok} {k:List Tok→PR} {t:Tree} {ts:List Tok} (h:Z00 s us k=some (.ok (t,ts))):isT s us=true∧k us.tail=some (.ok (t,ts)):=by
 rcases Z0s h with h | ⟨_,h⟩;·exact h
 ·cases h
theorem Z8g {us:List Tok} {k:ByteArray→List Tok→PR} {t:Tree} {ts:List Tok} (h:Z13 us k=some (.ok (t,ts))):(hdT us).kind=1∧k (hdT us).text us.tail=some (.ok (t,ts)):=by
 rcases Z1v h with h | ⟨_,h⟩;·exact h
 ·cases h
theorem Z63 {f d:Nat} {k:Int} {m:Bool} {us ts:List Tok} {t:Tree} (h:Z0 f (.decl k m) d us=some (.ok (t,ts))):t.kind=k:=by
 cases f with
 | zero=>cases h
 | succ f =>
   obtain ⟨_,h⟩:=Z8g h;split at h;·cases h
   ·split at h
    ·obtain ⟨x,vs,_,h⟩:=Z0f h;obtain ⟨rfl,_⟩:=Z1p h; rfl
    ·obtain ⟨rfl,_⟩:=Z1p h; rfl
theorem Zdv {f d:Nat} {k:Int} {s:ByteArray} {us ts:List Tok} {t:Tree} (h:Z0 f (.func k s) d us=some (.ok (t,ts))):t.kind=k:=by
 cases f with
 | zero=>cases h
 | succ f =>
   obtain ⟨_,h⟩:=Z3k h;obtain ⟨x,vs,_,h⟩:=Z0f h;obtain ⟨_,h⟩:=Z3k h;obtain ⟨x,vs,_,h⟩:=Z0f h;obtain ⟨rfl,_⟩:=Z1p h; rfl
theorem Zb6:∀ {f d:Nat} {k:Int} {acc:List Tree} {us ts:List Tok} {t:Tree},Z0 f (.stmts k acc) d us=some (.ok (t,ts))→t.kind=k:=by
 intro f;induction f with
 | zero=>intro d k acc us ts t h; cases h
 | succ f ih =>
   intro d k acc us ts t h;rw [Z0] at h;generalize (if k=1 then decide ((hdT us).kind=6) else isT Zq us)=c at h;cases c
   ·obtain ⟨x,vs,_,h⟩:=Z0f h;exact ih h
   ·obtain ⟨rfl,_⟩:=Z1p h; rfl
theorem Zax {f d:Nat} {b:Bool} {us ts:List Tok} {t:Tree} (h:Z0 f (.block b) d us=some (.ok (t,ts))):t.kind=6:=by
 cases f with
 | zero=>cases h
 | succ f =>
   obtain ⟨_,h⟩:=Z3k h;obtain ⟨x,vs,hx,h⟩:=Z0f h;obtain ⟨_,h⟩:=Z3k h;obtain ⟨h1,_⟩:=Z1p h;cases b;·simp at h1; rw [← h1]; rfl
   ·simp at h1; rw [← h1]; exact Zb6 hx
theorem Zeo {f d:Nat} {us ts:List Tok} {t:Tree} (h:Z0 f .try_ d us=some (.ok (t,ts))):t.kind=12:=by
 cases f with
 | zero=>cases h
 | succ f =>
   have key:∀ (l:List Tree) (us:List Tok),(if isT Zf us=true then Zh (Z0 f (.block false) d us.tail) fun c ts=>okT (.mk 12 ByteArray.empty 0 (l ++ [.mk 14 ByteArray.empty 0 [c]])) ts else if l.length=1 then Z11 3 us else okT (.mk 12 ByteArray.empty 0 l) us)=some (.ok (t,ts))→t.kind=12:=by
    intro l us h;by_cases c:isT Zf us=true
    ·rw [Y5 c] at h;obtain ⟨x,vs,hx,h⟩:=Z0f h;obtain ⟨rfl,_⟩:=Z1p h; rfl
    ·rw [Y3 c] at h;by_cases c2 : l.length = 1;·rw [Y5 c2] at h; cases h
     ·rw [Y3 c2] at h; obtain ⟨rfl,_⟩:=Z1p h; rfl
   rw [Z0] at h;obtain ⟨x,vs,hx,h⟩:=Z0f h;dsimp only at h
   by_cases c:isT Z16 vs=true
   ·rw [Y5 c] at h;obtain ⟨_,h⟩:=Z3k h;obtain ⟨_,h⟩:=Z8g h;obtain ⟨_,h⟩:=Z3k h;obtain ⟨x,vs,hx,h⟩:=Z0f h;exact key _ _ h
   ·rw [Y3 c] at h;exact key _ _ h
theorem Z8s {f d:Nat} {us ts:List Tok} {t:Tree} (h:Z0 (f + 1) .stmt d us=some (.ok (t,ts))) (hk:t.kind=15):t.kids≠[]:=by
 have hend:∀ {n:Tree} {vs:List Tok},endT n vs=some (.ok (t,ts))→n=t:=fun h=>(Z1p (Z3k h).2).1;rw [Z0] at h;by_cases c0:isT Z0d us=true
 ·rw [Y5 c0] at h;have:=Zax h; omega
 rw [Y3 c0] at h;by_cases c1:isT Zk us=true
 ·rw [Y5 c1] at h;obtain ⟨rfl,_⟩:=Z1p h; cases hk
 rw [Y3 c1] at h;by_cases c2:isT Z24 us=true
 ·rw [Y5 c2] at h;obtain ⟨x,vs,hx,h⟩:=Z0f h;have:=Z63 hx; have:=hend h; subst this; omega
 rw [Y3 c2] at h;by_cases c3:isT Z7b us=true
 ·rw [Y5 c3] at h;obtain ⟨x,vs,hx,h⟩:=Z0f h;have:=Z63 hx; have:=hend h; subst this; omega
 rw [Y3 c3] at h;by_cases c4:isT Z2y us=true
 ·rw [Y5 c4] at h;obtain ⟨x,vs,hx,h⟩:=Z0f h;have:=Z63 hx; have:=hend h; subst this; omega
 rw [Y3 c4] at h;by_cases c5:isT Z06 us=true
 ·rw [Y5 c5] at h;obtain ⟨_,h⟩:=Z8g h;have:=Zdv h; omega
 rw [Y3 c5] at h;by_cases c6:isT s_if us=true
 ·rw [Y5 c6] at h;obtain ⟨x, vs, hx, h⟩ := Z0f h;obtain ⟨y, vs, hx, h⟩ := Z0f h;split at h
  ·obtain ⟨z,vs,hx,h⟩:=Z0f h;obtain ⟨rfl,_⟩:=Z1p h; cases hk
  ·obtain ⟨rfl,_⟩:=Z1p h; cases hk
 rw [Y3 c6] at h;by_cases c7:isT Z2v us=true
 ·rw [Y5 c7] at h;obtain ⟨x,vs,hx,h⟩:=Z0f h;obtain ⟨y,vs,hx,h⟩:=Z0f h;obtain ⟨rfl,_⟩:=Z1p h; cases hk
 rw [Y3 c7] at h;by_cases c8:isT Z49 us=true
 ·rw [Y5 c8] at h;obtain ⟨x,vs,hx,h⟩:=Z0f h;obtain ⟨y,vs,hx,h⟩:=Z0f h;obtain ⟨rfl,_⟩:=Z1p h; cases hk
 rw [Y3 c8] at h;by_cases c9:isT Z1y us=true
 ·rw [Y5 c9] at h;split at h;·have := hend h; subst this; cases hk
  ·obtain ⟨x,vs,hx,h⟩:=Z0f h;have:=hend h; subst this; cases hk
 rw [Y3 c9] at h;by_cases c10:isT Z2t us=true
 ·rw [Y5 c10] at h;obtain ⟨x,vs,hx,h⟩:=Z0f h;have:=hend h; subst this; cases hk
 rw [Y3 c10] at h;by_cases c11:isT Z7e us=true
 ·rw [Y5 c11] at h;have:=Zeo h; omega
 rw [Y3 c11] at h;obtain ⟨x,vs,hx,h⟩:=Z0f h;have:=hend h; subst this;simp [Tree.kids]
end Go.Proofs.YtedopiahfejdfaaGreatDoor
namespace Go.Proofs.YtedopiahfejdfaaGreatDoor
open Go Go.RowKit
set_option maxRecDepth 100000
set_option maxHeartbeats 20000000
set_option linter.unusedVariables false
theorem Tryz.infoPtr:(Tryz.prog.info? 22).map (fun i=>(i.zero,i.size,i.bytes))=some (some (.pointer none),1,8):=by kernel_rfl
def leftOf (w:World) (rb:Nat):Nat:=match w.cell? ⟨rb,0,none⟩ with | some (.slice _ n _)=>n | _=>0
theorem Rd.left {w:World} {rb:Nat} {ts:List Tok} {d:Nat} (h:Rd w rb ts d):leftOf w rb=ts.length:=by
 obtain ⟨tb,off,cap,h⟩:=h;unfold leftOf;rw [h.c0]
theorem Zb7 (F:Nat) (hS:∀ g,g < F→Says 48 rArg .stmt g) :
 Says 19 (fun rb=>#[.pointer (some ⟨rb,0,none⟩),.int .i64 6,.string Zq]) (.stmts 6 []) F:=by
 intro w rb B d ts r hP hp;have HC:=lh (Zw w rb 6 ⟨#[]⟩ none 0 0);have HP:=lh hP;have HQ:=lh hp;have HS:=lh hS;have hmf:∀ (fn:Fn) (first cap:Array Value) (w:World),(Instr.makeFunc fn first cap).run Tryz.prog w=.ok (.func fn first cap) w:=fun _ _ _ _=>rfl;obtain ⟨nb,hnb⟩:=zX w.heap.size
 have G0:=Got.leaf (k:=6) (t:=⟨#[]⟩) (n:=0) hP.le (RFr.refl w rb);have R0:=hP.rd.below ((Y2 _ _).alloc (Y0 _) (.cells #[.int .i64 6,.string ⟨#[]⟩,.int .i64 0,.slice none 0 0] 37));have F0:RFr w (w.alloc (.cells #[.int .i64 6,.string ⟨#[]⟩,.int .i64 0,.slice none 0 0] 37)) rb:=RFr.below ((Y2 _ _).alloc (Y0 _) _);rw [← hnb] at G0 HC;unfold Zq;clear hP hp hS;simp only;go_enter Tryz.func19,Tryz.ntmps19
 go_wp2_with fail
 refine HC.out.mono ?_;rintro e w1 ⟨rfl,hw1⟩;rw [← hw1] at G0 R0 F0;have hst:∃ (g:Nat) (acc:List Tree) (us:List Tok) (v:Value) (kids:List ATree),g≤F∧Z0 g (.stmts 6 acc) d us=some r∧Got w B w1 (.mk nb v 6 ⟨#[]⟩ 0 kids) (.mk 6 ⟨#[]⟩ 0 acc)∧Rd w1 rb us d∧RFr w w1 rb∧acc.length + us.length≤ts.length∧(∀ x∈acc,x.kind=15→x.kids≠[]):=
  ⟨F,[],ts,_,[],Y0 _,HQ.out,G0,R0,F0,by simp,fun x hx=>by cases hx⟩
 have ST:=lh hst;have HNB:=lh hnb;clear hst hw1 G0 R0 F0 HC hnb;go_wp2_with fail
 go_loopw [] (fun wr=>∃ (g:Nat) (acc:List Tree) (us:List Tok) (v:Value) (kids:List ATree),g≤F∧Z0 g (.stmts 6 acc) d us=some r∧Got w B wr (.mk nb v 6 ⟨#[]⟩ 0 kids) (.mk 6 ⟨#[]⟩ 0 acc)∧Rd wr rb us d∧RFr w wr rb∧acc.length + us.length≤ts.length∧(∀ x∈acc,x.kind=15→x.kids≠[])) (fun wr=>leftOf wr rb)
 case atStart=>exact ST.out
 case round=>
  obtain ⟨g,acc,us,v,kids,hg,hq,hG,hR,hF,hl,hx⟩:=hrel;have G:=lh hG;have R:=lh hR;have FF:=lh hF;have HX:=lh hx;have RL:=lh hR.left;cases g with
  | zero=>cases hq
  | succ g=>
  rw [Z0] at hq;have HB:=Z27 wr rb us d Zq hR;by_cases hb:isT Zq us=true
  ·rw [hb] at HB;rw [Y5 (by rw [Y3 (by omega)]; exact hb)] at hq;have hr := Yc hq;have HRr := lh hr.symm;have HB := lh HB;unfold Zq at HB;clear hG hR hF hq hr hb hx ST;go_wp2_with fail
   refine HB.out.mono ?_;rintro e w2 ⟨rfl,hB2⟩;have hlt:=HP.out.lt;have F2:=lh (FF.out.trans (RFr.below (rb:=rb) hB2));have G2:=lh (G.out.rfr hlt (RFr.below (rb:=rb) hB2));have R2:=lh (R.out.below hB2);have hblk:=G2.out.at'.blkOf;have hrow:=G2.out.at'.rowOf;simp only [ATree.b,ATree.v,ATree.kind,ATree.text,ATree.n,ATree.kids] at hblk hrow;have n3:w2.cell? ⟨nb,3,none⟩=some v:=by simp [World.cell?,hblk]
   have nz:w2.frozen? ⟨nb,1,none⟩=false:=by simp [World.frozen?,hblk]
   have nc1:w2.cell? ⟨nb,1,none⟩=some (.string ⟨#[]⟩):=by simp [World.cell?,hblk]
   have htr:=G2.out.tree;simp only [ATree.tree,Tree.mk.injEq,true_and] at htr;have fin0:Z1i acc=false→Zo w rb B d r (.returned (.pointer (some ⟨nb,0,none⟩))) w2:=fun h=>by
    rw [HRr.out,h];exact ⟨_,rfl,G2.out,R2.out,F2.out⟩
   have FIN0:=lh fin0;have fin1:Z1i acc=true→Zo w rb B d r (.returned (.pointer (some ⟨nb,0,none⟩))) (w2.setCell ⟨nb,1,none⟩ (.string Z3i)):=fun h=>by
    rw [HRr.out,h];obtain ⟨h1,h2,h3⟩:=Got.text (t':=Z3i) hlt HP.out.le G2.out F2.out R2.out;exact ⟨_,rfl,h1,h3,h2⟩
   have FIN1:=lh fin1;have HTR:=lh htr;have hks:∀ a∈kids,TreeAt w2 B a:=fun a ha=>G2.out.at'.kid (k:=a) ha;have HKS:=lh hks;clear hB2 hblk fin0 fin1 htr hks HB FF G R;cases kids with
   | nil =>
     have hs0:Z1i acc=false:=by rw [← HTR.out]; rfl
     have H0:=lh (FIN0.out hs0);clear hs0;rcases Z8 hrow with ⟨rfl,_⟩ | ⟨g0,cap0,rfl,_,_,_⟩
     all_goals
      clear hrow;go_wp2;go_ret;exact H0.out
   | cons a0 ks =>
     rcases Z8 hrow with ⟨_,h0⟩ | ⟨g0,cap0,rfl,k1,k2,k3⟩;·simp at h0
     have p0:=Zu hrow (g:=g0) rfl (i:=0) (x:=a0.ptr) rfl;have hT0:=HKS.out a0 (by simp);have hb0:=hT0.blkOf;have hr0:=hT0.rowOf;have hx0:=HX.out a0.tree (by rw [← HTR.out]; simp [Zp]);obtain ⟨b0,v0,kd0,t0,n0,l0⟩:=a0;simp only [ATree.b,ATree.v,ATree.kind,ATree.text,ATree.n,ATree.kids,ATree.ptr,List.length_cons] at hb0 hr0 p0 k1 n3 ⊢;unfold maxLen at k2;have d0:w2.cell? ⟨b0,0,none⟩=some (.int .i64 kd0):=by simp [World.cell?,hb0]
     have d3:w2.cell? ⟨b0,3,none⟩=some v0:=by simp [World.cell?,hb0]
     by_cases h15:kd0=15
     ·subst h15;cases l0 with
      | nil=>exact absurd rfl (hx0 rfl)
      | cons x xs=>
      rcases Z8 hr0 with ⟨_,h0⟩ | ⟨g1,cap1,rfl,j1,j2,j3⟩;·simp at h0
      have p1:=Zu hr0 (g:=g1) rfl (i:=0) (x:=x.ptr) rfl;have hb1:=(hT0.kid (k:=x) (by simp [ATree.kids])).blkOf;obtain ⟨b1,v1,kd1,t1,n1,l1⟩:=x;simp only [ATree.b,ATree.v,ATree.kind,ATree.text,ATree.n,ATree.ptr,List.length_cons] at hb1 p1 j1 d3;unfold maxLen at j2;have e0:w2.cell? ⟨b1,0,none⟩=some (.int .i64 kd1):=by simp [World.cell?,hb1]
      have e1:w2.cell? ⟨b1,1,none⟩=some (.string t1):=by simp [World.cell?,hb1]
      have hstr:Z1i acc=(decide (kd1=18) && Z0r t1 Z0a):=by rw [← HTR.out]; rfl
      have HST:=lh hstr;clear hrow hr0 hT0 hb0 hb1 hx0 hstr;by_cases h18:kd1=18
      ·subst h18;by_cases hus : t1 = Z0a
       ·subst hus;have H1:=lh (FIN1.out (by rw [HST.out]; simp [Z0r]));unfold Z0a at e1;go_wp2;go_ret;exact H1.out
       ·have H0 := lh (FIN0.out (by rw [HST.out]; simp [Z0r, hus]));have hne : ¬ t1.toList = Z0a.toList := fun h => hus (Z34 h);have hne2 : (t1.toList == Z0a.toList) = false := by simpa using hne
        have hl:Z0a.toList=[117,115,101,32,115,116,114,105,99,116]:=by rw [Lib.toList_data]; rfl
        have hne3:¬ t1.toList=[117,115,101,32,115,116,114,105,99,116]:=by rw [← hl]; exact hne
        have hne4:(t1.toList == [117,115,101,32,115,116,114,105,99,116])=false:=by simpa using hne3
        unfold Z0a at hne hne2;clear hus hl;go_wp2;go_ret;exact H0.out
      ·have n18 : (kd1 == 18) = false := by simpa using h18
       have H0:=lh (FIN0.out (by rw [HST.out]; simp [h18]));clear h18;go_wp2;go_ret;exact H0.out
     ·have n15 : (kd0 == 15) = false := by simpa using h15
      have H0:=lh (FIN0.out (by rw [← HTR.out]; cases l0 <;> simp [Zp,ATree.tree,Z1i,h15]));clear hrow hr0 hT0 hb0 hx0 h15;go_wp2;go_ret;exact H0.out
  ·have hb' : isT Zq us = false := by simpa using hb
   rw [hb'] at HB;rw [Y3 (by rw [Y3 (by omega)]; exact hb)] at hq;have HB:=lh HB;unfold Zq at HB;have HQ2:=lh hq;clear hG hR hF hq hb hb' hx ST;go_wp2_with fail
   refine HB.out.mono ?_;rintro e w2 ⟨rfl,hB2⟩;have F2:=FF.out.trans (RFr.below (rb:=rb) hB2);have G2:=G.out.rfr HP.out.lt (RFr.below (rb:=rb) hB2);have R2:=R.out.below hB2;have n3:w2.cell? ⟨nb,3,none⟩=some v:=by have:=G2.at'.blkOf; simp only [ATree.b,ATree.v,ATree.kind,ATree.text,ATree.n] at this; simp [World.cell?,this]
   have F2:=lh F2;have G2:=lh G2;have R2:=lh R2;clear hB2 HB FF G R;go_wp2_with fail
   refine Z1 [(true,0),(true,1),(true,2),(true,3),(true,4),(true,5),(true,6),(true,7),(false,8),(false,9),(false,10)] [11,12,13] (fun W=>W.cell? ⟨nb,3,none⟩=some v) (by kernel_rfl) (by kernel_rfl) (fun _ _ d _ _ h=>by cases d <;> exact h) n3 (fun hS0=>?_);simp only [Zc,zD,zE,zF,zG,zH,zI]
   iterate 8
    first
     | (refine Z3 ?_ (by rfl) (fun w' hS'=>?_) ?_; rotate_left; (have s0:=hS'; go_simp; first | done | with_reducible rfl); simp only [Act.put,zA,zB,zC])
     | (refine Z4 (by rfl) ?_; simp only [Act.put,zA,zB,zC])
   refine Z5 (fun K hK=>?_);go_simp
   have hlt:=HP.out.lt;have hRF2:RFr w2 w2.drew rb:=(RFr.refl w2 rb).drew;have hus:us.length≤4000:=by have:=HP.out.few; omega
   have hle2:B≤w2.drew.heap.size:=Y4 HP.out.le F2.out.size;rcases Zb HQ2.out with ⟨⟨c,p⟩,hv,rfl⟩ | ⟨t,vs,hv,hq3⟩
   ·refine (Zr w2.drew rb B us d _ _ R2.out.drew (by have:=HP.out.deep; omega) hlt hv fun hd h1 w1 hR1 hs=>HS.out g (by omega) w1 rb B (d + 1) us _ ⟨hR1,hd,hlt,by omega,hus⟩ h1).mono ?_;rintro e w3 ⟨⟨b,rfl,h1,h2⟩,hF3⟩;exact ⟨rfl,Zo.pre F2.out.drew (r:=.error (c,p)) ⟨⟨b,rfl,h1,h2⟩,hF3⟩⟩
   ·have hvl:vs.length < us.length:=Leaves.within (Zx g .stmt (d + 1) us) t vs hv;have hvx:t.kind=15→t.kids≠[]:=by
     unfold Zj at hv;by_cases h30:30 < d + 1;·rw [Y5 h30] at hv; cases hv
     ·rw [Y3 h30] at hv;cases g with
      | zero=>cases hv
      | succ g=>exact Z8s hv
    have HVX:=lh hvx;have HQ3:=lh hq3;refine (Zr w2.drew rb B us d _ _ R2.out.drew (by have:=HP.out.deep; omega) hlt hv fun hd h1 w1 hR1 hs=>HS.out g (by omega) w1 rb B (d + 1) us _ ⟨hR1,hd,hlt,by omega,hus⟩ h1).mono ?_;rintro e w3 ⟨a,rfl,hA,hR3,hF3⟩;have hF23:RFr w2 w3 rb:=hRF2.trans hF3;have hN3:=G2.out.rfr hlt hF23;have hblk:=hN3.at'.blkOf;simp only [ATree.b,ATree.v,ATree.kind,ATree.text,ATree.n] at hblk;have m3:w3.cell? ⟨nb,3,none⟩=some v:=by simp [World.cell?,hblk]
    have mz:w3.frozen? ⟨nb,3,none⟩=false:=by simp [World.frozen?,hblk]
    have hnb3:nb < w3.heap.size:=(Y1.1 hblk).1;have hnd:=hN3.nodup;simp only [ATree.blocks,List.nodup_cons,List.mem_append,Option.mem_toList,not_or] at hnd;have hne:v.ownBlock≠some nb:=hnd.1.1;have hkl:kids.length=acc.length:=by
     have:=hN3.tree;simp only [ATree.tree,Tree.mk.injEq,true_and] at this;rw [← this,Z20,Ym]
    have hk4:kids.length≤4000:=by have:=HP.out.few; omega
    have N3:=lh hN3;have A3:=lh hA;have R3:=lh hR3;have F3:=lh (F2.out.trans hF23);have NE:=lh hne;have HKL:=lh hkl;refine hK _ _ m3 ?_;obtain ⟨i0,hi,hz0,hz1,hz2⟩:=info_parts Tryz.infoPtr;clear hK K hA hR3 hF3 hF23 hN3 hblk hnd hne hvx hq3 hv hkl n3 hRF2;refine Z5 (fun K hK=>?_);go_simp
    refine hK _ _ ((Zd hnb3).trans m3) ?_;clear hK K;refine Z5 (fun K hK=>?_);refine step_append_lies _ (by rfl) (.tmp 37) (.tmp 42) 35 (by rfl) B 22 i0 _ 1 8 Tryz.underlying35 hi hz0 hz1 hz2 rfl (by decide) v kids.length (kids.map ATree.ptr) (by rfl) (N3.out.at'.rowOf.alloc _) ⟨w3.heap.size,0,none⟩ 1 1 [a.ptr] (by rfl) rfl (Ya (cs:=#[a.ptr]) (t:=22) (fr:=(0,0)) (heap_alloc_new w3 _)) (by simp [ATree.ptr,Value.oneCell']) (by decide) (by unfold maxLen; omega) (by omega) (by simp; have:=F3.out.size; have:=HP.out.le; omega) (w3.heap.size + 1) (by simp) ?_
    intro gg cap w4 hown4 hgrow4 hat4 hlt4;have m4:w4.cell? ⟨nb,3,none⟩=some v:=(hgrow4.cell_far ⟨nb,3,none⟩ (by simp; omega) (fun e=>NE.out e.symm)).trans ((Zd hnb3).trans m3);have mz4:w4.frozen? ⟨nb,3,none⟩=false:=(hgrow4.frozen_far ⟨nb,3,none⟩ (by simp; omega) (fun e=>NE.out e.symm)).trans ((Z0b hnb3).trans mz);refine hK _ _ m4 ?_;clear hK K;simp only [Act.put,zA,zB,zC]
    have hfin:=Got.push hlt HP.out.le N3.out (wA:=w2.drew) (fun x hx=>(G2.out.new x hx).2) A3.out F3.out R3.out ((Y2 _ _).alloc (Y0 _) _) hgrow4 hown4 (by rcases hat4 with h | h; (exact .inl h); (exact .inr (by omega))) hlt4;have FIN:=lh hfin;clear hgrow4 hown4 hat4 hlt4 hfin;refine Z6 ?_;go_wp2;go_roundw
    case rel=>
     refine ⟨g,acc ++ [t],vs,.slice (some ⟨gg,0,none⟩) (kids.length + 1) cap,kids ++ [a],by omega,HQ3.out,?_,FIN.out.2.2,FIN.out.2.1,by simp; omega,fun x hx=>?_⟩
     ·have h1:=FIN.out.1;have h2:=G2.out.tree;simp only [ATree.tree,Tree.mk.injEq,true_and] at h2;rw [h2] at h1;exact h1
     ·rcases List.mem_append.1 hx with hx | hx;·exact HX.out x hx
      ·simp only [List.mem_singleton] at hx; subst hx; exact HVX.out
    case measure=>
     rw [FIN.out.2.2.left,RL.out];exact hvl
def Z1k (w:World) (B:Nat) (v:Value) (l:List ATree):Prop:=w.ownsRow B 22 1 v l.length (l.map ATree.ptr)
theorem Z1k.nil (w:World) (B:Nat):Z1k w B (.slice none 0 0) []:=World.ownsRow_nil w B _ _
theorem Z1k.bel {w w':World} {B:Nat} {v:Value} {l:List ATree} (h:Z1k w B v l) (g:Below w.heap.size w w'):Z1k w' B v l:=
 Ze h fun k hk=>g.block k (Y9 h k hk).2
theorem Z1k.form {w:World} {B:Nat} {v:Value} {l:List ATree} (h:Z1k w B v l):(v=.slice none 0 0∧l=[])∨∃ g cap,v=.slice (some ⟨g,0,none⟩) l.length cap∧l.length≤cap∧cap≤maxLen:=by
 rcases Z8 h with ⟨h1,h2⟩ | ⟨g,cap,h1,h2,h3,_⟩;·exact .inl ⟨h1,List.eq_nil_of_length_eq_zero h2⟩
 ·exact .inr ⟨g,cap,h1,h2,h3⟩
theorem Z1k.cell {w:World} {B:Nat} {v:Value} {l:List ATree} (h:Z1k w B v l) {b:Nat} (hb:v.ownBlock=some b) {j:Nat} {x:ATree} (hs:l[j]?=some x):w.cell? ⟨b,j,none⟩=some (.pointer (some ⟨x.b,0,none⟩)):=
 Zu h hb (by rw [Yg,hs]; rfl)
def Z19 (a:ATree):Bool:=a.kind == 5
def Z26 (a:ATree):Bool:=a.kind == 3 || a.kind == 4
theorem Z6u {p:ATree→Bool} {l:List ATree} {k:Nat} {x:ATree} (h:l[k]?=some x):(l.take (k + 1)).filter p=if p x then (l.take k).filter p ++ [x] else (l.take k).filter p:=by
 rw [Z0v h,List.filter_append];by_cases hp:p x <;> simp [hp]
theorem Z8w (w:World) (B0:Nat) (a:ATree) (hT:TreeAt w B0 a) (hn:a.kids.length < 1099511627776) :
 Calls Tryz.prog 24 #[a.ptr] w fun e w'=>∃ v,e=.returned v∧Z1k w' w.heap.size v (a.kids.filter Z19)∧Below w.heap.size w w':=by
 obtain ⟨i0,hi,hz0,hz1,hz2⟩:=info_parts Tryz.infoPtr;have hblk:=hT.blkOf;have hrow:=hT.rowOf;obtain ⟨p,cp,hv,hge⟩:∃ p cp,a.v=.slice p a.kids.length cp∧a.kids.length≤cp:=by
  rcases Z8 hrow with ⟨h1,h2⟩ | ⟨g0,cap0,h1,h2,_⟩;·exact ⟨none,0,by rw [h1,h2],by omega⟩
  ·exact ⟨_,_,h1,h2⟩
 have c3:w.cell? ⟨a.b,3,none⟩=some (.slice p a.kids.length cp):=by rw [← hv]; simp [World.cell?,hblk]
 have hlen:a.kids.length≤9223372036854775807:=by omega
 have HT:=lh hT;have HV:=lh hv;unfold ATree.ptr;obtain ⟨n,hnn⟩:=zX a.kids.length
 rw [← hnn] at c3 hlen hn hge;have HN:=lh hnn;clear hblk hrow hv hnn hT;go_enter Tryz.func24,Tryz.ntmps24
 go_wp2_with fail
 go_loopw [3,13] (fun v i wr=>∃ (k:Nat) (v':Value),v'=v∧k≤n∧i=.int .i64 k∧Hid (Z1k wr w.heap.size v' ((a.kids.take k).filter Z19))∧Hid (Below w.heap.size w wr)) (fun _ i _=>n - (intOf i).toNat)
 case atStart=>exact ⟨0,_,rfl,Yh _,rfl,lh (Z1k.nil _ _),lh (Y2 _ _)⟩
 case round=>
  obtain ⟨k,v,rfl,hk,rfl,HR,HB⟩:=hrel;by_cases hkn:k < n
  ·obtain ⟨x, hx⟩ : ∃ x, a.kids[k]? = some x := ⟨_, Y6 (by rw [← HN.out]; exact hkn)⟩
   have hT2:=HT.out.bel HB.out;have hrow:=hT2.rowOf;rcases Z8 hrow with ⟨_,h2⟩ | ⟨g0,cap0,hv0,_⟩;·rw [← HN.out] at h2; omega
   have hp:p=some ⟨g0,0,none⟩:=by
    have:=HV.out.symm.trans hv0;simp only [Value.slice.injEq] at this;exact this.1
   subst hp;have cx:=Zu hrow (g:=g0) (by rw [hv0]; rfl) (i:=k) (x:=x.ptr) (by rw [Yg,hx]; rfl);unfold ATree.ptr at cx;have hTx:=hT2.kid (Yd hx);have ck:wr.cell? ⟨x.b,0,none⟩=some (.int .i64 x.kind):=by simp [World.cell?,hTx.blkOf]
   have hfs:(a.kids.take (k + 1)).filter Z19=_:=Z6u (p:=Z19) hx;have HF:=lh hfs;have hll:((a.kids.take k).filter Z19).length≤k:=Y4 (List.length_filter_le _ _) (by simp; omega);have hsz:=HB.out.size;clear hT2 hrow hv0 hTx hfs;obtain ⟨kd,hkd⟩:=zX x.kind
   rw [← hkd] at ck;have HKD:=lh hkd;clear hkd hx;rcases (by omega:kd=5∨kd≠5) with h5 | h5
   ·subst h5;obtain ⟨L, hL⟩ := zX ((a.kids.take k).filter Z19)
    rw [← hL] at hll HF HR;have HL:=lh hL;unfold Z1k at HR;clear hL
    go_wp2_with (at_builtin; go_must (refine wpList_append_lies _ rfl (.tmp 22) (.tmp 24) 35 rfl w.heap.size 22 i0 (.pointer none) 1 8 Tryz.underlying35 hi hz0 hz1 hz2 rfl (by decide) v L.length (L.map ATree.ptr) rfl (HR.out.alloc _) ⟨wr.heap.size,0,none⟩ 1 1 [.pointer (some ⟨x.b,0,none⟩)] rfl rfl (fun j u hu=>cell_one_new wr _ _ j u hu) (by intro u hu; simp at hu; subst hu; rfl) (by first | omega | (simp; omega)) (by unfold maxLen; omega) (by first | omega | (simp; omega)) (by first | omega | (simp; omega)) (wr.heap.size + 1) (by simp) ?_); intro g cap w2 hown2 hgrow2 hat2 hgl2; have HG:=lh hgrow2; have HW:=lh hown2; have HT2:=lh hat2; clear hgrow2 hown2 hat2 hgl2)
    go_roundw
    case rel=>
     refine ⟨k + 1,_,rfl,by omega,by go_num,lh ?_,lh ?_⟩
     ·rw [HF.out,Y5 (by simp [Z19,← HKD.out])];unfold Z1k;rw [Yi,Yl];exact HW.out
     ·exact (HB.out.alloc hsz _).grown HG.out (by simp; omega) fun j hj=>(Y9 HR.out j hj).1
    case measure=>simp [intOf]; omega
   ·have n5 : (kd == 5) = false := by simpa using h5
    clear h5;go_wp2;go_roundw
    case rel=>
     refine ⟨k + 1,_,rfl,by omega,by go_num,lh ?_,HB⟩;rw [HF.out,Y3 (by simp [Z19,← HKD.out,n5])];exact HR.out
    case measure=>simp [intOf]; omega
  ·have hk2 : k = n := by omega
   subst hk2;go_wp2;go_ret;refine ⟨_,rfl,?_,HB.out⟩;have:=HR.out;rwa [Ye (by rw [← HN.out]; exact Y0 _)] at this
theorem Zak (w:World) (B0:Nat) (a:ATree) (hT:TreeAt w B0 a) (hn:a.kids.length < 1099511627776) :
 Calls Tryz.prog 26 #[a.ptr] w fun e w'=>∃ v,e=.returned v∧Z1k w' w.heap.size v (a.kids.filter Z26)∧Below w.heap.size w w':=by
 obtain ⟨i0,hi,hz0,hz1,hz2⟩:=info_parts Tryz.infoPtr;have hblk:=hT.blkOf;have hrow:=hT.rowOf;obtain ⟨p,cp,hv,hge⟩:∃ p cp,a.v=.slice p a.kids.length cp∧a.kids.length≤cp:=by
  rcases Z8 hrow with ⟨h1,h2⟩ | ⟨g0,cap0,h1,h2,_⟩;·exact ⟨none,0,by rw [h1,h2],by omega⟩
  ·exact ⟨_,_,h1,h2⟩
 have c3:w.cell? ⟨a.b,3,none⟩=some (.slice p a.kids.length cp):=by rw [← hv]; simp [World.cell?,hblk]
 have hlen:a.kids.length≤9223372036854775807:=by omega
 have HT:=lh hT;have HV:=lh hv;unfold ATree.ptr;obtain ⟨n,hnn⟩:=zX a.kids.length
 rw [← hnn] at c3 hlen hn hge;have HN:=lh hnn;clear hblk hrow hv hnn hT;go_enter Tryz.func26,Tryz.ntmps26
 go_wp2_with fail
 go_loopw [3,13] (fun v i wr=>∃ (k:Nat) (v':Value),v'=v∧k≤n∧i=.int .i64 k∧Hid (Z1k wr w.heap.size v' ((a.kids.take k).filter Z26))∧Hid (Below w.heap.size w wr)) (fun _ i _=>n - (intOf i).toNat)
 case atStart=>exact ⟨0,_,rfl,Yh _,rfl,lh (Z1k.nil _ _),lh (Y2 _ _)⟩
 case round=>
  obtain ⟨k,v,rfl,hk,rfl,HR,HB⟩:=hrel;by_cases hkn:k < n
  ·obtain ⟨x, hx⟩ : ∃ x, a.kids[k]? = some x := ⟨_, Y6 (by rw [← HN.out]; exact hkn)⟩
   have hT2:=HT.out.bel HB.out;have hrow:=hT2.rowOf;rcases Z8 hrow with ⟨_,h2⟩ | ⟨g0,cap0,hv0,_⟩;·rw [← HN.out] at h2; omega
   have hp:p=some ⟨g0,0,none⟩:=by
    have:=HV.out.symm.trans hv0;simp only [Value.slice.injEq] at this;exact this.1
   subst hp;have cx:=Zu hrow (g:=g0) (by rw [hv0]; rfl) (i:=k) (x:=x.ptr) (by rw [Yg,hx]; rfl);unfold ATree.ptr at cx;have hTx:=hT2.kid (Yd hx);have ck:wr.cell? ⟨x.b,0,none⟩=some (.int .i64 x.kind):=by simp [World.cell?,hTx.blkOf]
   have hfs:(a.kids.take (k + 1)).filter Z26=_:=Z6u (p:=Z26) hx;have HF:=lh hfs;have hll:((a.kids.take k).filter Z26).length≤k:=Y4 (List.length_filter_le _ _) (by simp; omega);have hsz:=HB.out.size;clear hT2 hrow hv0 hTx hfs;obtain ⟨kd,hkd⟩:=zX x.kind
   rw [← hkd] at ck;have HKD:=lh hkd;clear hkd hx;rcases (by omega:kd=3∨kd=4∨(kd≠3∧kd≠4)) with h3 | h3 | ⟨h3,h4⟩
   ·subst h3;obtain ⟨L, hL⟩ := zX ((a.kids.take k).filter Z26)
    rw [← hL] at hll HF HR;have HL:=lh hL;unfold Z1k at HR;clear hL
    go_wp2_with (at_builtin; go_must (refine wpList_append_lies _ rfl (.tmp 29) (.tmp 31) 35 rfl w.heap.size 22 i0 (.pointer none) 1 8 Tryz.underlying35 hi hz0 hz1 hz2 rfl (by decide) v L.length (L.map ATree.ptr) rfl (HR.out.alloc _) ⟨wr.heap.size,0,none⟩ 1 1 [.pointer (some ⟨x.b,0,none⟩)] rfl rfl (fun j u hu=>cell_one_new wr _ _ j u hu) (by intro u hu; simp at hu; subst hu; rfl) (by first | omega | (simp; omega)) (by unfold maxLen; omega) (by first | omega | (simp; omega)) (by first | omega | (simp; omega)) (wr.heap.size + 1) (by simp) ?_); intro g cap w2 hown2 hgrow2 hat2 hgl2; have HG:=lh hgrow2; have HW:=lh hown2; have HT2:=lh hat2; clear hgrow2 hown2 hat2 hgl2)
    go_roundw
    case rel=>
     refine ⟨k + 1,_,rfl,by omega,by go_num,lh ?_,lh ?_⟩
     ·rw [HF.out,Y5 (by simp [Z26,← HKD.out])];unfold Z1k;rw [Yi,Yl];exact HW.out
     ·exact (HB.out.alloc hsz _).grown HG.out (by simp; omega) fun j hj=>(Y9 HR.out j hj).1
    case measure=>simp [intOf]; omega
   ·subst h3;obtain ⟨L, hL⟩ := zX ((a.kids.take k).filter Z26)
    rw [← hL] at hll HF HR;have HL:=lh hL;unfold Z1k at HR;clear hL
    go_wp2_with (at_builtin; go_must (refine wpList_append_lies _ rfl (.tmp 29) (.tmp 31) 35 rfl w.heap.size 22 i0 (.pointer none) 1 8 Tryz.underlying35 hi hz0 hz1 hz2 rfl (by decide) v L.length (L.map ATree.ptr) rfl (HR.out.alloc _) ⟨wr.heap.size,0,none⟩ 1 1 [.pointer (some ⟨x.b,0,none⟩)] rfl rfl (fun j u hu=>cell_one_new wr _ _ j u hu) (by intro u hu; simp at hu; subst hu; rfl) (by first | omega | (simp; omega)) (by unfold maxLen; omega) (by first | omega | (simp; omega)) (by first | omega | (simp; omega)) (wr.heap.size + 1) (by simp) ?_); intro g cap w2 hown2 hgrow2 hat2 hgl2; have HG:=lh hgrow2; have HW:=lh hown2; have HT2:=lh hat2; clear hgrow2 hown2 hat2 hgl2)
    go_roundw
    case rel=>
     refine ⟨k + 1,_,rfl,by omega,by go_num,lh ?_,lh ?_⟩
     ·rw [HF.out,Y5 (by simp [Z26,← HKD.out])];unfold Z1k;rw [Yi,Yl];exact HW.out
     ·exact (HB.out.alloc hsz _).grown HG.out (by simp; omega) fun j hj=>(Y9 HR.out j hj).1
    case measure=>simp [intOf]; omega
   ·have n3 : (kd == 3) = false := by simpa using h3
    have n4:(kd == 4)=false:=by simpa using h4
    clear h3 h4;go_wp2;go_roundw
    case rel=>
     refine ⟨k + 1,_,rfl,by omega,by go_num,lh ?_,HB⟩;rw [HF.out,Y3 (by simp [Z26,← HKD.out,n3,n4])];exact HR.out
    case measure=>simp [intOf]; omega
  ·have hk2 : k = n := by omega
   subst hk2;go_wp2;go_ret;refine ⟨_,rfl,?_,HB.out⟩;have:=HR.out;rwa [Ye (by rw [← HN.out]; exact Y0 _)] at this
def Z2l (a:ATree):Bool:=a.kind == 5 || a.kind == 37
theorem TreeAt.c0 {w:World} {B:Nat} {a:ATree} (h:TreeAt w B a):w.cell? ⟨a.b,0,none⟩=some (.int .i64 a.kind):=by simp [World.cell?,h.blkOf]
theorem TreeAt.c1 {w:World} {B:Nat} {a:ATree} (h:TreeAt w B a):w.cell? ⟨a.b,1,none⟩=some (.string a.text):=by simp [World.cell?,h.blkOf]
theorem TreeAt.c3 {w:World} {B:Nat} {a:ATree} (h:TreeAt w B a):w.cell? ⟨a.b,3,none⟩=some a.v:=by simp [World.cell?,h.blkOf]
theorem TreeAt.vOf {w:World} {B:Nat} {a:ATree} (h:TreeAt w B a):∃ p cp,a.v=.slice p a.kids.length cp∧a.kids.length≤cp∧cp≤maxLen:=by
 rcases Z8 h.rowOf with ⟨h1,h2⟩ | ⟨g0,cap0,h1,h2,h3,_⟩;·exact ⟨none,0,by rw [h1,h2],by omega,by unfold maxLen; omega⟩
 ·exact ⟨_,_,h1,h2,h3⟩
theorem Z9d (w:World) (B:Nat) (a:ATree) (hT:TreeAt w B a) :
 Calls Tryz.prog 54 #[a.ptr] w fun e w'=>e=.returned (.bool (Z2l a))∧w'=w:=by
 have c0:=hT.c0;unfold Z2l ATree.ptr;obtain ⟨kd,hkd⟩:=zX a.kind
 rw [← hkd] at c0 ⊢;clear hkd hT;rcases (by omega:kd=5∨kd=37∨(kd≠5∧kd≠37)) with h3 | h3 | ⟨h3,h4⟩
 ·subst h3;go_enter Tryz.func54, Tryz.ntmps54
  go_wp2;go_ret;exact ⟨rfl,rfl⟩
 ·subst h3;go_enter Tryz.func54, Tryz.ntmps54
  go_wp2;go_ret;exact ⟨rfl,rfl⟩
 ·have n3 : (kd == 5) = false := by simpa using h3
  have n4:(kd == 37)=false:=by simpa using h4
  clear h3 h4;rw [n3,n4];go_enter Tryz.func54,Tryz.ntmps54
  go_wp2;go_ret;exact ⟨rfl,rfl⟩
theorem Zv.slice {w:World} {B:Nat} {v:Value} {l:List ByteArray} (h:Zv w B v l):∃ p n c,v=.slice p n c:=by
 rcases h.form with ⟨h,_⟩ | ⟨g,cap,h,_⟩;·exact ⟨_,_,_,h⟩
 ·exact ⟨_,_,_,h⟩
def Z1f (l:List ByteArray) (a:ATree):Bool×List ByteArray:=(!Z2l a,if a.kind == 2 then addL l a.text else l)
theorem Z9c:∀ (l T:List ByteArray),l.Nodup→(∀ x∈l,x∈T)→l.length≤T.length:=by
 intro l;induction l with
 | nil=>intro T _ _; simp
 | cons a l ih =>
   intro T hd hs;obtain ⟨h1,h2⟩:=List.nodup_cons.1 hd;have ha:=hs a (by simp);have:=ih (T.eraseP (fun x=>decide (x=a))) h2 (fun x hx=>(List.mem_eraseP_of_neg (by simp only [decide_eq_true_eq]; exact fun e=>h1 (by rw [← e]; exact hx))).2 (hs x (List.mem_cons_of_mem _ hx)));have h3:=List.length_eraseP_of_mem (p:=fun x=>decide (x=a)) ha (by simp);have h4:=List.length_pos_of_mem ha;simp only [List.length_cons];omega
theorem Z7p {l:List ByteArray} {s:ByteArray} (h:l.Nodup):(addL l s).Nodup:=by
 unfold addL;by_cases hc:Lib.containsS l s=true;·rw [Y5 hc]; exact h
 ·rw [Y3 hc];rw [Lib.containsS_iff] at hc;rw [List.nodup_append];exact ⟨h,by simp,fun a ha b hb e=>hc (by simp at hb; rw [← hb,← e]; exact ha)⟩
theorem Z5w {l:List ByteArray} {s x:ByteArray} (h:x∈addL l s):x∈l∨x=s:=by
 unfold addL at h;split at h;·exact .inl h
 ·simpa using h
structure VInv (w0:World) (c:Nat) (T:List ByteArray) (l:List ByteArray) (w:World):Prop where
 cell:∃ v,w.heap[c]?=some (.cells #[v] 26 (0,0))∧Zv w (c + 1) v l
 bel:Below c w0 w
 nd:l.Nodup
 sub:∀ s∈l,s∈T
section
variable {w0 w:World} {c B:Nat} {T l:List ByteArray} {a:ATree}
theorem VInv.lt (h:VInv w0 c T l w):c < w.heap.size:=by obtain ⟨v,hb,_⟩:=h.cell; exact (Y1.1 hb).1
theorem VInv.tree (h:VInv w0 c T l w) (hT:TreeAt w0 B a) (hc:w0.heap.size≤c):TreeAt w B a:=hT.keep fun k _ hk=>h.bel.block k (by omega)
theorem VInv.drew (h:VInv w0 c T l w):VInv w0 c T l w.drew:=⟨h.cell,h.bel.drew,h.nd,h.sub⟩
theorem VInv.add {w1:World} {v':Value} {s:ByteArray} (h:VInv w0 c T l w) (hs:s∈T) (hB:Below (c + 1) w w1) (ht:Zv w1 (c + 1) v' (addL l s)):VInv w0 c T (addL l s) (w1.setCell ⟨c,0,none⟩ v'):=by
 obtain ⟨v,hb,_⟩:=h.cell;have hb1:w1.heap[c]?=some (.cells #[v] 26 (0,0)):=(hB.block c (by omega)).trans hb;refine ⟨⟨v',Zm (o:=0) v' hb1,?_⟩,?_,Z7p h.nd,fun x hx=>(Z5w hx).elim (h.sub x) (fun e=>by rw [e]; exact hs)⟩;·exact Ze ht fun k hk=>Y8 _ _ _ _ (by have:=(Y9 ht k hk).1; simp only; omega)
 ·exact (h.bel.trans (hB.mono (by omega))).setCell (p:=⟨c,0,none⟩) (Y0 _) _
end
theorem Zbz (w0:World) (c B:Nat) (T:List ByteArray) (hT:T.length < 1099511627776) (hc:w0.heap.size≤c) (x:ATree) (hx:TreeAt w0 B x) (hxT:x.text∈T) (l:List ByteArray) (w:World) (hI:VInv w0 c T l w) :
 Calls Tryz.prog 53 #[x.ptr,.pointer (some ⟨c,0,none⟩)] w fun e w'=>e=.returned (.bool (Z1f l x).1)∧VInv w0 c T (Z1f l x).2 w':=by
 have hxw:=hI.tree hx hc;have c0:=hxw.c0;have c1:=hxw.c1;have HX:=lh hx;have HI:=lh hI;have HC:=lh hc;have hsz:=hI.lt;obtain ⟨v,hb,htx⟩:=hI.cell;have cc:w.cell? ⟨c,0,none⟩=some v:=by simp [World.cell?,hb]
 have cz:w.frozen? ⟨c,0,none⟩=false:=by simp [World.frozen?,hb]
 have HTX:=lh htx;have hlen:=Nat.lt_of_le_of_lt (Z9c l T hI.nd hI.sub) hT;have HL:=lh hlen;have HXT:=lh hxT;clear hxw hx hI hc hb htx hlen hxT hT;unfold Z1f ATree.ptr;obtain ⟨tx,htx⟩:=zX x.text
 rw [← htx] at c1 HXT ⊢;clear htx;obtain ⟨kd,hkd⟩:=zX x.kind
 rw [← hkd] at c0 ⊢;clear hkd;rcases (by omega:kd=2∨kd≠2) with h2 | h2
 ·subst h2;go_enter Tryz.func53, Tryz.ntmps53
  go_wp2_with fail
  refine Z1 [(true,0),(true,1),(true,2),(true,3),(true,4)] [5,6] (fun W=>W.cell? ⟨c,0,none⟩=some v∧W.cell? ⟨x.b,1,none⟩=some (.string tx)) (by kernel_rfl) (by kernel_rfl) (fun _ _ d _ _ h=>by cases d <;> exact h) ⟨cc,c1⟩ (fun hS0=>?_);simp only [Zc,zD,zE,zF,zG,zH,zI]
  iterate 5
   first
    | (refine Z3 ?_ (by rfl) (fun w' hS'=>?_) ?_; rotate_left; (obtain ⟨s0,s1⟩:=hS'; go_simp; first | done | with_reducible rfl); simp only [Act.put,zA,zB,zC])
    | (refine Z4 (by rfl) ?_; simp only [Act.put,zA,zB,zC])
  refine Z6 ?_;have HA:=(Zfg w.drew (c + 1) v l tx HTX.out hsz HL.out)
  go_wp2_with fail
  refine HA.mono ?_;rintro e w1 ⟨v1,rfl,ht1,hb1⟩;obtain ⟨vp,vn,vc,rfl⟩:=ht1.slice;have hI1:=HI.out.drew.add HXT.out hb1 ht1;have H1:=lh hI1;have hcz:w1.frozen? ⟨c,0,none⟩=false:=(World.frozen?_of_block (hb1.block c (by omega))).trans cz;have hcs:∃ v,w1.cell? ⟨c,0,none⟩=some v:=⟨v,(Yb (hb1.block c (by omega))).trans cc⟩
  obtain ⟨v2,hcs⟩:=hcs;have HIN:=Z9d _ B x (hI1.tree HX.out HC.out);unfold ATree.ptr at HIN;have HIN:=lh HIN;clear hI1 HA hb1 ht1;go_wp2_with fail
  refine HIN.out.mono ?_;rintro e w3 ⟨rfl,rfl⟩;go_wp2;go_ret;exact ⟨rfl,H1.out⟩
 ·have n2 : (kd == 2) = false := by simpa using h2
  rw [n2];clear h2;have HIN:=Z9d w B x (HI.out.tree HX.out HC.out);unfold ATree.ptr at HIN;have HIN:=lh HIN;go_enter Tryz.func53,Tryz.ntmps53
  go_wp2_with fail
  refine HIN.out.mono ?_;rintro e w3 ⟨rfl,rfl⟩;go_wp2;go_ret;exact ⟨rfl,HI.out⟩
theorem Zfa (p0:Addr) {σ:Type} (Inv:σ→World→Prop) (g:σ→ATree→Bool×σ) (B:Nat):∀ (m:Nat) (a:ATree),a.many≤m→(∀ s w,Inv s w→TreeAt w B a) →
 ∀ s,(∀ x s',Reach g a s x s'→∀ w,Inv s' w→Calls Tryz.prog 53 #[x.ptr,.pointer (some p0)] w fun e w'=>e=.returned (.bool (g s' x).1)∧Inv (g s' x).2 w') →
 ∀ w,Inv s w→Calls Tryz.prog 20 #[a.ptr,.func (.func 53) #[] #[.pointer (some p0)]] w fun e w'=>e=.returned (.tuple #[])∧Inv (Z3j g a s) w':=by
 intro m;induction m with
 | zero=>intro a h; exfalso; cases a; simp [ATree.many] at h
 | succ m ih =>
   intro a hm hT s hg w hI;have IH:=lh ih;have HT:=lh hT;have HG:=lh hg;have HM:=lh hm;have HC:=hg a s (.self a s) w hI;rw [Z85];unfold ATree.ptr at HC ⊢;have hkid:∀ (i:Nat) (k x:ATree) (s':σ),(g s a).1=true→a.kids[i]?=some k→Reach g k (Z17 g (a.kids.take i) (g s a).2) x s'→Reach g a s x s':=fun i k x s' h1 h2 h3=>.kid h1 h2 h3;obtain ⟨ok,s1,hgs⟩:∃ ok s1,g s a=(ok,s1):=⟨_,_,rfl⟩
   rw [hgs] at HC hkid ⊢;have HKID:=lh hkid;clear hkid;have HC:=lh HC;clear ih hT hg hm hI hgs;cases ok
   ·go_enter Tryz.func20, Tryz.ntmps20
    go_wp2_with fail
    refine HC.out.mono ?_;rintro e w1 ⟨rfl,hI1⟩;have HI1:=lh hI1;clear hI1 HC;go_wp2;refine bodyPost_ret (results_none rfl _ _ _) rfl ?_;exact ⟨rfl,HI1.out⟩
   ·simp only [if_true];go_enter Tryz.func20, Tryz.ntmps20
    go_wp2_with fail
    refine HC.out.mono ?_;rintro e w1 ⟨rfl,hI1⟩;have hT1:=HT.out _ _ hI1;have hblk:=hT1.blkOf;have hrow:=hT1.rowOf;obtain ⟨p,cp,hv⟩:∃ p cp,a.v=.slice p a.kids.length cp:=by
     rcases Z8 hrow with ⟨h1,h2⟩ | ⟨g0,cap0,h1,_⟩;·exact ⟨none,0,by rw [h1,h2]⟩
     ·exact ⟨_,_,h1⟩
    rw [hv] at hblk;have c3:w1.cell? ⟨a.b,3,none⟩=some (.slice p a.kids.length cp):=by simp [World.cell?,hblk]
    have hlen:a.kids.length≤9223372036854775807:=by
     rcases Z8 hrow with ⟨h1,h2⟩ | ⟨g0,cap0,h1,k1,k2,k3⟩;·omega
     ·unfold maxLen at k2; omega
    have HI1:=lh hI1;have HV:=lh hv;obtain ⟨n,hn⟩:=zX a.kids.length
    rw [← hn] at c3 hlen;have HN:=lh hn;clear hI1 hT1 hblk hrow hv hn HC;go_wp2_with fail
    go_loopw [19] (fun i wr=>∃ k:Nat,k≤n∧i=.int .i64 k∧Hid (Inv (Z17 g (a.kids.take k) s1) wr)) (fun i _=>n - (intOf i).toNat)
    case atStart=>exact ⟨0,Yh _,rfl,lh (by simpa [Z17] using HI1.out)⟩
    case round=>
     obtain ⟨k,hk,rfl,HI⟩:=hrel;by_cases hkn:k < n
     ·obtain ⟨x, hx⟩ : ∃ x, a.kids[k]? = some x := ⟨_, Y6 (by rw [← HN.out]; exact hkn)⟩
      have hT2:=HT.out _ _ HI.out;have hrow:=hT2.rowOf;rcases Z8 hrow with ⟨_,h2⟩ | ⟨g0,cap0,hv0,k1,k2,k3⟩;·rw [← HN.out] at h2; omega
      have hp:p=some ⟨g0,0,none⟩:=by
       have:=HV.out.symm.trans hv0;simp only [Value.slice.injEq] at this;exact this.1
      subst hp;have cx:=Zu hrow (g:=g0) (by rw [hv0]; rfl) (i:=k) (x:=x.ptr) (by rw [Yg,hx]; rfl);unfold ATree.ptr at cx;have hmem:x∈a.kids:=Yd hx;have hcall:=IH.out x (by have:=Z2r hmem; have:=HM.out; omega) (fun s w h=>(HT.out s w h).kid hmem) _ (fun y s' hy=>HG.out y s' (HKID.out k x y s' (by first | rfl | trivial) hx hy)) _ HI.out;unfold ATree.ptr at hcall;have HCALL:=lh hcall;have HX:=lh hx;have hge:n≤cp:=by
       have:=HV.out.symm.trans hv0;simp only [Value.slice.injEq] at this;rw [HN.out,this.2.2]; exact k1
      clear hx hT2 hrow hv0 k1 k2 k3 hmem hcall;go_wp2_with fail
      refine HCALL.out.mono ?_;rintro e w2 ⟨rfl,hI2⟩;have HI2:=lh hI2;clear hI2 HCALL;go_wp2;go_roundw
      case rel=>exact ⟨k + 1,by omega,by go_num,lh (by rw [Z0v HX.out,Z5d]; exact HI2.out)⟩
      case measure=>simp [intOf]; omega
     ·have hk2 : k = n := by omega
      subst hk2;go_wp2;go_end0
      refine ⟨rfl,?_⟩;have:=HI.out;rwa [Ye (by rw [← HN.out]; exact Y0 _)] at this
end Go.Proofs.YtedopiahfejdfaaGreatDoor
