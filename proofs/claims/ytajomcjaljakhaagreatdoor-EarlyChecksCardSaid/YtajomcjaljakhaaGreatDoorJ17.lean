/- The document's Early: its walk: block. -/
import Derived.Test.YtajomcjaljakhaaGreatDoorJ16
namespace Go.Proofs.YtajomcjaljakhaaGreatDoor
open Go Go.RowKit
set_option maxRecDepth 100000
set_option maxHeartbeats 20000000
set_option linter.unusedVariables false
theorem Ziv {sb kb ab B m:Nat} (hK:Z8c sb kb ab B m) (a:ATree) (w:World) (st ins:Bool) (h:YIn sb kb ab B m a w) (h1:a.kind=6):Z5n sb ab a w st ins:=by
 have hdef:Z0p a st ins=if Z2n a false then 9 else Z1c a.kids st ins:=by
  obtain ⟨b,v,k,t,n,ks⟩:=a;simp only [ATree.kind] at h1;subst h1;rw [Z0p.eq_def];rfl
 unfold Z5n;obtain ⟨p,cp,hv,hge,hmx,hc⟩:=h.all;have HKI:=lh (fun W (g:Below w.heap.size w W)=>(h.bel g).kids hK hv st ins);have HC:=lh (fun W (g:Below w.heap.size w W)=>hc.bel h g);have HH:=lh h;have HV:=lh hv;obtain ⟨code,hcode⟩:=zX (Z0p a st ins)
 rw [← hcode];rw [hdef] at hcode;obtain ⟨RK,hRK⟩:=zX (Z1c a.kids st ins)
 rw [← hRK] at HKI hcode;have HCODE:=lh hcode;have HTW:=lh (Z98 w B a false h.t h.mx);obtain ⟨bf,hbf⟩:=zX (Z2n a false)
 rw [← hbf] at HCODE HTW;clear hbf;obtain ⟨n,hn⟩:=zX a.kids.length
 rw [← hn] at HKI HC hge HV;have HN:=lh hn;unfold maxLen at hmx;obtain ⟨tx,htx⟩:=zX a.text
 rw [← htx] at HC;try rw [← htx] at HCODE
 obtain ⟨c0,c1,c3,s0,a0⟩:=HC.out w (Y8 _ _);clear h hK hv hc hn htx hdef hcode hRK;unfold ATree.ptr;rw [h1] at c0;clear h1;unfold ATree.ptr at HTW;go_enter Tryz.func18,Tryz.ntmps18
 go_wp2_with fail
 refine HTW.out.mono ?_;rintro e w2 ⟨rfl,hb2⟩;have HB2:=lh hb2;obtain ⟨_,_,d3,_,d0⟩:=HC.out w2 hb2;clear hb2 HTW;cases bf;rotate_left
 ·go_wp2;go_ret;exact ⟨by rw [HCODE.out]; rfl,HB2.out⟩
 go_wp2_with fail
 refine Z0 [(true,0),(true,1),(true,2),(true,3),(true,4),(true,5),(true,6)] [7,8] (fun W=>W.cell? ⟨ab,0,none⟩=some (.func (.func 17) #[] #[.pointer (some ⟨kb,0,none⟩)])∧W.cell? ⟨a.b,3,none⟩=some (.slice p n cp)) (by kernel_rfl) (by kernel_rfl) (fun _ _ d _ _ h=>by cases d <;> exact h) ⟨d0,d3⟩ (fun hS0=>?_);simp only [Za,zD,zE,zF,zG,zH,zI]
 iterate 7
  first
   | (refine Z1 ?_ (by rfl) (fun w' hS'=>?_) ?_; rotate_left; (obtain ⟨s0,s1⟩:=hS'; go_simp; first | done | with_reducible rfl); simp only [Act.put,zA,zB,zC])
   | (refine Z2 (by rfl) ?_; simp only [Act.put,zA,zB,zC])
 refine Z4 ?_;go_wp2_with fail
 refine (HKI.out w2.drew (HB2.out).drew).mono ?_;rintro e w9 ⟨rfl,hb9⟩;have HB9:=lh ((HB2.out).drew.trans (hb9.mono (HB2.out).drew.size));clear hb9;go_wp2;go_ret;exact ⟨by rw [HCODE.out]; rfl,HB9.out⟩
theorem Zge {sb kb ab B m:Nat} (hK:Z8c sb kb ab B m) (a:ATree) (w:World) (st ins:Bool) (h:YIn sb kb ab B m a w) (h1:a.kind=10):Z5n sb ab a w st ins:=by
 have hdef:Z0p a st ins=if ins then Z1c a.kids st ins else 6:=by
  obtain ⟨b,v,k,t,n,ks⟩:=a;simp only [ATree.kind] at h1;subst h1;rw [Z0p.eq_def];rfl
 unfold Z5n;obtain ⟨p,cp,hv,hge,hmx,hc⟩:=h.all;have HKI:=lh (fun W (g:Below w.heap.size w W)=>(h.bel g).kids hK hv st ins);have HC:=lh (fun W (g:Below w.heap.size w W)=>hc.bel h g);have HH:=lh h;have HV:=lh hv;obtain ⟨code,hcode⟩:=zX (Z0p a st ins)
 rw [← hcode];rw [hdef] at hcode;obtain ⟨RK,hRK⟩:=zX (Z1c a.kids st ins)
 rw [← hRK] at HKI hcode;have HCODE:=lh hcode;obtain ⟨n,hn⟩:=zX a.kids.length
 rw [← hn] at HKI HC hge HV;have HN:=lh hn;unfold maxLen at hmx;obtain ⟨tx,htx⟩:=zX a.text
 rw [← htx] at HC;try rw [← htx] at HCODE
 obtain ⟨c0,c1,c3,s0,a0⟩:=HC.out w (Y8 _ _);clear h hK hv hc hn htx hdef hcode hRK;unfold ATree.ptr;rw [h1] at c0;clear h1;cases ins
 ·go_enter Tryz.func18, Tryz.ntmps18
  go_wp2;go_ret;exact ⟨by rw [HCODE.out]; rfl,Y8 w.heap.size w⟩
 ·go_enter Tryz.func18, Tryz.ntmps18
  go_wp2_with fail
  refine Z0 [(true,0),(true,1),(true,2),(true,3),(true,4),(true,5),(true,6)] [7,8] (fun W=>W.cell? ⟨ab,0,none⟩=some (.func (.func 17) #[] #[.pointer (some ⟨kb,0,none⟩)])∧W.cell? ⟨a.b,3,none⟩=some (.slice p n cp)) (by kernel_rfl) (by kernel_rfl) (fun _ _ d _ _ h=>by cases d <;> exact h) ⟨a0,c3⟩ (fun hS0=>?_);simp only [Za,zD,zE,zF,zG,zH,zI]
  iterate 7
   first
    | (refine Z1 ?_ (by rfl) (fun w' hS'=>?_) ?_; rotate_left; (obtain ⟨s0,s1⟩:=hS'; go_simp; first | done | with_reducible rfl); simp only [Act.put,zA,zB,zC])
    | (refine Z2 (by rfl) ?_; simp only [Act.put,zA,zB,zC])
  refine Z4 ?_;go_wp2_with fail
  refine (HKI.out w.drew (Y8 w.heap.size w).drew).mono ?_;rintro e w9 ⟨rfl,hb9⟩;have HB9:=lh ((Y8 w.heap.size w).drew.trans (hb9.mono (Y8 w.heap.size w).drew.size));clear hb9;go_wp2;go_ret;exact ⟨by rw [HCODE.out]; rfl,HB9.out⟩
theorem Zjb {sb kb ab B m:Nat} (hK:Z8c sb kb ab B m) (a:ATree) (w:World) (st ins:Bool) (h:YIn sb kb ab B m a w) {x:ATree} {r:List ATree} (h1:a.kind=13) (hk:a.kids=x :: r):Z5n sb ab a w st ins:=by
 have hdef:Z0p a st ins=if Z0x st a.text then 5 else if (Z3y false x).any (fun s=>Zp s a.text) then 9 else Z1c a.kids st ins:=by
  obtain ⟨b,v,k,t,n,ks⟩:=a;simp only [ATree.kind] at h1;simp only [ATree.kids] at hk;subst h1;subst hk;rw [Z0p.eq_def];simp only [true_and];rfl
 unfold Z5n;obtain ⟨p,cp,hv,hge,hmx,hc⟩:=h.all;have HKI:=lh (fun W (g:Below w.heap.size w W)=>(h.bel g).kids hK hv st ins);have HC:=lh (fun W (g:Below w.heap.size w W)=>hc.bel h g);have HH:=lh h;have HV:=lh hv;obtain ⟨code,hcode⟩:=zX (Z0p a st ins)
 rw [← hcode];rw [hdef] at hcode;obtain ⟨RK,hRK⟩:=zX (Z1c a.kids st ins)
 rw [← hRK] at HKI hcode;have HCODE:=lh hcode;have hl:r.length + 1=a.kids.length:=by rw [hk,List.length_cons]
 obtain ⟨g,rfl,k0,x0,x1,hTx,hrest⟩:=h.first hk hv;have HTX:=lh hTx;have HRE:=lh hrest;have HK0:=lh (show ∀ W,Below w.heap.size w W→W.cell? ⟨g,0,none⟩=some (.pointer (some ⟨x.b,0,none⟩)) from fun W q=>by
  obtain ⟨g',e,k0',_⟩:=(h.bel q).first hk hv;cases e;exact k0')
 have HNA:=lh (fun W (g:Below w.heap.size w W)=>Zc4 W B x (hTx.bel g) (by have:=Z2l (a:=a) (k:=x) (by rw [hk]; simp); have:=h.mx; omega));obtain ⟨n,hn⟩:=zX a.kids.length
 rw [← hn] at HKI HC hge HV;have HN:=lh hn;unfold maxLen at hmx;obtain ⟨tx,htx⟩:=zX a.text
 rw [← htx] at HC;try rw [← htx] at HCODE
 obtain ⟨c0,c1,c3,s0,a0⟩:=HC.out w (Y8 _ _);clear h hK hv hc hn htx hdef hcode hRK;unfold ATree.ptr;rw [h1] at c0;have HS2:=lh (fun W (q:Below w.heap.size w W)=>show W.cell? ⟨a.b,1,none⟩=some (.string tx)∧W.cell? ⟨a.b,3,none⟩=some (.slice (some ⟨g,0,none⟩) n cp) from ⟨(HC.out W q).2.1,(HC.out W q).2.2.1⟩);have hn0:0 < n:=by have:=HN.out; omega
 have hn1:(0:Int) < (n:Int):=by omega
 clear h1 hk hl hTx hrest x0 x1;unfold ATree.ptr at HNA;go_enter Tryz.func18,Tryz.ntmps18
 go_wp2_with fail
 refine Z0 [(true,0),(true,1),(true,2),(true,3),(true,4),(true,5)] [6] (fun W=>W.cell? ⟨sb,0,none⟩=some (.func (.func 16) #[] #[])∧W.cell? ⟨a.b,1,none⟩=some (.string tx)) (by kernel_rfl) (by kernel_rfl) (fun _ _ d _ _ h=>by cases d <;> exact h) ⟨s0,c1⟩ (fun hS0=>?_);simp only [Za,zD,zE,zF,zG,zH,zI]
 iterate 6
  first
   | (refine Z1 ?_ (by rfl) (fun w' hS'=>?_) ?_; rotate_left; (obtain ⟨s0,s1⟩:=hS'; go_simp; first | done | with_reducible rfl); simp only [Act.put,zA,zB,zC])
   | (refine Z2 (by rfl) ?_; simp only [Act.put,zA,zB,zC])
 refine Z4 ?_;go_wp2_with fail
 refine (Z5h _ st tx).mono ?_;rintro e w2 ⟨rfl,hw2⟩;rw [hw2];clear hw2 w2;obtain ⟨bf,hbf⟩:=zX (Z0x st tx)
 rw [← hbf] at HCODE ⊢;clear hbf;cases bf;rotate_left
 ·go_wp2;go_ret;exact ⟨by rw [HCODE.out]; rfl,(Y8 w.heap.size w).drew⟩
 go_wp2_with fail
 have c1d:w.drew.cell? ⟨a.b,1,none⟩=some (.string tx):=c1;have c3d:w.drew.cell? ⟨a.b,3,none⟩=some (.slice (some ⟨g,0,none⟩) n cp):=c3;have k0d:w.drew.cell? ⟨g,0,none⟩=some (.pointer (some ⟨x.b,0,none⟩)):=k0
 refine Z0 [(true,0),(true,1),(true,2),(true,3),(true,4),(true,5),(true,7),(true,8),(true,9),(true,10),(false,6)] [11] (fun W=>W.cell? ⟨a.b,1,none⟩=some (.string tx)∧W.cell? ⟨a.b,3,none⟩=some (.slice (some ⟨g,0,none⟩) n cp)∧W.cell? ⟨g,0,none⟩=some (.pointer (some ⟨x.b,0,none⟩))) (by kernel_rfl) (by kernel_rfl) (fun _ _ d _ _ h=>by cases d <;> exact h) ⟨c1d,c3d,k0d⟩ (fun hS0=>?_);simp only [Za,zD,zE,zF,zG,zH,zI]
 iterate 10
  first
   | (refine Z1 ?_ (by rfl) (fun w' hS'=>?_) ?_; rotate_left; (obtain ⟨s0,s1,s2⟩:=hS'; go_simp; first | done | with_reducible rfl); simp only [Act.put,zA,zB,zC])
   | (refine Z2 (by rfl) ?_; simp only [Act.put,zA,zB,zC])
 refine Z6 (fun K hK=>?_);go_simp
 refine (HNA.out w.drew.drew (Y8 w.heap.size w).drew.drew).mono ?_;rintro e w3 ⟨v3,rfl,ht3,hb3⟩;have hb4:=(Y8 w.heap.size w).drew.drew.trans hb3;refine hK _ _ ⟨(HS2.out w3 hb4).1,(HS2.out w3 hb4).2,HK0.out w3 hb4⟩ ?_;have HB4:=lh hb4;have HT3:=lh ht3;obtain ⟨_,_,d3,_,d0⟩:=HC.out w3 hb4;clear hK K hb3 hb4 ht3 HNA;refine Z4 ?_;go_wp2_with fail
 refine (Zde HT3.out tx).mono ?_;rintro e w4 ⟨rfl,hw4⟩;rw [hw4];clear hw4 w4;have e1:Lib.containsS (Z3y false x) tx=(Z3y false x).any (fun s=>Zp s tx):=by rw [Bool.eq_iff_iff,Lib.containsS_iff,List.any_eq_true]; simp [Z0z]
 obtain ⟨hf,hhf⟩:=zX (Lib.containsS (Z3y false x) tx)
 rw [← e1,← hhf] at HCODE;rw [← hhf];clear hhf e1;have d3d:w3.cell? ⟨a.b,3,none⟩=some (.slice (some ⟨g,0,none⟩) n cp):=d3;have d0d:w3.cell? ⟨ab,0,none⟩=some (.func (.func 17) #[] #[.pointer (some ⟨kb,0,none⟩)]):=d0;cases hf;rotate_left
 ·go_wp2;go_ret;exact ⟨by rw [HCODE.out]; rfl,HB4.out⟩
 go_wp2_with fail
 refine Z0 [(true,0),(true,1),(true,2),(true,3),(true,4),(true,5),(true,6)] [7,8] (fun W=>W.cell? ⟨ab,0,none⟩=some (.func (.func 17) #[] #[.pointer (some ⟨kb,0,none⟩)])∧W.cell? ⟨a.b,3,none⟩=some (.slice (some ⟨g,0,none⟩) n cp)) (by kernel_rfl) (by kernel_rfl) (fun _ _ d _ _ h=>by cases d <;> exact h) ⟨d0d,d3d⟩ (fun hS0=>?_);simp only [Za,zD,zE,zF,zG,zH,zI]
 iterate 7
  first
   | (refine Z1 ?_ (by rfl) (fun w' hS'=>?_) ?_; rotate_left; (obtain ⟨s0,s1⟩:=hS'; go_simp; first | done | with_reducible rfl); simp only [Act.put,zA,zB,zC])
   | (refine Z2 (by rfl) ?_; simp only [Act.put,zA,zB,zC])
 refine Z4 ?_;go_wp2_with fail
 refine (HKI.out w3.drew (HB4.out).drew).mono ?_;rintro e w9 ⟨rfl,hb9⟩;have HB9:=lh ((HB4.out).drew.trans (hb9.mono (HB4.out).drew.size));clear hb9;go_wp2;go_ret;exact ⟨by rw [HCODE.out]; rfl,HB9.out⟩
theorem Zhx {sb kb ab B m:Nat} (hK:Z8c sb kb ab B m) (a:ATree) (w:World) (st ins:Bool) (h:YIn sb kb ab B m a w) {x:ATree} {r:List ATree} (h1:a.kind=24) (hk:a.kids=x :: r):Z5n sb ab a w st ins:=by
 have hdef:Z0p a st ins=if x.kind == 23 && Z0x st x.text then 5 else Z1c a.kids st ins:=by
  obtain ⟨b,v,k,t,n,ks⟩:=a;simp only [ATree.kind] at h1;simp only [ATree.kids] at hk;subst h1;subst hk;rw [Z0p.eq_def];rfl
 unfold Z5n;obtain ⟨p,cp,hv,hge,hmx,hc⟩:=h.all;have HKI:=lh (fun W (g:Below w.heap.size w W)=>(h.bel g).kids hK hv st ins);have HC:=lh (fun W (g:Below w.heap.size w W)=>hc.bel h g);have HH:=lh h;have HV:=lh hv;obtain ⟨code,hcode⟩:=zX (Z0p a st ins)
 rw [← hcode];rw [hdef] at hcode;obtain ⟨RK,hRK⟩:=zX (Z1c a.kids st ins)
 rw [← hRK] at HKI hcode;have HCODE:=lh hcode;have hl:r.length + 1=a.kids.length:=by rw [hk,List.length_cons]
 obtain ⟨g,rfl,k0,x0,x1,hTx,hrest⟩:=h.first hk hv;have HTX:=lh hTx;have HRE:=lh hrest;have HK0:=lh (show ∀ W,Below w.heap.size w W→W.cell? ⟨g,0,none⟩=some (.pointer (some ⟨x.b,0,none⟩)) from fun W q=>by
  obtain ⟨g',e,k0',_⟩:=(h.bel q).first hk hv;cases e;exact k0')
 obtain ⟨n,hn⟩:=zX a.kids.length
 rw [← hn] at HKI HC hge HV;have HN:=lh hn;unfold maxLen at hmx;obtain ⟨tx,htx⟩:=zX a.text
 rw [← htx] at HC;try rw [← htx] at HCODE
 obtain ⟨c0,c1,c3,s0,a0⟩:=HC.out w (Y8 _ _);clear h hK hv hc hn htx hdef hcode hRK;unfold ATree.ptr;rw [h1] at c0;have hn0:0 < n:=by have:=HN.out; omega
 have hn1:(0:Int) < (n:Int):=by omega
 obtain ⟨kx,hkx⟩:=zX x.kind
 obtain ⟨ty,hty⟩:=zX x.text
 rw [← hkx] at x0 HCODE;rw [← hty] at x1 HCODE;clear h1 hk hl hTx hrest hkx hty;by_cases hx:kx=23
 ·subst hx;go_enter Tryz.func18, Tryz.ntmps18
  go_wp2_with fail
  refine Z0 [(true,0),(true,1),(true,2),(true,3),(true,4),(true,5),(true,6),(true,7),(true,8),(true,9),(true,10),(true,11),(true,12),(true,13),(true,14),(true,15),(true,16),(true,17),(true,18),(true,19),(true,20),(true,21)] [22,23] (fun W=>W.cell? ⟨sb,0,none⟩=some (.func (.func 16) #[] #[])∧W.cell? ⟨a.b,3,none⟩=some (.slice (some ⟨g,0,none⟩) n cp)∧W.cell? ⟨g,0,none⟩=some (.pointer (some ⟨x.b,0,none⟩))∧W.cell? ⟨x.b,0,none⟩=some (.int .i64 23)∧W.cell? ⟨x.b,1,none⟩=some (.string ty)) (by kernel_rfl) (by kernel_rfl) (fun _ _ d _ _ h=>by cases d <;> exact h) ⟨s0,c3,k0,x0,x1⟩ (fun hS0=>?_)
  simp only [Za,zD,zE,zF,zG,zH,zI]
  iterate 22
   first
    | (refine Z1 ?_ (by rfl) (fun w' hS'=>?_) ?_; rotate_left; (obtain ⟨s0,s1,s2,s3,s4⟩:=hS'; go_simp; first | done | with_reducible rfl); simp only [Act.put,zA,zB,zC])
    | (refine Z2 (by rfl) ?_; simp only [Act.put,zA,zB,zC])
  refine Z4 ?_;go_wp2_with fail
  refine (Z5h _ st ty).mono ?_;rintro e w2 ⟨rfl,hw2⟩;rw [hw2];clear hw2 w2;obtain ⟨bf,hbf⟩:=zX (Z0x st ty)
  rw [← hbf] at HCODE ⊢;clear hbf;cases bf;rotate_left
  ·go_wp2;go_ret;exact ⟨by rw [HCODE.out]; rfl,(Y8 w.heap.size w).drew⟩
  go_wp2_with fail
  have c3d:w.drew.cell? ⟨a.b,3,none⟩=some (.slice (some ⟨g,0,none⟩) n cp):=c3;have a0d:w.drew.cell? ⟨ab,0,none⟩=some (.func (.func 17) #[] #[.pointer (some ⟨kb,0,none⟩)]):=a0;refine Z0 [(true,0),(true,1),(true,2),(true,3),(true,4),(true,5),(true,6)] [7,8] (fun W=>W.cell? ⟨ab,0,none⟩=some (.func (.func 17) #[] #[.pointer (some ⟨kb,0,none⟩)])∧W.cell? ⟨a.b,3,none⟩=some (.slice (some ⟨g,0,none⟩) n cp)) (by kernel_rfl) (by kernel_rfl) (fun _ _ d _ _ h=>by cases d <;> exact h) ⟨a0d,c3d⟩ (fun hS0=>?_)
  simp only [Za,zD,zE,zF,zG,zH,zI]
  iterate 7
   first
    | (refine Z1 ?_ (by rfl) (fun w' hS'=>?_) ?_; rotate_left; (obtain ⟨s0,s1⟩:=hS'; go_simp; first | done | with_reducible rfl); simp only [Act.put,zA,zB,zC])
    | (refine Z2 (by rfl) ?_; simp only [Act.put,zA,zB,zC])
  refine Z4 ?_;go_wp2_with fail
  refine (HKI.out w.drew.drew ((Y8 w.heap.size w).drew).drew).mono ?_;rintro e w9 ⟨rfl,hb9⟩;have HB9:=lh (((Y8 w.heap.size w).drew).drew.trans (hb9.mono ((Y8 w.heap.size w).drew).drew.size));clear hb9;go_wp2;go_ret;exact ⟨by rw [HCODE.out]; rfl,HB9.out⟩
 ·have n23 : (kx == 23) = false := by simpa using hx
  rw [n23] at HCODE;clear hx;go_enter Tryz.func18,Tryz.ntmps18
  go_wp2_with fail
  refine Z0 [(true,0),(true,1),(true,2),(true,3),(true,4),(true,5),(true,6),(true,7),(true,8),(true,9),(true,10),(true,11),(true,12),(true,13),(true,14),(true,15),(true,16),(true,17),(true,18),(true,19),(true,20),(true,21)] [22,23] (fun W=>W.cell? ⟨sb,0,none⟩=some (.func (.func 16) #[] #[])∧W.cell? ⟨a.b,3,none⟩=some (.slice (some ⟨g,0,none⟩) n cp)∧W.cell? ⟨g,0,none⟩=some (.pointer (some ⟨x.b,0,none⟩))∧W.cell? ⟨x.b,0,none⟩=some (.int .i64 kx)∧W.cell? ⟨x.b,1,none⟩=some (.string ty)) (by kernel_rfl) (by kernel_rfl) (fun _ _ d _ _ h=>by cases d <;> exact h) ⟨s0,c3,k0,x0,x1⟩ (fun hS0=>?_)
  simp only [Za,zD,zE,zF,zG,zH,zI]
  iterate 22
   first
    | (refine Z1 ?_ (by rfl) (fun w' hS'=>?_) ?_; rotate_left; (obtain ⟨s0,s1,s2,s3,s4⟩:=hS'; go_simp; first | done | with_reducible rfl); simp only [Act.put,zA,zB,zC])
    | (refine Z2 (by rfl) ?_; simp only [Act.put,zA,zB,zC])
  refine Z4 ?_;go_wp2_with fail
  have c3d:w.drew.cell? ⟨a.b,3,none⟩=some (.slice (some ⟨g,0,none⟩) n cp):=c3;have a0d:w.drew.cell? ⟨ab,0,none⟩=some (.func (.func 17) #[] #[.pointer (some ⟨kb,0,none⟩)]):=a0;refine Z0 [(true,0),(true,1),(true,2),(true,3),(true,4),(true,5),(true,6)] [7,8] (fun W=>W.cell? ⟨ab,0,none⟩=some (.func (.func 17) #[] #[.pointer (some ⟨kb,0,none⟩)])∧W.cell? ⟨a.b,3,none⟩=some (.slice (some ⟨g,0,none⟩) n cp)) (by kernel_rfl) (by kernel_rfl) (fun _ _ d _ _ h=>by cases d <;> exact h) ⟨a0d,c3d⟩ (fun hS0=>?_)
  simp only [Za,zD,zE,zF,zG,zH,zI]
  iterate 7
   first
    | (refine Z1 ?_ (by rfl) (fun w' hS'=>?_) ?_; rotate_left; (obtain ⟨s0,s1⟩:=hS'; go_simp; first | done | with_reducible rfl); simp only [Act.put,zA,zB,zC])
    | (refine Z2 (by rfl) ?_; simp only [Act.put,zA,zB,zC])
  refine Z4 ?_;go_wp2_with fail
  refine (HKI.out w.drew.drew ((Y8 w.heap.size w).drew).drew).mono ?_;rintro e w9 ⟨rfl,hb9⟩;have HB9:=lh (((Y8 w.heap.size w).drew).drew.trans (hb9.mono ((Y8 w.heap.size w).drew).drew.size));clear hb9;go_wp2;go_ret;exact ⟨by rw [HCODE.out]; rfl,HB9.out⟩
theorem Zg8 {sb kb ab B m:Nat} (hK:Z8c sb kb ab B m) (a:ATree) (w:World) (st ins:Bool) (h:YIn sb kb ab B m a w) {x:ATree} {r:List ATree} (h1:a.kind=34) (hk:a.kids=x :: r):Z5n sb ab a w st ins:=by
 have hdef:Z0p a st ins=if st && x.kind == 23 then 1 else Z1c a.kids st ins:=by
  obtain ⟨b,v,k,t,n,ks⟩:=a;simp only [ATree.kind] at h1;simp only [ATree.kids] at hk;subst h1;subst hk;rw [Z0p.eq_def];rfl
 unfold Z5n;obtain ⟨p,cp,hv,hge,hmx,hc⟩:=h.all;have HKI:=lh (fun W (g:Below w.heap.size w W)=>(h.bel g).kids hK hv st ins);have HC:=lh (fun W (g:Below w.heap.size w W)=>hc.bel h g);have HH:=lh h;have HV:=lh hv;obtain ⟨code,hcode⟩:=zX (Z0p a st ins)
 rw [← hcode];rw [hdef] at hcode;obtain ⟨RK,hRK⟩:=zX (Z1c a.kids st ins)
 rw [← hRK] at HKI hcode;have HCODE:=lh hcode;have hl:r.length + 1=a.kids.length:=by rw [hk,List.length_cons]
 obtain ⟨g,rfl,k0,x0,x1,hTx,hrest⟩:=h.first hk hv;have HTX:=lh hTx;have HRE:=lh hrest;have HK0:=lh (show ∀ W,Below w.heap.size w W→W.cell? ⟨g,0,none⟩=some (.pointer (some ⟨x.b,0,none⟩)) from fun W q=>by
  obtain ⟨g',e,k0',_⟩:=(h.bel q).first hk hv;cases e;exact k0')
 obtain ⟨n,hn⟩:=zX a.kids.length
 rw [← hn] at HKI HC hge HV;have HN:=lh hn;unfold maxLen at hmx;obtain ⟨tx,htx⟩:=zX a.text
 rw [← htx] at HC;try rw [← htx] at HCODE
 obtain ⟨c0,c1,c3,s0,a0⟩:=HC.out w (Y8 _ _);clear h hK hv hc hn htx hdef hcode hRK;unfold ATree.ptr;rw [h1] at c0;have hn0:0 < n:=by have:=HN.out; omega
 have hn1:(0:Int) < (n:Int):=by omega
 obtain ⟨kx,hkx⟩:=zX x.kind
 rw [← hkx] at x0 HCODE;clear h1 hk hl hTx hrest hkx;by_cases hx:kx=23
 ·subst hx;cases st
  ·go_enter Tryz.func18, Tryz.ntmps18
   go_wp2_with fail
   refine Z0 [(true,0),(true,1),(true,2),(true,3),(true,4),(true,5),(true,6)] [7,8] (fun W=>W.cell? ⟨ab,0,none⟩=some (.func (.func 17) #[] #[.pointer (some ⟨kb,0,none⟩)])∧W.cell? ⟨a.b,3,none⟩=some (.slice (some ⟨g,0,none⟩) n cp)) (by kernel_rfl) (by kernel_rfl) (fun _ _ d _ _ h=>by cases d <;> exact h) ⟨a0,c3⟩ (fun hS0=>?_);simp only [Za,zD,zE,zF,zG,zH,zI]
   iterate 7
    first
     | (refine Z1 ?_ (by rfl) (fun w' hS'=>?_) ?_; rotate_left; (obtain ⟨s0,s1⟩:=hS'; go_simp; first | done | with_reducible rfl); simp only [Act.put,zA,zB,zC])
     | (refine Z2 (by rfl) ?_; simp only [Act.put,zA,zB,zC])
   refine Z4 ?_;go_wp2_with fail
   refine (HKI.out w.drew (Y8 w.heap.size w).drew).mono ?_;rintro e w9 ⟨rfl,hb9⟩;have HB9:=lh ((Y8 w.heap.size w).drew.trans (hb9.mono (Y8 w.heap.size w).drew.size));clear hb9;go_wp2;go_ret;exact ⟨by rw [HCODE.out]; rfl,HB9.out⟩
  ·go_enter Tryz.func18, Tryz.ntmps18
   go_wp2;go_ret;exact ⟨by rw [HCODE.out]; rfl,Y8 w.heap.size w⟩
 ·have n23 : (kx == 23) = false := by simpa using hx
  rw [n23,Bool.and_false] at HCODE;clear hx;cases st
  all_goals
   go_enter Tryz.func18,Tryz.ntmps18
   go_wp2_with fail
   refine Z0 [(true,0),(true,1),(true,2),(true,3),(true,4),(true,5),(true,6)] [7,8] (fun W=>W.cell? ⟨ab,0,none⟩=some (.func (.func 17) #[] #[.pointer (some ⟨kb,0,none⟩)])∧W.cell? ⟨a.b,3,none⟩=some (.slice (some ⟨g,0,none⟩) n cp)) (by kernel_rfl) (by kernel_rfl) (fun _ _ d _ _ h=>by cases d <;> exact h) ⟨a0,c3⟩ (fun hS0=>?_);simp only [Za,zD,zE,zF,zG,zH,zI]
   iterate 7
    first
     | (refine Z1 ?_ (by rfl) (fun w' hS'=>?_) ?_; rotate_left; (obtain ⟨s0,s1⟩:=hS'; go_simp; first | done | with_reducible rfl); simp only [Act.put,zA,zB,zC])
     | (refine Z2 (by rfl) ?_; simp only [Act.put,zA,zB,zC])
   refine Z4 ?_;go_wp2_with fail
   refine (HKI.out w.drew (Y8 w.heap.size w).drew).mono ?_;rintro e w9 ⟨rfl,hb9⟩;have HB9:=lh ((Y8 w.heap.size w).drew.trans (hb9.mono (Y8 w.heap.size w).drew.size));clear hb9;go_wp2;go_ret;exact ⟨by rw [HCODE.out]; rfl,HB9.out⟩
theorem Zjx {sb kb ab B m:Nat} (hK:Z8c sb kb ab B m) (a:ATree) (w:World) (st ins:Bool) (h:YIn sb kb ab B m a w) {x:ATree} {r:List ATree} (h1:a.kind=7∨a.kind=8∨a.kind=9) (hk:a.kids=x :: r) (hr:1≤r.length):Z5n sb ab a w st ins:=by
 have hdef:Z0p a st ins=if (a.kind == 9 && st) || r.any (fun x=>!Z40 x) then 1 else Z1c a.kids st ins:=by
  obtain ⟨b,v,k,t,n,ks⟩:=a;simp only [ATree.kind] at h1;simp only [ATree.kids] at hk;subst hk;rw [Z0p.eq_def];have e1:¬ (k=2∨k=3∨k=4∨k=13):=by omega
  have e2:¬ (k=5∨k=37):=by omega
  have e3:k≠6:=by omega
  simp only [e1,e2,e3,h1,if_false,if_true];rfl
 unfold Z5n;obtain ⟨p,cp,hv,hge,hmx,hc⟩:=h.all;have HKI:=lh (fun W (g:Below w.heap.size w W)=>(h.bel g).kids hK hv st ins);have HC:=lh (fun W (g:Below w.heap.size w W)=>hc.bel h g);have HH:=lh h;have HV:=lh hv;obtain ⟨code,hcode⟩:=zX (Z0p a st ins)
 rw [← hcode];rw [hdef] at hcode;obtain ⟨RK,hRK⟩:=zX (Z1c a.kids st ins)
 rw [← hRK] at HKI hcode;have HCODE:=lh hcode;have hl:r.length + 1=a.kids.length:=by rw [hk,List.length_cons]
 obtain ⟨g,rfl,k0,x0,x1,hTx,hrest⟩:=h.first hk hv;have HTX:=lh hTx;have HRE:=lh hrest;have HK0:=lh (show ∀ W,Below w.heap.size w W→W.cell? ⟨g,0,none⟩=some (.pointer (some ⟨x.b,0,none⟩)) from fun W q=>by
  obtain ⟨g',e,k0',_⟩:=(h.bel q).first hk hv;cases e;exact k0')
 obtain ⟨n,hn⟩:=zX a.kids.length
 rw [← hn] at HKI HC hge HV;have HN:=lh hn;unfold maxLen at hmx;obtain ⟨tx,htx⟩:=zX a.text
 rw [← htx] at HC;try rw [← htx] at HCODE
 obtain ⟨c0,c1,c3,s0,a0⟩:=HC.out w (Y8 _ _);clear h hK hv hc hn htx hdef hcode hRK;unfold ATree.ptr;obtain ⟨q,hq⟩:=zX r.length
 obtain rfl:n=q + 1:=by have:=HN.out; omega
 have HR1:=lh (show 1≤q from by rw [hq]; exact hr);clear hr;have HQ:=lh hq;have hqi:q + 1≤9223372036854775807:=by omega
 obtain ⟨RA,hRA⟩:=zX (r.any (fun x=>!Z40 x))
 rw [← hRA] at HCODE;have HRA:=lh hRA;have HRE1:=lh (fun (j:Nat) (y:ATree) (hy:r[j]?=some y)=>show w.cell? ⟨g,1 + j,none⟩=some (.pointer (some ⟨y.b,0,none⟩))∧w.cell? ⟨y.b,0,none⟩=some (.int .i64 y.kind) from by rw [Nat.add_comm]; exact hrest j y hy);obtain ⟨kd,hkd⟩:=zX a.kind
 rw [← hkd] at c0 h1 HCODE;have hn0:1≤q + 1:=by omega
 have hn1:(1:Int)≤((q + 1:Nat):Int):=by omega
 have hcp2:2≤cp:=by have:=HR1.out; omega
 clear hk hl hTx hrest hq hRA hkd HC HK0 HRE;rcases h1 with rfl | rfl | rfl;all_goals cases st
 rotate_right
 ·go_enter Tryz.func18, Tryz.ntmps18
  go_wp2;go_ret;exact ⟨by rw [HCODE.out]; rfl,Y8 w.heap.size w⟩
 all_goals
  go_enter Tryz.func18,Tryz.ntmps18
  go_wp2_with fail
  go_loopw [186] (fun i wr=>∃ (k:Nat),k≤q∧i=.int .i64 k∧w=wr∧Hid (∀ y∈r.take k,Z40 y=true)) (fun i _=>q - (intOf i).toNat)
  case atStart=>exact ⟨0,Yp _,rfl,rfl,lh (by simp)⟩
  case round=>
   obtain ⟨k,hk,rfl,hwr,HF⟩:=hrel;subst hwr;by_cases hkq:k < q
   ·obtain ⟨y, hy⟩ : ∃ y, r[k]? = some y := ⟨_, Yd (by rw [← HQ.out]; exact hkq)⟩
    obtain ⟨cy,dy⟩:=HRE1.out k y hy;have hal:Z40 y=(!(y.kind == 3) && !(y.kind == 4) && !(y.kind == 5)):=rfl;obtain ⟨ky,hky⟩:=zX y.kind
    rw [← hky] at dy hal;have HAL:=lh hal;have HY:=lh hy;clear hal hy hky;by_cases e3:ky=3∨ky=4∨ky=5
    ·have H1:Hid (code=1):=lh (by
      have h2:RA=true:=by
       rw [HRA.out,List.any_eq_true];refine ⟨y,Yl HY.out,?_⟩;rw [HAL.out];rcases e3 with rfl | rfl | rfl <;> rfl
      rw [HCODE.out,h2];rfl)
     rcases e3 with rfl | rfl | rfl
     all_goals
      go_wp2;go_ret;exact ⟨by rw [H1.out]; rfl,Y8 w.heap.size w⟩
    ·have n3 : (ky == 3) = false := by simp; omega
     have n4:(ky == 4)=false:=by simp; omega
     have n5:(ky == 5)=false:=by simp; omega
     clear e3;go_wp2;go_roundw
     case rel=>
      refine ⟨k + 1,by omega,by go_num,trivial,lh ?_⟩;intro z hz;obtain ⟨hkl,hke⟩:=List.getElem?_eq_some_iff.1 HY.out;rw [List.take_succ_eq_append_getElem hkl,List.mem_append] at hz;rcases hz with hz | hz;·exact HF.out z hz
      ·simp only [List.mem_singleton] at hz;rw [hz,hke,HAL.out,n3,n4,n5];rfl
     case measure=>simp [intOf]; omega
   ·have hk2 : k = q := by omega
    subst hk2;have h1:RA=false:=by
     rw [HRA.out,List.any_eq_false];intro z hz;rw [HF.out z (by rw [Ym (by rw [← HQ.out]; exact Y5 _)]; exact hz)];simp
    subst h1;go_wp2_with fail
    refine Z0 [(true,0),(true,1),(true,2),(true,3),(true,4),(true,5),(true,6)] [7,8] (fun W=>W.cell? ⟨ab,0,none⟩=some (.func (.func 17) #[] #[.pointer (some ⟨kb,0,none⟩)])∧W.cell? ⟨a.b,3,none⟩=some (.slice (some ⟨g,0,none⟩) (k + 1) cp)) (by kernel_rfl) (by kernel_rfl) (fun _ _ d _ _ h=>by cases d <;> exact h) ⟨a0,c3⟩ (fun hS0=>?_);simp only [Za,zD,zE,zF,zG,zH,zI]
    iterate 7
     first
      | (refine Z1 ?_ (by rfl) (fun w' hS'=>?_) ?_; rotate_left; (obtain ⟨s0,s1⟩:=hS'; go_simp; first | done | with_reducible rfl); simp only [Act.put,zA,zB,zC])
      | (refine Z2 (by rfl) ?_; simp only [Act.put,zA,zB,zC])
    refine Z4 ?_;go_wp2_with fail
    refine (HKI.out w.drew (Y8 w.heap.size w).drew).mono ?_;rintro e w9 ⟨rfl,hb9⟩;have HB9:=lh ((Y8 w.heap.size w).drew.trans (hb9.mono (Y8 w.heap.size w).drew.size));clear hb9;go_wp2;go_ret;exact ⟨by rw [HCODE.out]; rfl,HB9.out⟩
end Go.Proofs.YtajomcjaljakhaaGreatDoor
