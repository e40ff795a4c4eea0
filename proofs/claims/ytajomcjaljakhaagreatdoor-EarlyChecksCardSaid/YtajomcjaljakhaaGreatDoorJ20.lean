/- Package early: node. -/
import Derived.Test.YtajomcjaljakhaaGreatDoorJ19
import Derived.WalkMore
import Derived.ScopeJumps
namespace Go.Proofs.YtajomcjaljakhaaGreatDoor
open Go Go.RowKit
set_option maxRecDepth 100000
set_option maxHeartbeats 20000000
set_option linter.unusedVariables false
structure EIn (B m:Nat) (a:ATree) (w:World):Prop where
 m:a.many≤m + 1
 wa:WA a
 mx:a.many < 274877906944
 t:TreeAt w B a
def Z5m (B:Nat) (a:ATree) (w:World) (st ins:Bool):Prop:=
 Calls Tryz.prog 44 #[.agg #[.bool st,.bool ins],a.ptr] w fun e w'=>e=.returned (.int .i64 (Z0p a st ins))∧Below w.heap.size w w'
def EW (B:Nat) (a:ATree) (st ins:Bool) (kd:Int) (tx:ByteArray) (w W:World):Prop:=
 W.cell? ⟨w.heap.size,0,none⟩=some (.bool st)∧W.cell? ⟨w.heap.size,1,none⟩=some (.bool ins)∧W.cell? ⟨w.heap.size + 1,0,none⟩=some (.pointer (some ⟨a.b,0,none⟩)) ∧
 W.cell? ⟨a.b,0,none⟩=some (.int .i64 kd)∧W.cell? ⟨a.b,1,none⟩=some (.string tx)∧Below w.heap.size w W∧TreeAt W B a
theorem Z4d (w:World) (B:Nat) (a:ATree) (st ins:Bool) (hT:TreeAt w B a):∀ W,Below ((w.alloc (.cells #[.bool st,.bool ins] 43)).alloc (.cells #[.pointer (some ⟨a.b,0,none⟩)] 22)).heap.size ((w.alloc (.cells #[.bool st,.bool ins] 43)).alloc (.cells #[.pointer (some ⟨a.b,0,none⟩)] 22)) W→EW B a st ins a.kind a.text w W:=by
 have hb0:Below w.heap.size w (w.alloc (.cells #[.bool st,.bool ins] 43)):=(Y8 _ _).alloc (Y5 _) _;have hba:Below w.heap.size w ((w.alloc (.cells #[.bool st,.bool ins] 43)).alloc (.cells #[.pointer (some ⟨a.b,0,none⟩)] 22)):=hb0.alloc hb0.size _;have hlt0:w.heap.size < (w.alloc (.cells #[.bool st,.bool ins] 43)).heap.size:=by simp
 have hsz:((w.alloc (.cells #[.bool st,.bool ins] 43)).alloc (.cells #[.pointer (some ⟨a.b,0,none⟩)] 22)).heap.size=w.heap.size + 2:=by simp
 have b0:((w.alloc (.cells #[.bool st,.bool ins] 43)).alloc (.cells #[.pointer (some ⟨a.b,0,none⟩)] 22)).cell? ⟨w.heap.size,0,none⟩=some (.bool st):=(Z5 (by exact hlt0)).trans (by simp);have b1:((w.alloc (.cells #[.bool st,.bool ins] 43)).alloc (.cells #[.pointer (some ⟨a.b,0,none⟩)] 22)).cell? ⟨w.heap.size,1,none⟩=some (.bool ins):=(Z5 (by exact hlt0)).trans (by simp);have b3:((w.alloc (.cells #[.bool st,.bool ins] 43)).alloc (.cells #[.pointer (some ⟨a.b,0,none⟩)] 22)).cell? ⟨w.heap.size + 1,0,none⟩=some (.pointer (some ⟨a.b,0,none⟩)):=by simp
 intro W h;have h2:=hba.trans (h.mono hba.size);exact ⟨(Yj (h.block w.heap.size (by omega))).trans b0,(Yj (h.block w.heap.size (by omega))).trans b1,(Yj (h.block (w.heap.size + 1) (by omega))).trans b3,(Yj (h2.block a.b hT.lt)).trans hT.c0,(Yj (h2.block a.b hT.lt)).trans hT.c1,h2,hT.bel h2⟩
theorem EIn.first {B m:Nat} {a x:ATree} {r:List ATree} {w:World} (h:EIn B m a w) (hk:a.kids=x :: r) :
 ∃ g cp, r.length + 1 ≤ cp ∧ cp ≤ 9223372036854775807 ∧ ∀ W, Below w.heap.size w W → W.cell? ⟨a.b, 3, none⟩ = some (.slice (some ⟨g, 0, none⟩) (r.length + 1) cp) ∧ W.cell? ⟨g, 0, none⟩ = some (.pointer (some ⟨x.b, 0, none⟩)) ∧ TreeAt W B x ∧
   ∀ j y,r[j]?=some y→W.cell? ⟨g,1 + j,none⟩=some y.ptr∧TreeAt W B y:=by
 obtain ⟨p,cp,hv,hge,hmx⟩:=h.t.vOf;have hl:a.kids.length=r.length + 1:=by rw [hk,List.length_cons]
 obtain ⟨g,hp⟩:∃ g,p=some ⟨g,0,none⟩:=by
  rcases Zb h.t.rowOf with ⟨_,h2⟩ | ⟨g,cap,h1,_⟩;·rw [hk] at h2; simp at h2
  ·rw [hv] at h1; simp only [Value.slice.injEq] at h1; exact ⟨g,h1.1⟩
 subst hp;unfold maxLen at hmx;refine ⟨g,cp,by omega,hmx,fun W q=>?_⟩;have hT:=h.t.bel q;have hrow:=hT.rowOf;refine ⟨by have:=hT.c3; rw [hv,hl] at this; exact this,Zi hrow (g:=g) (by rw [hv]; rfl) (i:=0) (x:=x.ptr) (by rw [hk]; rfl),hT.kid (by rw [hk]; simp),fun j y hy=>⟨?_,hT.kid (by rw [hk]; exact List.mem_cons_of_mem _ (Yl hy))⟩⟩;rw [Nat.add_comm];exact Zi hrow (g:=g) (by rw [hv]; rfl) (i:=j + 1) (x:=y.ptr) (by rw [hk,List.map_cons,List.getElem?_cons_succ,Yo,hy]; rfl)
theorem Zgy {B m:Nat} (hK:Z8b B m) (a:ATree) (w:World) (st ins:Bool) (h:EIn B m a w) (h1:a.kind=2∨a.kind=3∨a.kind=4):Z5m B a w st ins:=by
 have hdef:Z0p a st ins=if Z0x st a.text then 5 else Z1c a.kids st ins:=by
  obtain ⟨b,v,k,t,n,ks⟩:=a;simp only [ATree.kind] at h1;rw [Z0p.eq_def];have e:k≠13:=by omega
  have e2:k=2∨k=3∨k=4∨k=13:=by omega
  simp only [];rw [Yb e2];simp only [e,false_and,if_false];rfl
 unfold Z5m;have hmf:∀ (fn:Fn) (first cap:Array Value) (w:World),(Instr.makeFunc fn first cap).run Tryz.prog w=.ok (.func fn first cap) w:=fun _ _ _ _=>rfl;have HKI:=lh (fun W (t:TreeAt W B a)=>hK a W st ins h.m (fun k hk=>h.wa.kid hk) h.mx t);obtain ⟨code,hcode⟩:=zX (Z0p a st ins)
 rw [← hcode];rw [hdef] at hcode;have HCODE:=lh hcode;have hall:=Z4d w B a st ins h.t;obtain ⟨kd,hkd⟩:=zX a.kind
 rw [← hkd] at hall h1;clear hkd;obtain ⟨tx,htx⟩:=zX a.text
 rw [← htx] at hall;try rw [← htx] at HCODE
 have HTX:=lh htx;unfold EW at hall;obtain ⟨b0',b1',b3',c0',c1',hba,_⟩:=hall _ (Y8 _ _);obtain ⟨w2,hw2⟩:=zX (((w.alloc (.cells #[.bool st,.bool ins] 43)).alloc (.cells #[.pointer (some ⟨a.b,0,none⟩)] 22)))
 rw [← hw2] at hall;obtain ⟨q0,q1,q3,s0,s1,hbw,hT2⟩:=hall w2 (Y8 _ _);have HALL:=lh hall;have HW2:=lh hw2;have HBW:=lh hbw;have HT2:=lh hT2;clear hK h hdef hcode htx hba hw2 hall hbw hT2;unfold ATree.ptr at HKI ⊢;have HBN:=lh (Z63 w2.drew st ins tx);obtain ⟨bf,hbf⟩:=zX (Z0x st tx)
 rw [← hbf] at HBN HCODE;clear hbf;rcases h1 with rfl | rfl | rfl
 all_goals
  go_enter Tryz.func44,Tryz.ntmps44
  go_wp2_with fail
  rw [← HW2.out];clear c0' c1' b0' b1' b3';refine Z0 [(true,0),(true,1),(true,2),(true,3),(true,4)] [5] (fun W=>W.cell? ⟨w.heap.size,0,none⟩=some (.bool st)∧W.cell? ⟨w.heap.size,1,none⟩=some (.bool ins)∧W.cell? ⟨w.heap.size + 1,0,none⟩=some (.pointer (some ⟨a.b,0,none⟩))∧W.cell? ⟨a.b,1,none⟩=some (.string tx)) (by kernel_rfl) (by kernel_rfl) (fun _ _ d _ _ h=>by cases d <;> exact h) ⟨q0,q1,q3,s1⟩ (fun hS0=>?_);simp only [Za,zD,zE,zF,zG,zH,zI]
  iterate 5
   first
    | (refine Z1 ?_ (by rfl) (fun w' hS'=>?_) ?_; rotate_left; (obtain ⟨s0,s1,s2,s3⟩:=hS'; go_simp; first | done | with_reducible rfl); simp only [Act.put,zA,zB,zC])
    | (refine Z2 (by rfl) ?_; simp only [Act.put,zA,zB,zC])
  refine Z4 ?_;go_wp2_with fail
  refine HBN.out.mono ?_;rintro e w3 ⟨rfl,hb3⟩;have hb4:Below w2.heap.size w2 w3:=(Y8 w2.heap.size w2).drew.trans hb3;obtain ⟨r0,r1,r3,u0,u1,hb5,hT3⟩:=HALL.out w3 hb4;have HB4:=lh hb4;have HB5:=lh hb5;have HT3:=lh hT3;clear hb3 hb4 hb5 hT3 q0 q1 q3 s0 s1;cases bf;rotate_left
  ·go_wp2;go_ret;exact ⟨by rw [HCODE.out]; rfl,HB5.out⟩
  go_wp2_with fail
  refine (HKI.out w3 HT3.out).mono ?_;rintro e w9 ⟨rfl,hb9⟩;have HB9:=lh ((HB5.out).trans (hb9.mono (HB5.out).size));clear hb9;go_wp2;go_ret;exact ⟨by rw [HCODE.out]; rfl,HB9.out⟩
theorem Zd7 {B m:Nat} (hK:Z8b B m) (a:ATree) (w:World) (st ins:Bool) (h:EIn B m a w) {x:ATree} {r:List ATree} (h1:a.kind=13) (hk:a.kids=x :: r):Z5m B a w st ins:=by
 have hdef:Z0p a st ins=if Z0x st a.text then 5 else if (Z3y false x).any (fun s=>Zp s a.text) then 9 else Z1c a.kids st ins:=by
  obtain ⟨b,v,k,t,n,ks⟩:=a;simp only [ATree.kind,ATree.kids] at h1 hk;subst h1;subst hk;rw [Z0p.eq_def];simp only [true_and];rfl
 unfold Z5m;have hmf:∀ (fn:Fn) (first cap:Array Value) (w:World),(Instr.makeFunc fn first cap).run Tryz.prog w=.ok (.func fn first cap) w:=fun _ _ _ _=>rfl;have HKI:=lh (fun W (t:TreeAt W B a)=>hK a W st ins h.m (fun k hk=>h.wa.kid hk) h.mx t);obtain ⟨code,hcode⟩:=zX (Z0p a st ins)
 rw [← hcode];rw [hdef] at hcode;have HCODE:=lh hcode;have hall:=Z4d w B a st ins h.t;rw [h1] at hall;clear h1;have hxm:x.many < 274877906944:=by have:=Z2l (a:=a) (k:=x) (by rw [hk]; simp); have:=h.mx; omega
 obtain ⟨g,cp,hge,hmx,hfi⟩:=h.first hk;have HFI:=lh hfi;obtain ⟨q,hq⟩:=zX r.length
 rw [← hq] at hge HFI hfi;have HQ:=lh hq;have hqi:q + 1≤9223372036854775807:=by omega
 obtain ⟨tx,htx⟩:=zX a.text
 rw [← htx] at hall;try rw [← htx] at HCODE
 have HTX:=lh htx;unfold EW at hall;obtain ⟨b0',b1',b3',c0',c1',hba,_⟩:=hall _ (Y8 _ _);obtain ⟨k3',k0',_,_⟩:=hfi _ hba;obtain ⟨w2,hw2⟩:=zX (((w.alloc (.cells #[.bool st,.bool ins] 43)).alloc (.cells #[.pointer (some ⟨a.b,0,none⟩)] 22)))
 rw [← hw2] at hall;obtain ⟨q0,q1,q3,s0,s1,hbw,hT2⟩:=hall w2 (Y8 _ _);have HALL:=lh hall;have HW2:=lh hw2;have HBW:=lh hbw;have HT2:=lh hT2;clear hK h hdef hcode htx hba hw2 hall hbw hT2 hk hq hfi;unfold ATree.ptr at HKI ⊢;have hn0:0 < q + 1:=by omega
 have hn1:(0:Int) < ((q + 1:Nat):Int):=by omega
 have HBN:=lh (Z63 w2.drew st ins tx);obtain ⟨bf,hbf⟩:=zX (Z0x st tx)
 rw [← hbf] at HBN HCODE;clear hbf;go_enter Tryz.func44,Tryz.ntmps44
 go_wp2_with fail
 rw [← HW2.out];clear c0' c1' b0' b1' b3' k3' k0';refine Z0 [(true,0),(true,1),(true,2),(true,3),(true,4)] [5] (fun W=>W.cell? ⟨w.heap.size,0,none⟩=some (.bool st)∧W.cell? ⟨w.heap.size,1,none⟩=some (.bool ins)∧W.cell? ⟨w.heap.size + 1,0,none⟩=some (.pointer (some ⟨a.b,0,none⟩))∧W.cell? ⟨a.b,1,none⟩=some (.string tx)) (by kernel_rfl) (by kernel_rfl) (fun _ _ d _ _ h=>by cases d <;> exact h) ⟨q0,q1,q3,s1⟩ (fun hS0=>?_)
 simp only [Za,zD,zE,zF,zG,zH,zI]
 iterate 5
  first
   | (refine Z1 ?_ (by rfl) (fun w' hS'=>?_) ?_; rotate_left; (obtain ⟨s0,s1,s2,s3⟩:=hS'; go_simp; first | done | with_reducible rfl); simp only [Act.put,zA,zB,zC])
   | (refine Z2 (by rfl) ?_; simp only [Act.put,zA,zB,zC])
 refine Z4 ?_;go_wp2_with fail
 refine HBN.out.mono ?_;rintro e w3 ⟨rfl,hb3⟩;have hb4:Below w2.heap.size w2 w3:=(Y8 w2.heap.size w2).drew.trans hb3;obtain ⟨r0,r1,r3,u0,u1,hb5,hT3⟩:=HALL.out w3 hb4;have HB4:=lh hb4;have HB5:=lh hb5;have HT3:=lh hT3;clear hb3 hb4 hb5 hT3 q0 q1 q3 s0 s1;cases bf;rotate_left
 ·go_wp2;go_ret;exact ⟨by rw [HCODE.out]; rfl,HB5.out⟩
 obtain ⟨l3,l0,hTx,_⟩:=HFI.out w3 HB5.out;have HNM:=lh (Zic false w3 B x hTx hxm);obtain ⟨nm,hnm⟩:=zX (Z3y false x)
 rw [← hnm] at HNM HCODE;unfold ATree.ptr at HNM;clear hTx hnm;go_wp2_with fail
 refine HNM.out.mono ?_;rintro e w4 ⟨v4,rfl,ht4,hb6⟩;obtain ⟨pv,cpv,rfl,hgv,hmv,hpv⟩:=ht4.form2;have hb7:Below w2.heap.size w2 w4:=HB4.out.trans (hb6.mono HB4.out.size);obtain ⟨o0,o1,o3,_,_,hb8,hT4⟩:=HALL.out w4 hb7;have hckl:w.heap.size + 1 < w4.heap.size:=by
  have h1:=hb7.size;have h2:w2.heap.size=w.heap.size + 2:=by rw [HW2.out]; simp
  omega
 have han:=Zlq ⟨w.heap.size + 1,0,none⟩ Value.string (fun s=>Zp s tx) (Below w4.heap.size w4) pv cpv nm w4 (by unfold maxLen at hmv; omega) hgv
  (fun i y hy => by
   obtain ⟨g,hg⟩:=hpv i y hy;refine ⟨g,0,hg,fun w1 h=>?_⟩;rw [Nat.zero_add];exact (Yj (h.block g (Yh ht4 g (by rw [hg]; rfl)).2)).trans (ht4.cells (by rw [hg]; rfl) hy))
  (fun y hy w1 h => by
   rw [HTX.out];exact (Zhv w1 B (w.heap.size + 1) a y (hT4.bel h) ((Yj (h.block _ hckl)).trans o3)).mono fun e w2 ⟨h1,h2⟩=>⟨h1,by rw [h2]; exact h⟩)
  (Y8 _ _)
 have HAN:=lh han;have HB7:=lh hb7;obtain ⟨ag,hag⟩:=zX (nm.any (fun s=>Zp s tx))
 rw [← hag] at HAN HCODE;clear han hag ht4 hb6 hb7 hb8 hT4 r0 r1 r3 l3 l0 u0 u1 hpv HNM;go_wp2_with fail
 refine HAN.out.mono ?_;rintro e w5 ⟨rfl,hb9⟩;obtain ⟨o0,o1,o3,_,_,hb8,hT5⟩:=HALL.out w5 (HB7.out.trans (hb9.mono HB7.out.size));have HB8:=lh hb8;have HT5:=lh hT5;clear hb9 hb8 hT5 HAN;cases ag;rotate_left
 ·go_wp2;go_ret;exact ⟨by rw [HCODE.out]; rfl,HB8.out⟩
 go_wp2_with fail
 refine (HKI.out w5 HT5.out).mono ?_;rintro e w9 ⟨rfl,hb9⟩;have HB9:=lh ((HB8.out).trans (hb9.mono (HB8.out).size));clear hb9;go_wp2;go_ret;exact ⟨by rw [HCODE.out]; rfl,HB9.out⟩
theorem Zf3 {B m:Nat} (hK:Z8b B m) (a:ATree) (w:World) (st ins:Bool) (h:EIn B m a w) {ps bd:ATree} (h1:a.kind=5∨a.kind=37) (hk:a.kids=[ps,bd]):Z5m B a w st ins:=by
 have hdef:Z0p a st ins=if Z6q (st || Z0r bd) a.text (ps.kids.map ATree.text) bd≠0 then Z6q (st || Z0r bd) a.text (ps.kids.map ATree.text) bd else Z1c bd.kids (st || Z0r bd) true:=by
  obtain ⟨b,v,k,t,n,ks⟩:=a;simp only [ATree.kind,ATree.kids] at h1 hk;subst hk;obtain ⟨b2,v2,k2,t2,n2,ks2⟩:=bd;rw [Z0p.eq_def];have e:¬ (k=2∨k=3∨k=4∨k=13):=by omega
  simp only [e,h1,if_false,if_true];rfl
 unfold Z5m;have hmf:∀ (fn:Fn) (first cap:Array Value) (w:World),(Instr.makeFunc fn first cap).run Tryz.prog w=.ok (.func fn first cap) w:=fun _ _ _ _=>rfl;have HKI:=lh (fun W (t:TreeAt W B a)=>hK a W st ins h.m (fun k hk=>h.wa.kid hk) h.mx t);obtain ⟨code,hcode⟩:=zX (Z0p a st ins)
 rw [← hcode];rw [hdef] at hcode;have HCODE:=lh hcode;have hall:=Z4d w B a st ins h.t;have hf:=fun W (t:TreeAt W B a)=>Zhj hK a W st ins h.m h.mx t ps bd hk (fun k hk2=>(h.wa.kid (show bd∈a.kids by rw [hk]; simp)).kid hk2);rw [← hcode] at hf;have HFN:=lh hf;clear hf hk;obtain ⟨kd,hkd⟩:=zX a.kind
 rw [← hkd] at hall h1;clear hkd;obtain ⟨tx,htx⟩:=zX a.text
 rw [← htx] at hall;try rw [← htx] at HCODE
 have HTX:=lh htx;unfold EW at hall;obtain ⟨b0',b1',b3',c0',c1',hba,_⟩:=hall _ (Y8 _ _);obtain ⟨w2,hw2⟩:=zX (((w.alloc (.cells #[.bool st,.bool ins] 43)).alloc (.cells #[.pointer (some ⟨a.b,0,none⟩)] 22)))
 rw [← hw2] at hall;obtain ⟨q0,q1,q3,s0,s1,hbw,hT2⟩:=hall w2 (Y8 _ _);have HALL:=lh hall;have HW2:=lh hw2;have HBW:=lh hbw;have HT2:=lh hT2;clear hK h hdef hcode htx hba hw2 hall hbw hT2;unfold ATree.ptr at HKI ⊢;unfold ATree.ptr at HFN;rcases h1 with rfl | rfl
 all_goals
  go_enter Tryz.func44,Tryz.ntmps44
  go_wp2_with fail
  rw [← HW2.out];clear c0' c1' b0' b1' b3';refine (HFN.out w2 HT2.out).mono ?_;rintro e w3 ⟨rfl,hb4⟩;obtain ⟨_,_,_,_,_,hb5,_⟩:=HALL.out w3 hb4;have HB5:=lh hb5;clear hb4 hb5 q0 q1 q3 s0 s1;go_wp2;go_ret;exact ⟨rfl,HB5.out⟩
theorem Zcq {B m:Nat} (hK:Z8b B m) (a:ATree) (w:World) (st ins:Bool) (h:EIn B m a w) {x:ATree} {r:List ATree} (h1:a.kind=7∨a.kind=8∨a.kind=9) (hk:a.kids=x :: r) (hr:1≤r.length):Z5m B a w st ins:=by
 have hdef:Z0p a st ins=if (a.kind == 9 && st) || r.any (fun x=>!Z40 x) then 1 else Z1c a.kids st ins:=by
  obtain ⟨b,v,k,t,n,ks⟩:=a;simp only [ATree.kind] at h1;simp only [ATree.kids] at hk;subst hk;rw [Z0p.eq_def];have e1:¬ (k=2∨k=3∨k=4∨k=13):=by omega
  have e2:¬ (k=5∨k=37):=by omega
  have e3:k≠6:=by omega
  simp only [e1,e2,e3,h1,if_false,if_true];rfl
 unfold Z5m;have hmf:∀ (fn:Fn) (first cap:Array Value) (w:World),(Instr.makeFunc fn first cap).run Tryz.prog w=.ok (.func fn first cap) w:=fun _ _ _ _=>rfl;have HKI:=lh (fun W (t:TreeAt W B a)=>hK a W st ins h.m (fun k hk=>h.wa.kid hk) h.mx t);obtain ⟨code,hcode⟩:=zX (Z0p a st ins)
 rw [← hcode];rw [hdef] at hcode;have HCODE:=lh hcode;have hall:=Z4d w B a st ins h.t;obtain ⟨kd,hkd⟩:=zX a.kind
 rw [← hkd] at hall h1 HCODE;clear hkd;have HR1:=lh hr;clear hr;obtain ⟨g,cp,hge,hmx,hfi⟩:=h.first hk;have HFI:=lh hfi;obtain ⟨q,hq⟩:=zX r.length
 rw [← hq] at hge HFI hfi;have HQ:=lh hq;have hqi:q + 1≤9223372036854775807:=by omega
 obtain ⟨tx,htx⟩:=zX a.text
 rw [← htx] at hall;try rw [← htx] at HCODE
 have HTX:=lh htx;unfold EW at hall;obtain ⟨b0',b1',b3',c0',c1',hba,_⟩:=hall _ (Y8 _ _);obtain ⟨k3',k0',_,_⟩:=hfi _ hba;obtain ⟨w2,hw2⟩:=zX (((w.alloc (.cells #[.bool st,.bool ins] 43)).alloc (.cells #[.pointer (some ⟨a.b,0,none⟩)] 22)))
 rw [← hw2] at hall;obtain ⟨q0,q1,q3,s0,s1,hbw,hT2⟩:=hall w2 (Y8 _ _);have HALL:=lh hall;have HW2:=lh hw2;have HBW:=lh hbw;have HT2:=lh hT2;clear hK h hdef hcode htx hba hw2 hall hbw hT2 hk hq hfi;unfold ATree.ptr at HKI ⊢;obtain ⟨RA,hRA⟩:=zX (r.any (fun x=>!Z40 x))
 rw [← hRA] at HCODE;have HRA:=lh hRA;clear hRA;rcases h1 with rfl | rfl | rfl;rotate_left
 rotate_left
 cases st;rotate_left
 ·go_enter Tryz.func44, Tryz.ntmps44
  go_wp2;go_ret;refine ⟨by rw [HCODE.out]; rfl,?_⟩;rw [← HW2.out];exact HBW.out
 all_goals
  have hn0:0 < q + 1:=by omega
  have hn2:1≤q + 1:=by omega
  have hcp2:2≤cp:=by have:=HR1.out; rw [← HQ.out] at this; omega
  have hn1:(1:Int)≤((q + 1:Nat):Int):=by omega
  go_enter Tryz.func44,Tryz.ntmps44
  go_wp2_with fail
  rw [← HW2.out];clear c0' c1' b0' b1' b3' k3' k0';obtain ⟨l3,l0,_,_⟩:=HFI.out w2 HBW.out
  have han:=Zln ATree.ptr (fun x=>!Z40 x) (Below w2.heap.size w2) (some ⟨g,1,none⟩) (cp - 1) r w2 (by rw [← HQ.out]; omega) (by rw [← HQ.out]; omega)
   (fun i y hy=>⟨g,1,rfl,fun w1 h=>((HFI.out w1 (HBW.out.trans (h.mono HBW.out.size))).2.2.2 i y hy).1⟩)
   (fun u hu w1 h => by
    obtain ⟨i,hi⟩:=List.getElem?_of_mem hu;exact (Zg9 w1 B u ((HFI.out w1 (HBW.out.trans (h.mono HBW.out.size))).2.2.2 i u hi).2).mono fun e w2 ⟨h1,h2⟩=>⟨h1,by rw [h2]; exact h⟩)
   (Y8 _ _)
  rw [← HQ.out,← HRA.out] at han;have HAN:=lh han;clear han l3 l0;refine HAN.out.mono ?_;rintro e w3 ⟨rfl,hb4⟩;have hb3:=hb4;obtain ⟨r0,r1,r3,u0,u1,hb5,hT3⟩:=HALL.out w3 hb4;have HB4:=lh hb4;have HB5:=lh hb5;have HT3:=lh hT3;clear hb3 hb4 hb5 hT3 q0 q1 q3 s0 s1;clear HAN;cases RA;rotate_left
  ·go_wp2;go_ret;exact ⟨by rw [HCODE.out]; rfl,HB5.out⟩
  go_wp2_with fail
  refine (HKI.out w3 HT3.out).mono ?_;rintro e w9 ⟨rfl,hb9⟩;have HB9:=lh ((HB5.out).trans (hb9.mono (HB5.out).size));clear hb9;go_wp2;go_ret;exact ⟨by rw [HCODE.out]; rfl,HB9.out⟩
theorem Zbl {B m:Nat} (hK:Z8b B m) (a:ATree) (w:World) (st ins:Bool) (h:EIn B m a w) {x:ATree} {r:List ATree} (h1:a.kind=24) (hk:a.kids=x :: r):Z5m B a w st ins:=by
 have hdef:Z0p a st ins=if x.kind == 23 && Z0x st x.text then 5 else Z1c a.kids st ins:=by
  obtain ⟨b,v,k,t,n,ks⟩:=a;simp only [ATree.kind,ATree.kids] at h1 hk;subst h1;subst hk;rw [Z0p.eq_def];rfl
 unfold Z5m;have hmf:∀ (fn:Fn) (first cap:Array Value) (w:World),(Instr.makeFunc fn first cap).run Tryz.prog w=.ok (.func fn first cap) w:=fun _ _ _ _=>rfl;have HKI:=lh (fun W (t:TreeAt W B a)=>hK a W st ins h.m (fun k hk=>h.wa.kid hk) h.mx t);obtain ⟨code,hcode⟩:=zX (Z0p a st ins)
 rw [← hcode];rw [hdef] at hcode;have HCODE:=lh hcode;have hall:=Z4d w B a st ins h.t;rw [h1] at hall;clear h1;obtain ⟨g,cp,hge,hmx,hfi⟩:=h.first hk;have HFI:=lh hfi;obtain ⟨q,hq⟩:=zX r.length
 rw [← hq] at hge HFI hfi;have HQ:=lh hq;have hqi:q + 1≤9223372036854775807:=by omega
 obtain ⟨tx,htx⟩:=zX a.text
 rw [← htx] at hall;try rw [← htx] at HCODE
 have HTX:=lh htx;unfold EW at hall;obtain ⟨b0',b1',b3',c0',c1',hba,_⟩:=hall _ (Y8 _ _);obtain ⟨k3',k0',_,_⟩:=hfi _ hba;obtain ⟨w2,hw2⟩:=zX (((w.alloc (.cells #[.bool st,.bool ins] 43)).alloc (.cells #[.pointer (some ⟨a.b,0,none⟩)] 22)))
 rw [← hw2] at hall;obtain ⟨q0,q1,q3,s0,s1,hbw,hT2⟩:=hall w2 (Y8 _ _);have HALL:=lh hall;have HW2:=lh hw2;have HBW:=lh hbw;have HT2:=lh hT2;clear hK h hdef hcode htx hba hw2 hall hbw hT2 hk hq hfi;unfold ATree.ptr at HKI ⊢;have hn0:0 < q + 1:=by omega
 have hn1:(0:Int) < ((q + 1:Nat):Int):=by omega
 go_enter Tryz.func44,Tryz.ntmps44
 go_wp2_with fail
 rw [← HW2.out];clear c0' c1' b0' b1' b3' k3' k0';obtain ⟨l3,l0,hTx,_⟩:=HFI.out w2 HBW.out;have x0:=hTx.c0;have x1:=hTx.c1;obtain ⟨ty,hty⟩:=zX x.text
 obtain ⟨kx,hkx⟩:=zX x.kind
 rw [← hty] at x1 HCODE;rw [← hkx] at x0 HCODE;clear hty hkx hTx l0 l3;have HBN:=lh (Z63 w2.drew st ins ty);obtain ⟨bf,hbf⟩:=zX (Z0x st ty)
 rw [← hbf] at HBN HCODE;clear hbf;by_cases h23:kx=23
 ·subst h23;refine Z0 [(true, 0), (true, 1), (true, 2), (true, 3), (true, 4), (true, 5), (true, 6), (true, 7), (true, 8), (true, 9), (true, 10)] [11, 12] (fun W => W.cell? ⟨w.heap.size, 0, none⟩ = some (.bool st) ∧ W.cell? ⟨w.heap.size, 1, none⟩ = some (.bool ins) ∧ W.cell? ⟨x.b, 0, none⟩ = some (.int .i64 23) ∧ W.cell? ⟨x.b, 1, none⟩ = some (.string ty)) (by kernel_rfl) (by kernel_rfl) (fun _ _ d _ _ h => by cases d <;> exact h) ⟨q0, q1, x0, x1⟩ (fun hS0 => ?_)
  simp only [Za,zD,zE,zF,zG,zH,zI]
  iterate 11
   first
    | (refine Z1 ?_ (by rfl) (fun w' hS'=>?_) ?_; rotate_left; (obtain ⟨s0,s1,s2,s3⟩:=hS'; go_simp; first | done | with_reducible rfl); simp only [Act.put,zA,zB,zC])
    | (refine Z2 (by rfl) ?_; simp only [Act.put,zA,zB,zC])
  refine Z4 ?_;go_wp2_with fail
  refine HBN.out.mono ?_;rintro e w3 ⟨rfl,hb3⟩;have hb4:Below w2.heap.size w2 w3:=(Y8 w2.heap.size w2).drew.trans hb3;obtain ⟨r0,r1,r3,u0,u1,hb5,hT3⟩:=HALL.out w3 hb4;have HB4:=lh hb4;have HB5:=lh hb5;have HT3:=lh hT3;clear hb3 hb4 hb5 hT3 q0 q1 q3 s0 s1;cases bf;rotate_left
  ·go_wp2;go_ret;exact ⟨by rw [HCODE.out]; rfl,HB5.out⟩
  go_wp2_with fail
  refine (HKI.out w3 HT3.out).mono ?_;rintro e w9 ⟨rfl,hb9⟩;have HB9:=lh ((HB5.out).trans (hb9.mono (HB5.out).size));clear hb9;go_wp2;go_ret;exact ⟨by rw [HCODE.out]; rfl,HB9.out⟩
 ·have n23 : (kx == 23) = false := by simpa using h23
  rw [n23,Bool.false_and] at HCODE;clear h23;refine Z0 [(true,0),(true,1),(true,2),(true,3),(true,4),(true,5),(true,6),(true,7),(true,8),(true,9),(true,10)] [11,12] (fun W=>W.cell? ⟨w.heap.size,0,none⟩=some (.bool st)∧W.cell? ⟨w.heap.size,1,none⟩=some (.bool ins)∧W.cell? ⟨x.b,0,none⟩=some (.int .i64 kx)∧W.cell? ⟨x.b,1,none⟩=some (.string ty)) (by kernel_rfl) (by kernel_rfl) (fun _ _ d _ _ h=>by cases d <;> exact h) ⟨q0,q1,x0,x1⟩ (fun hS0=>?_)
  simp only [Za,zD,zE,zF,zG,zH,zI]
  iterate 11
   first
    | (refine Z1 ?_ (by rfl) (fun w' hS'=>?_) ?_; rotate_left; (obtain ⟨s0,s1,s2,s3⟩:=hS'; go_simp; first | done | with_reducible rfl); simp only [Act.put,zA,zB,zC])
    | (refine Z2 (by rfl) ?_; simp only [Act.put,zA,zB,zC])
  refine Z4 ?_;have q0':w2.drew.cell? ⟨w.heap.size,0,none⟩=some (.bool st):=q0;have q1':w2.drew.cell? ⟨w.heap.size,1,none⟩=some (.bool ins):=q1;have q3':w2.drew.cell? ⟨w.heap.size + 1,0,none⟩=some (.pointer (some ⟨a.b,0,none⟩)):=q3;have HTD:Hid (TreeAt w2.drew B a):=lh (HT2.out.keep fun k _ _=>rfl);have HBD:=lh HBW.out.drew;clear q0 q1 q3 s0 s1 x0 x1;go_wp2_with fail
  refine (HKI.out w2.drew HTD.out).mono ?_;rintro e w9 ⟨rfl,hb9⟩;have HB9:=lh ((HBD.out).trans (hb9.mono (HBD.out).size));clear hb9;go_wp2;go_ret;exact ⟨by rw [HCODE.out]; rfl,HB9.out⟩
theorem Zbd {B m:Nat} (hK:Z8b B m) (a:ATree) (w:World) (st ins:Bool) (h:EIn B m a w) {x:ATree} {r:List ATree} (h1:a.kind=34) (hk:a.kids=x :: r):Z5m B a w st ins:=by
 have hdef:Z0p a st ins=if st && x.kind == 23 then 1 else Z1c a.kids st ins:=by
  obtain ⟨b,v,k,t,n,ks⟩:=a;simp only [ATree.kind,ATree.kids] at h1 hk;subst h1;subst hk;rw [Z0p.eq_def];rfl
 unfold Z5m;have hmf:∀ (fn:Fn) (first cap:Array Value) (w:World),(Instr.makeFunc fn first cap).run Tryz.prog w=.ok (.func fn first cap) w:=fun _ _ _ _=>rfl;have HKI:=lh (fun W (t:TreeAt W B a)=>hK a W st ins h.m (fun k hk=>h.wa.kid hk) h.mx t);obtain ⟨code,hcode⟩:=zX (Z0p a st ins)
 rw [← hcode];rw [hdef] at hcode;have HCODE:=lh hcode;have hall:=Z4d w B a st ins h.t;rw [h1] at hall;clear h1;obtain ⟨g,cp,hge,hmx,hfi⟩:=h.first hk;have HFI:=lh hfi;obtain ⟨q,hq⟩:=zX r.length
 rw [← hq] at hge HFI hfi;have HQ:=lh hq;have hqi:q + 1≤9223372036854775807:=by omega
 obtain ⟨tx,htx⟩:=zX a.text
 rw [← htx] at hall;try rw [← htx] at HCODE
 have HTX:=lh htx;unfold EW at hall;obtain ⟨b0',b1',b3',c0',c1',hba,_⟩:=hall _ (Y8 _ _);obtain ⟨k3',k0',hTx,_⟩:=hfi _ hba;have x0':=hTx.c0;obtain ⟨kx,hkx⟩:=zX x.kind
 rw [← hkx] at x0' HCODE;clear hkx hTx;obtain ⟨w2,hw2⟩:=zX (((w.alloc (.cells #[.bool st,.bool ins] 43)).alloc (.cells #[.pointer (some ⟨a.b,0,none⟩)] 22)))
 rw [← hw2] at hall;obtain ⟨q0,q1,q3,s0,s1,hbw,hT2⟩:=hall w2 (Y8 _ _);have HALL:=lh hall;have HW2:=lh hw2;have HBW:=lh hbw;have HT2:=lh hT2;clear hK h hdef hcode htx hba hw2 hall hbw hT2 hk hq hfi;unfold ATree.ptr at HKI ⊢;have hn0:0 < q + 1:=by omega
 have hn1:(0:Int) < ((q + 1:Nat):Int):=by omega
 by_cases h23:kx=23
 ·subst h23;cases st
  ·go_enter Tryz.func44, Tryz.ntmps44
   go_wp2_with fail
   rw [← HW2.out];clear c0' c1' b0' b1' b3' k3' k0' x0';refine (HKI.out w2 HT2.out).mono ?_;rintro e w9 ⟨rfl,hb9⟩;have HB9:=lh ((HBW.out).trans (hb9.mono (HBW.out).size));clear hb9;go_wp2;go_ret;exact ⟨by rw [HCODE.out]; rfl,HB9.out⟩
  ·go_enter Tryz.func44, Tryz.ntmps44
   go_wp2;go_ret;refine ⟨by rw [HCODE.out]; rfl,?_⟩;rw [← HW2.out];exact HBW.out
 ·have n23 : (kx == 23) = false := by simpa using h23
  rw [n23,Bool.and_false] at HCODE;clear h23;cases st
  all_goals
   go_enter Tryz.func44,Tryz.ntmps44
   go_wp2_with fail
   rw [← HW2.out];clear c0' c1' b0' b1' b3' k3' k0' x0';refine (HKI.out w2 HT2.out).mono ?_;rintro e w9 ⟨rfl,hb9⟩;have HB9:=lh ((HBW.out).trans (hb9.mono (HBW.out).size));clear hb9;go_wp2;go_ret;exact ⟨by rw [HCODE.out]; rfl,HB9.out⟩
theorem Zdd {B m:Nat} (hK:Z8b B m) (a:ATree) (w:World) (st ins:Bool) (h:EIn B m a w) (h1:a.kind=6):Z5m B a w st ins:=by
 have hdef:Z0p a st ins=if Z2n a false then 9 else Z1c a.kids st ins:=by
  obtain ⟨b,v,k,t,n,ks⟩:=a;simp only [ATree.kind] at h1;subst h1;rw [Z0p.eq_def];rfl
 unfold Z5m;have hmf:∀ (fn:Fn) (first cap:Array Value) (w:World),(Instr.makeFunc fn first cap).run Tryz.prog w=.ok (.func fn first cap) w:=fun _ _ _ _=>rfl;have HKI:=lh (fun W (t:TreeAt W B a)=>hK a W st ins h.m (fun k hk=>h.wa.kid hk) h.mx t);obtain ⟨code,hcode⟩:=zX (Z0p a st ins)
 rw [← hcode];rw [hdef] at hcode;have HCODE:=lh hcode;have hall:=Z4d w B a st ins h.t;rw [h1] at hall;clear h1;have HSC:=lh (fun W (t:TreeAt W B a)=>Z9s W B a st ins false t h.mx);obtain ⟨tx,htx⟩:=zX a.text
 rw [← htx] at hall;try rw [← htx] at HCODE
 have HTX:=lh htx;unfold EW at hall;obtain ⟨b0',b1',b3',c0',c1',hba,_⟩:=hall _ (Y8 _ _);obtain ⟨w2,hw2⟩:=zX (((w.alloc (.cells #[.bool st,.bool ins] 43)).alloc (.cells #[.pointer (some ⟨a.b,0,none⟩)] 22)))
 rw [← hw2] at hall;obtain ⟨q0,q1,q3,s0,s1,hbw,hT2⟩:=hall w2 (Y8 _ _);have HALL:=lh hall;have HW2:=lh hw2;have HBW:=lh hbw;have HT2:=lh hT2;clear hK h hdef hcode htx hba hw2 hall hbw hT2;unfold ATree.ptr at HKI ⊢;obtain ⟨SB,hSB⟩:=zX (Z2n a false)
 rw [← hSB] at HSC HCODE;clear hSB;unfold ATree.ptr at HSC;go_enter Tryz.func44,Tryz.ntmps44
 go_wp2_with fail
 rw [← HW2.out];clear c0' c1' b0' b1' b3';refine (HSC.out w2 HT2.out).mono ?_;rintro e w3 ⟨rfl,hb4⟩;have hb3:=hb4;obtain ⟨r0,r1,r3,u0,u1,hb5,hT3⟩:=HALL.out w3 hb4;have HB4:=lh hb4;have HB5:=lh hb5;have HT3:=lh hT3;clear hb3 hb4 hb5 hT3 q0 q1 q3 s0 s1;cases SB;rotate_left
 ·simp only [if_true];go_wp2;go_ret;exact ⟨by rw [HCODE.out]; rfl,HB5.out⟩
 simp only [Bool.false_eq_true,if_false];go_wp2_with fail
 refine (HKI.out w3 HT3.out).mono ?_;rintro e w9 ⟨rfl,hb9⟩;have HB9:=lh ((HB5.out).trans (hb9.mono (HB5.out).size));clear hb9;go_wp2;go_ret;exact ⟨by rw [HCODE.out]; rfl,HB9.out⟩
theorem Zc2 {B m:Nat} (hK:Z8b B m) (a:ATree) (w:World) (st ins:Bool) (h:EIn B m a w) (h1:a.kind=10):Z5m B a w st ins:=by
 have hdef:Z0p a st ins=if ins then Z1c a.kids st ins else 6:=by
  obtain ⟨b,v,k,t,n,ks⟩:=a;simp only [ATree.kind] at h1;subst h1;rw [Z0p.eq_def];rfl
 unfold Z5m;have hmf:∀ (fn:Fn) (first cap:Array Value) (w:World),(Instr.makeFunc fn first cap).run Tryz.prog w=.ok (.func fn first cap) w:=fun _ _ _ _=>rfl;have HKI:=lh (fun W (t:TreeAt W B a)=>hK a W st ins h.m (fun k hk=>h.wa.kid hk) h.mx t);obtain ⟨code,hcode⟩:=zX (Z0p a st ins)
 rw [← hcode];rw [hdef] at hcode;have HCODE:=lh hcode;have hall:=Z4d w B a st ins h.t;rw [h1] at hall;clear h1;obtain ⟨tx,htx⟩:=zX a.text
 rw [← htx] at hall;try rw [← htx] at HCODE
 have HTX:=lh htx;unfold EW at hall;obtain ⟨b0',b1',b3',c0',c1',hba,_⟩:=hall _ (Y8 _ _);obtain ⟨w2,hw2⟩:=zX (((w.alloc (.cells #[.bool st,.bool ins] 43)).alloc (.cells #[.pointer (some ⟨a.b,0,none⟩)] 22)))
 rw [← hw2] at hall;obtain ⟨q0,q1,q3,s0,s1,hbw,hT2⟩:=hall w2 (Y8 _ _);have HALL:=lh hall;have HW2:=lh hw2;have HBW:=lh hbw;have HT2:=lh hT2;clear hK h hdef hcode htx hba hw2 hall hbw hT2;unfold ATree.ptr at HKI ⊢;cases ins
 ·go_enter Tryz.func44, Tryz.ntmps44
  go_wp2;go_ret;refine ⟨by rw [HCODE.out]; rfl,?_⟩;rw [← HW2.out];exact HBW.out
 ·go_enter Tryz.func44, Tryz.ntmps44
  go_wp2_with fail
  rw [← HW2.out];clear c0' c1' b0' b1' b3';refine (HKI.out w2 HT2.out).mono ?_;rintro e w9 ⟨rfl,hb9⟩;have HB9:=lh ((HBW.out).trans (hb9.mono (HBW.out).size));clear hb9;go_wp2;go_ret;exact ⟨by rw [HCODE.out]; rfl,HB9.out⟩
theorem Zdr {B m:Nat} (hK:Z8b B m) (a:ATree) (w:World) (st ins:Bool) (h:EIn B m a w) (h2:a.kind≠2) (h3:a.kind≠3) (h4:a.kind≠4) (h13:a.kind≠13) (h5:a.kind≠5) (h37:a.kind≠37) (h6:a.kind≠6) (h7:a.kind≠7) (h8:a.kind≠8) (h9:a.kind≠9) (h10:a.kind≠10) (h24:a.kind≠24) (h34:a.kind≠34):Z5m B a w st ins:=by
 have hdef:Z0p a st ins=Z1c a.kids st ins:=by
  obtain ⟨b,v,k,t,n,ks⟩:=a;simp only [ATree.kind] at h2 h3 h4 h13 h5 h37 h6 h7 h8 h9 h10 h24 h34;rw [Z0p.eq_def];simp only [h2,h3,h4,h13,h5,h37,h6,h7,h8,h9,h10,h24,h34,or_self,if_false,ATree.kids]
 unfold Z5m;have hmf:∀ (fn:Fn) (first cap:Array Value) (w:World),(Instr.makeFunc fn first cap).run Tryz.prog w=.ok (.func fn first cap) w:=fun _ _ _ _=>rfl;have HKI:=lh (fun W (t:TreeAt W B a)=>hK a W st ins h.m (fun k hk=>h.wa.kid hk) h.mx t);obtain ⟨code,hcode⟩:=zX (Z0p a st ins)
 rw [← hcode];rw [hdef] at hcode;have HCODE:=lh hcode;have hall:=Z4d w B a st ins h.t;obtain ⟨kd,hkd⟩:=zX a.kind
 rw [← hkd] at hall h2 h3 h4 h13 h5 h37 h6 h7 h8 h9 h10 h24 h34;obtain ⟨tx,htx⟩:=zX a.text
 rw [← htx] at hall;try rw [← htx] at HCODE
 have HTX:=lh htx;unfold EW at hall;obtain ⟨b0',b1',b3',c0',c1',hba,_⟩:=hall _ (Y8 _ _);obtain ⟨w2,hw2⟩:=zX (((w.alloc (.cells #[.bool st,.bool ins] 43)).alloc (.cells #[.pointer (some ⟨a.b,0,none⟩)] 22)))
 rw [← hw2] at hall;obtain ⟨q0,q1,q3,s0,s1,hbw,hT2⟩:=hall w2 (Y8 _ _);have HALL:=lh hall;have HW2:=lh hw2;have HBW:=lh hbw;have HT2:=lh hT2;clear hK h hdef hcode htx hba hw2 hall hbw hT2;unfold ATree.ptr at HKI ⊢;have n2:(kd == 2)=false:=by simpa using h2
 have n3:(kd == 3)=false:=by simpa using h3
 have n4:(kd == 4)=false:=by simpa using h4
 have n13:(kd == 13)=false:=by simpa using h13
 have n5:(kd == 5)=false:=by simpa using h5
 have n37:(kd == 37)=false:=by simpa using h37
 have n6:(kd == 6)=false:=by simpa using h6
 have n7:(kd == 7)=false:=by simpa using h7
 have n8:(kd == 8)=false:=by simpa using h8
 have n9:(kd == 9)=false:=by simpa using h9
 have n10:(kd == 10)=false:=by simpa using h10
 have n24:(kd == 24)=false:=by simpa using h24
 have n34:(kd == 34)=false:=by simpa using h34
 clear hkd h2 h3 h4 h13 h5 h37 h6 h7 h8 h9 h10 h24 h34;go_enter Tryz.func44,Tryz.ntmps44
 go_wp2_with fail
 rw [← HW2.out];clear c0' c1' b0' b1' b3';refine (HKI.out w2 HT2.out).mono ?_;rintro e w9 ⟨rfl,hb9⟩;have HB9:=lh ((HBW.out).trans (hb9.mono (HBW.out).size));clear hb9;go_wp2;go_ret;exact ⟨by rw [HCODE.out]; rfl,HB9.out⟩
end Go.Proofs.YtajomcjaljakhaaGreatDoor
namespace Go.Proofs.YtajomcjaljakhaaGreatDoor
open Go Go.RowKit Go.Maps
set_option maxRecDepth 100000
set_option maxHeartbeats 20000000
set_option linter.unusedVariables false
theorem Zjt (w:World) (s:ByteArray) (hlen:s.size≤maxLen) (c0:Int) (hc:(litD Zk7).atKey (.string s.data.toList) (.lit (.int .i64 0))=.lit (.int .i64 c0)) :
 Calls Tryz.prog 141 #[.string s] w fun e w'=>e=.returned (.int .i64 c0)∧Below w.heap.size w w':=by
 have hmm:=@run_makeMap Tryz.prog;have h0:=World.ownsMap_made (H:=Unit) w Tryz.prog 9 (plainElem Tryz.prog 3);have hB0:Below w.heap.size w (w.alloc (.map #[] 0)):=(Y8 _ _).alloc (Y5 _) _;have HL:=lh hlen;have HC:=lh hc;clear hlen hc;go_enter Tryz.func141,Tryz.ntmps141
 go_wp2_with (first | (refine Z7 _ rfl _ _ _ 86 rfl 9 3 Tryz.keyedS Tryz.underlying86 _ _ 0 _ rfl h0 (by unfold maxLen; omega) _ _ _ rfl rfl (Yw Yr (by decide)) _ [] (plainElem_int Ys (by decide)) ?_; intro w1 h1 g1) | (refine Z7 _ rfl _ _ _ 86 rfl 9 3 Tryz.keyedS Tryz.underlying86 _ _ 1 _ rfl h1 (by unfold maxLen; omega) _ _ _ rfl rfl (Yw Yr (by decide)) _ [] (plainElem_int Ys (by decide)) ?_; intro w2 h2 g2) | (refine Z7 _ rfl _ _ _ 86 rfl 9 3 Tryz.keyedS Tryz.underlying86 _ _ 2 _ rfl h2 (by unfold maxLen; omega) _ _ _ rfl rfl (Yw Yr (by decide)) _ [] (plainElem_int Ys (by decide)) ?_; intro w3 h3 g3) | (refine Z7 _ rfl _ _ _ 86 rfl 9 3 Tryz.keyedS Tryz.underlying86 _ _ 3 _ rfl h3 (by unfold maxLen; omega) _ _ _ rfl rfl (Yw Yr (by decide)) _ [] (plainElem_int Ys (by decide)) ?_; intro w4 h4 g4) | (refine Z7 _ rfl _ _ _ 86 rfl 9 3 Tryz.keyedS Tryz.underlying86 _ _ 4 _ rfl h4 (by unfold maxLen; omega) _ _ _ rfl rfl (Yw Yr (by decide)) _ [] (plainElem_int Ys (by decide)) ?_; intro w5 h5 g5) | (refine Z7 _ rfl _ _ _ 86 rfl 9 3 Tryz.keyedS Tryz.underlying86 _ _ 5 _ rfl h5 (by unfold maxLen; omega) _ _ _ rfl rfl (Yw Yr (by decide)) _ [] (plainElem_int Ys (by decide)) ?_; intro w6 h6 g6) | (refine Z7 _ rfl _ _ _ 86 rfl 9 3 Tryz.keyedS Tryz.underlying86 _ _ 6 _ rfl h6 (by unfold maxLen; omega) _ _ _ rfl rfl (Yw Yr (by decide)) _ [] (plainElem_int Ys (by decide)) ?_; intro w7 h7 g7) | (at_lookup; refine wpList_lookup_own_int _ rfl _ _ 86 rfl 9 3 .i64 Tryz.keyedS Tryz.underlying86 Ys (Tryz.zeroI _) _ 7 _ rfl h7 _ _ rfl (Yw Yr HL.out) ?_; intro c hat hwc))
 go_ret;have e:=HC.out.symm.trans hat;obtain rfl:c0=c:=by
  have:(DataW.lit (.int .i64 c0):DataW Unit)=.lit (.int .i64 c):=e;simpa using this
 have s0:w.heap.size≤(w.alloc (.map #[] 0)).heap.size:=hB0.size;have B1:=Zo hB0 g1 (Y5 _) s0;have B2:=Zo B1 g2 (Y5 _) B1.size;have B3:=Zo B2 g3 (Y5 _) B2.size;have B4:=Zo B3 g4 (Y5 _) B3.size;have B5:=Zo B4 g5 (Y5 _) B4.size;have B6:=Zo B5 g6 (Y5 _) B5.size;exact ⟨rfl,Zo B6 g7 (Y5 _) B6.size⟩
theorem Zkn (w:World) (s:ByteArray) (hs:Z30 s≠0):Calls Tryz.prog 141 #[.string s] w fun e w'=>e=.returned (.int .i64 (Z30 s))∧Below w.heap.size w w':=by
 have key:s=s_or∨s=Z6d∨s=Z4a∨s=Z46∨s=Z4r∨s=Z56∨s=Z6e:=by
  unfold Z30 Zp at hs;simp only [decide_eq_true_eq] at hs;by_cases h1:s=s_or;·exact .inl h1
  by_cases h2:s=Z6d;·exact .inr (.inl h2)
  by_cases h3:s=Z4a;·exact .inr (.inr (.inl h3))
  by_cases h4:s=Z46;·exact .inr (.inr (.inr (.inl h4)))
  by_cases h5:s=Z4r;·exact .inr (.inr (.inr (.inr (.inl h5))))
  by_cases h6:s=Z56;·exact .inr (.inr (.inr (.inr (.inr (.inl h6)))))
  by_cases h7:s=Z6e;·exact .inr (.inr (.inr (.inr (.inr (.inr h7)))))
  simp [h1,h2,h3,h4,h5,h6,h7] at hs
 rcases key with rfl | rfl | rfl | rfl | rfl | rfl | rfl;all_goals exact Zjt w _ (by decide) _ (by kernel_rfl)
end Go.Proofs.YtajomcjaljakhaaGreatDoor
namespace Go.Proofs.YtajomcjaljakhaaGreatDoor
open Go Go.RowKit
set_option maxRecDepth 100000
set_option maxHeartbeats 20000000
set_option linter.unusedVariables false
def bArg (lv:Nat) (rb:Nat):Array Value:=#[.pointer (some ⟨rb,0,none⟩),.int .i64 lv]
theorem Zes {lv:Nat} {ts:List Tok} (h:∀ (i:Nat) (x:ByteArray),(levL lv)[i]?=some x→isT x ts=false):Z1j lv ts=0:=by
 match lv with
 | 0=>have h0:=h 0 s_or rfl; simp [Z1j,h0]
 | 1=>have h0:=h 0 Z6d rfl; simp [Z1j,h0]
 | 2=>have h0:=h 0 Z4a rfl; simp [Z1j,h0]
 | 3=>have h0:=h 0 Z46 rfl; simp [Z1j,h0]
 | 4=>have h0:=h 0 Z4r rfl; have h1:=h 1 Z56 rfl; simp [Z1j,h0,h1]
 | 5=>have h0:=h 0 Z6e rfl; simp [Z1j,h0]
 | n + 6=>rfl
theorem Zg0 {lv:Nat} {ts:List Tok} {k:Nat} {x:ByteArray} (hk:(levL lv)[k]?=some x) (hx:isT x ts=true) (h:∀ (i:Nat) (y:ByteArray),i < k→(levL lv)[i]?=some y→isT y ts=false):Z1j lv ts=Z30 x∧Z30 x≠0:=by
 match lv with
 | 0 =>
   match k with
   | 0 => obtain rfl : s_or = x := by simpa [levL] using hk
          exact ⟨by simp [Z1j,hx]; decide,by decide⟩
   | k + 1=>simp [levL] at hk
 | 1 =>
   match k with
   | 0 => obtain rfl : Z6d = x := by simpa [levL] using hk
          exact ⟨by simp [Z1j,hx]; decide,by decide⟩
   | k + 1=>simp [levL] at hk
 | 2 =>
   match k with
   | 0 => obtain rfl : Z4a = x := by simpa [levL] using hk
          exact ⟨by simp [Z1j,hx]; decide,by decide⟩
   | k + 1=>simp [levL] at hk
 | 3 =>
   match k with
   | 0 => obtain rfl : Z46 = x := by simpa [levL] using hk
          exact ⟨by simp [Z1j,hx]; decide,by decide⟩
   | k + 1=>simp [levL] at hk
 | 4 =>
   match k with
   | 0 => obtain rfl : Z4r = x := by simpa [levL] using hk
          exact ⟨by simp [Z1j,hx]; decide,by decide⟩
   | 1 => obtain rfl : Z56 = x := by simpa [levL] using hk
          have h0:=h 0 Z4r (by omega) rfl;exact ⟨by simp [Z1j,hx,h0]; decide,by decide⟩
   | k + 2=>simp [levL] at hk
 | 5 =>
   match k with
   | 0 => obtain rfl : Z6e = x := by simpa [levL] using hk
          exact ⟨by simp [Z1j,hx]; decide,by decide⟩
   | k + 1=>simp [levL] at hk
 | n + 6=>simp [levL] at hk
theorem Zi2 (f:Nat) (hU:Says 140 rArg .unary f):Says 132 (bArg 6) (.bin 6) (f + 1):=by
 intro w rb B d ts r hP hp;have hw:Z3 f .unary d ts=some r:=hp;have HC:=lh (hU w rb B d ts r hP hw);clear hP hp hw hU;unfold rArg at HC;unfold bArg;go_enter Tryz.func132,Tryz.ntmps132
 go_wp2;go_step3
 go_wp2_with fail
 refine HC.out.mono ?_;rcases r with ⟨c,p⟩ | ⟨t,ts'⟩
 ·rintro e w2 ⟨⟨b,rfl,h1,h2⟩,hF⟩;exact ⟨rfl,⟨b,rfl,h1,h2⟩,hF⟩
 ·rintro e w2 ⟨a, rfl, hG, hR, hF⟩;have HG := lh hG;have HR := lh hR;have HF := lh hF;clear hG hR hF HC;go_wp2;try rw [Exit.noGoto_ret]
  go_ret;exact ⟨a,rfl,HG.out,HR.out,HF.out⟩
theorem Zau {P:Program} {a:Act} {w:World} {Q:Exit→Act→World→Prop} {c rest:Code} (l:Nat) (J:Act→World→Prop) (μ:Act→World→Nat) (hf:findLabel c l=some (Code.skip.seq rest))
 (first:(∀ a w,J a w→rest.wp P (Exit.jump l J Q) a w)→c.wp P (Exit.jump l J Q) a w)
 (pass:∀ a w,J a w→rest.wp P (Exit.jump l (fun a' w'=>J a' w'∧μ a' w' < μ a w) Q) a w):(Code.scope c).wp P Q a w:=
 wp_scope_jumps l J μ hf (first fun a w h=>Code.wp_mono (fun e a' w' hq=>by cases e <;> first | exact hq | exact ⟨hq.1,hq.2.1⟩) (pass a w h)) fun a w h=>wp_seq (wp_skip (pass a w h))
def BinJ (f lv d:Nat) (w:World) (rb B:Nat) (r:Except (Int×Nat) (Tree×List Tok)) (n:Nat) (a:ATree) (w':World):Prop:=
 ∃ (g:Nat) (us:List Tok) (t:Tree),g≤f∧Z3 g (.binLoop lv t) d us=some r∧Got w B w' a t∧Pre w' rb B d us∧RFr w w' rb∧us.length≤n
theorem Zit (f lv:Nat) (hlv:lv < 6) (hB:∀ g,g≤f→Says 132 (bArg (lv + 1)) (.bin (lv + 1)) g):Says 132 (bArg lv) (.bin lv) (f + 1):=by
 intro w rb B d ts r hP hp;have hw:Zw (Z3 f (.bin (lv + 1)) d ts) (fun x ts=>Z3 f (.binLoop lv x) d ts)=some r:=by rw [← hp,Z3,Y9 (by omega)]
 have HP:=lh hP;have HB:=lh hB;have H1:=lh hw;have l6:((lv:Int) == 6)=false:=by simp; omega
 have l0:0≤(lv:Int):=by omega
 have l1:(lv:Int) < 6:=by omega
 have lw:((lv + 1:Nat):Int)=(lv:Int) + 1:=by omega
 clear hP hp hw hB;unfold bArg;go_enter Tryz.func132,Tryz.ntmps132
 go_wp2;refine Zau 0 (fun a' w'=>∃ (a:ATree) (u2 u3 u6 u7 u8 u9 u10 u11 u12 u13 u14 u15 u16 u17 u18 u19 u20 u21 u22 u23 u24 u25 u26 u27 u28 u29 u30 u31 u32 u33 u34 u35 u36 u37 u38:Value),a'={ tmps:=#[.pointer (some ⟨rb,0,none⟩),.int .i64 lv,u2,u3,.pointer none,.pointer (some ⟨a.b,0,none⟩),u6,u7,u8,u9,u10,u11,u12,u13,u14,u15,u16,u17,u18,u19,u20,u21,u22,u23,u24,u25,u26,u27,u28,u29,u30,u31,u32,u33,u34,u35,u36,u37,u38],defers:=[] }∧BinJ f lv d w rb B r ts.length a w') (fun _ w'=>leftOf w' rb) rfl (fun PASS=>?_) ?_
 ·have PASS := lh PASS;rcases Zr H1.out with ⟨⟨c, p⟩, hv, rfl⟩ | ⟨t, us, hv, h2⟩
  ·have HV := (HB.out f (Y5 _)) w rb B d _ _ HP.out hv;unfold bArg at HV;rw [lw] at HV;have HV := lh HV;clear hv lw;go_wp2_with fail
   refine HV.out.mono ?_;rintro e w2 ⟨⟨b,rfl,h1,h2⟩,hF⟩;exact ⟨rfl,⟨b,rfl,h1,h2⟩,hF⟩
  ·have HV := (HB.out f (Y5 _)) w rb B d _ _ HP.out hv;unfold bArg at HV;rw [lw] at HV;have HV := lh HV;have hl := Z0u hv;have H2 := lh h2;clear hv h2 lw;go_wp2_with fail
   refine HV.out.mono ?_;rintro e w2 ⟨a,rfl,hG,hR2,hF2⟩;have hJ:BinJ f lv d w rb B r ts.length a w2:=⟨f,us,t,Y5 _,H2.out,hG,HP.out.next hR2 hF2 hl,hF2,hl⟩
   have HJ:=lh hJ;clear hG hR2 hF2 hl hJ;go_wp2_with fail
   go_step3
   rename_i Q1 K1 hK1;refine hK1 _ _ (PASS.out _ _ ?_);exact ⟨a,_,_,_,_,_,_,_,_,_,_,_,_,_,_,_,_,_,_,_,_,_,_,_,_,_,_,_,_,_,_,_,_,_,_,_,rfl,HJ.out⟩
 ·rintro a' w1 ⟨a, u2, u3, u6, u7, u8, u9, u10, u11, u12, u13, u14, u15, u16, u17, u18, u19, u20, u21, u22, u23, u24, u25, u26, u27, u28, u29, u30, u31, u32, u33, u34, u35, u36, u37, u38, rfl, g, us, t, hg, hq, hG, hP1, hF, hl⟩;have G1 := lh hG;have P1 := lh hP1;have F1 := lh hF;have RL := lh hP1.rd.left;have HL := lh hl;have HQ := lh hq;obtain ⟨tb, off, cap, hR⟩ := hP1.rd;obtain ⟨sb, so, sc, hgl, hsl, hc0, hsc, hcs⟩ := hR.lev lv hlv;have HCS := lh hcs;obtain ⟨n, hn⟩ := zX ((levL lv).length)
  have n2:n≤2:=by rw [hn]; match lv,hlv with | 0,_=>decide | 1,_=>decide | 2,_=>decide | 3,_=>decide | 4,_=>decide | 5,_=>decide
  rw [← hn] at hc0 hsc;have HN:=lh hn;have hsz:sb < w1.heap.size:=Nat.lt_trans hsl hR.rlt;obtain ⟨ab,hab⟩:=zX a.b
  rw [← hab];have HAB:=lh hab;clear hG hP1 hF hl hR hcs hn hq hab lw;go_wp2_with fail
  go_loopw [5,20] (fun v5 i wr=>v5=.pointer (some ⟨ab,0,none⟩)∧∃ k:Nat,k≤n∧i=.int .i64 k∧Hid (∀ (j:Nat) (y:ByteArray),j < k→(levL lv)[j]?=some y→isT y us=false)∧Hid (Below w1.heap.size w1 wr)) (fun _ i _=>n - (intOf i).toNat)
  case atStart=>exact ⟨rfl,0,Yp _,rfl,lh (fun j y hj=>by omega),lh (Y8 _ _)⟩
  case round=>
   obtain ⟨rfl,k,hk,rfl,NO,BW⟩:=hrel;by_cases hkn:k < n
   ·obtain ⟨x, hx⟩ : ∃ x, (levL lv)[k]? = some x := ⟨_, Yd (by rw [← HN.out]; exact hkn)⟩
    have cx:=(BW.out.cell (p:=⟨sb,so + k,none⟩) hsz).trans (HCS.out k x hx);have HX:=lh hx;have R2:=P1.out.rd.below BW.out;clear hx;by_cases hs:isT x us=true
    ·have hlt := Zg0 HX.out hs (fun j y hj hy => NO.out j y hj hy);have HT := lh (Z0t wr rb us d x R2 hs);have HS := lh hs;have LT := lh hlt;have hpos := Z00 hs;have HPOS := lh hpos;clear hs R2 hlt hpos;cases g with
     | zero=>cases HQ.out
     | succ g=>
     have hq:Zw (Z3 g (.bin (lv + 1)) d us.tail) (fun y ts'=>Z3 g (.binLoop lv (.mk (Z1j lv us) ByteArray.empty 0 [t,y])) d ts')=some r:=by
      have hq:=HQ.out;rw [Z3,Y9 (by rw [LT.out.1]; exact LT.out.2)] at hq;exact hq
     rw [LT.out.1] at hq;have HQ2:=lh hq;clear hq;go_wp2_with fail
     refine HT.out.mono ?_;rintro e w2 ⟨rfl,hR2,hF2⟩;have P2:=lh ((P1.out.below BW.out).tail hR2 hF2);have F12:=lh ((RFr.below (rb:=rb) BW.out).trans hF2);have HSG:=lh (Zkn w2 x LT.out.2);obtain ⟨sk,hsk⟩:=zX (Z30 x)
     rw [← hsk] at HSG;have HSK:=lh hsk;clear hR2 hF2 HT hsk;go_wp2_with fail
     refine HSG.out.mono ?_;rintro e w3 ⟨rfl,hB3⟩;have P3:=lh (P2.out.below hB3);have F13:=lh (F12.out.trans (RFr.below (rb:=rb) hB3));have lw:((lv + 1:Nat):Int)=(lv:Int) + 1:=by omega
     clear hB3 HSG;rcases Zr HQ2.out with ⟨⟨c,p⟩,hv,rfl⟩ | ⟨y,vs,hv,h4⟩
     ·have HV := (HB.out g (by omega)) w3 rb B d _ _ P3.out hv;unfold bArg at HV;rw [lw] at HV;have HV := lh HV;clear hv lw;go_wp2_with fail
      refine HV.out.mono ?_;rintro e w4 ⟨⟨b,rfl,h1,h2⟩,hF⟩;exact ⟨rfl,Z06.pre (F1.out.trans F13.out) (r:=.error (c,p)) ⟨⟨b,rfl,h1,h2⟩,hF⟩⟩
     ·have HV := (HB.out g (by omega)) w3 rb B d _ _ P3.out hv;unfold bArg at HV;rw [lw] at HV;have HV := lh HV;have hll := Z0u hv;have H4 := lh h4;clear hv lw h4;go_wp2_with fail
      refine HV.out.mono ?_;rintro e w4 ⟨c,rfl,hC,hR4,hF4⟩;have hG13:=G1.out.rfr P1.out.lt F13.out;have hG4:=hG13.rfr P1.out.lt hF4;have F4:=(F1.out.trans F13.out).trans hF4;have hfin:=Got.two (k:=sk) (t:=⟨#[]⟩) HP.out.le F4 hG4 (wA:=w3) (fun x hx=>(hG13.new x hx).2) (F1.out.trans F13.out).size hC;have hb1:Below w4.heap.size w4 (w4.alloc (.cells #[.pointer (some ⟨ab,0,none⟩),.pointer (some ⟨c.b,0,none⟩)] 22)):=(Y8 _ _).alloc (Y5 _) _
      have hb2:Below w4.heap.size w4 ((w4.alloc (.cells #[.pointer (some ⟨ab,0,none⟩),.pointer (some ⟨c.b,0,none⟩)] 22)).alloc (.cells #[.int .i64 sk,.string ⟨#[]⟩,.int .i64 0,.slice (some ⟨w4.heap.size,0,none⟩) 2 2] 50)):=hb1.alloc (by simp) _;have F6:=lh (F4.trans (RFr.below (rb:=rb) hb2));have P6:=lh (((P3.out.next hR4 hF4 hll).below hb2));have FIN:=lh hfin;have HLL:=lh hll;clear hC hR4 hF4 hG4 hG13 F4 HV hb1 hb2 hfin hll;go_wp2_with fail
      refine (Z0e _ rb sk ⟨#[]⟩ _ 2 2).mono ?_;rintro e w7 ⟨rfl,rfl⟩;go_wp2;go_step3
      refine ⟨rfl,⟨.mk (w4.heap.size + 1) (.slice (some ⟨w4.heap.size,0,none⟩) 2 2) sk ⟨#[]⟩ 0 [a,c],_,_,_,_,_,_,_,_,_,_,_,_,_,_,_,_,_,_,_,_,_,_,_,_,_,_,_,_,_,_,_,_,_,_,_,rfl,g,vs,.mk sk ByteArray.empty 0 [t,y],by omega,?_,?_,P6.out,F6.out,?_⟩,?_⟩;·rw [HSK.out]; exact H4.out
      ·rw [HAB.out]; exact FIN.out
      ·have:=HLL.out; have:=HL.out; have:=Z0k us; omega
      ·rw [P6.out.rd.left,RL.out]; have:=HLL.out; have:=HPOS.out; omega
    ·have hs' : isT x us = false := by simpa using hs
     have HT:=lh (Z1o wr rb us d x R2 hs');have HS:=lh hs';clear hs hs' R2;go_wp2_with fail
     refine HT.out.mono ?_;rintro e w2 ⟨rfl,hB2⟩;have B2:=lh hB2;clear hB2;go_wp2;go_roundw
     case rel=>exact ⟨rfl,k + 1,by omega,by go_num,lh (fun j y hj hy=>by
      by_cases e:j=k;·subst e; obtain rfl:=Yk (HX.out.symm.trans hy); exact HS.out
      ·exact NO.out j y (by omega) hy),lh (BW.out.trans (B2.out.mono BW.out.size))⟩
     case measure=>simp [intOf]; omega
   ·have hkk : k = n := by omega
    have NO2:Hid (Z1j lv us=0):=lh (Zes fun i y hi=>NO.out i y (by rw [hkk,HN.out]; exact (List.getElem?_eq_some_iff.1 hi).1) hi);clear hkk;go_wp2_with fail
    simp only [Exit.jump];go_ret;cases g with
    | zero=>cases HQ.out
    | succ g =>
      have hq:=HQ.out;rw [Z3,Yb NO2.out] at hq;obtain rfl:=Yk hq;rw [HAB.out];exact ⟨a,rfl,G1.out.rfr P1.out.lt (RFr.below BW.out),P1.out.rd.below BW.out,F1.out.trans (RFr.below BW.out)⟩
end Go.Proofs.YtajomcjaljakhaaGreatDoor
