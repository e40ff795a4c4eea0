/- The document's parser: its state; ok, next, fail, skip, must, ident. -/
import Derived.Test.YtmjfllklcpjddaaGreatDoorJ08
namespace Go.Proofs.YtmjfllklcpjddaaGreatDoor
open Go Go.RowKit
set_option maxRecDepth 100000
set_option maxHeartbeats 20000000
set_option linter.unusedVariables false
structure QC where
 rb:Nat
 tb:Nat
 off:Nat
 cap:Nat
 L:List Tok
def fE:Option (Int×Nat)→Int
 | none=>0
 | some x=>x.1
def fP:Option (Int×Nat)→Int
 | none=>-1
 | some x=>x.2
structure QAt (w:World) (C:QC) (i:Nat) (f:Option (Int×Nat)):Prop where
 blk:w.heap[C.rb]?=some (.cells #[.slice (some ⟨C.tb,C.off,none⟩) C.L.length C.cap,.int .i64 i,.int .i64 (fE f),.int .i64 (fP f)] 55 (0,0))
 le:C.L.length≤C.cap
 most:C.cap≤9223372036854775807
 ord:C.tb < C.rb
 cells:∀ k t j x,C.L[k]?=some t→t.cells[j]?=some x→w.cell? ⟨C.tb,C.off + k * 4 + j,none⟩=some x
 last:∃ l e,C.L=l ++ [e]∧e.kind=6∧∀ t∈l,t.kind≠6
 lt:i < C.L.length
 few:C.L.length≤4000
 code:∀ c p,f=some (c,p)→c≠0
 pm:∀ t∈C.L,t.kind=5→t.text≠⟨#[43,45]⟩
 sm:∀ t∈C.L,t.text.size≤maxLen
def QS (w:World) (C:QC) (σ:RS):Prop:=∃ i,σ.ts=C.L.drop i∧QAt w C i σ.f
section
variable {w w':World} {C:QC} {i:Nat} {f:Option (Int×Nat)} {σ:RS}
theorem QAt.rlt (h:QAt w C i f):C.rb < w.heap.size:=(Y6.1 h.blk).1
theorem QAt.keep (h:QAt w C i f) (hk:∀ k,k≤C.rb→w'.heap[k]?=w.heap[k]?):QAt w' C i f:=
 ⟨(hk _ (Y5 _)).trans h.blk,h.le,h.most,h.ord,fun k t j x h1 h2=>(Yj (hk _ (Nat.le_of_lt h.ord))).trans (h.cells k t j x h1 h2),h.last,h.lt,h.few,h.code,h.pm,h.sm⟩
theorem QAt.below (h:QAt w C i f) (hB:Below w.heap.size w w'):QAt w' C i f:=h.keep fun k hk=>hB.block k (Nat.lt_of_le_of_lt hk h.rlt)
theorem QAt.drew (h:QAt w C i f):QAt w.drew C i f:=h.keep fun _ _=>rfl
theorem QS.below (h:QS w C σ) (hB:Below w.heap.size w w'):QS w' C σ:=by
 obtain ⟨i,e,h⟩:=h;exact ⟨i,e,h.below hB⟩
theorem QS.drew (h:QS w C σ):QS w.drew C σ:=h.below (Y8 _ _).drew
theorem QS.rlt (h:QS w C σ):C.rb < w.heap.size:=by obtain ⟨i,e,h⟩:=h; exact h.rlt
theorem QAt.c0 (h:QAt w C i f):w.cell? ⟨C.rb,0,none⟩=some (.slice (some ⟨C.tb,C.off,none⟩) C.L.length C.cap):=by simp [World.cell?,h.blk]
theorem QAt.c1 (h:QAt w C i f):w.cell? ⟨C.rb,1,none⟩=some (.int .i64 i):=by simp [World.cell?,h.blk]
theorem QAt.c2 (h:QAt w C i f):w.cell? ⟨C.rb,2,none⟩=some (.int .i64 (fE f)):=by simp [World.cell?,h.blk]
theorem QAt.c3 (h:QAt w C i f):w.cell? ⟨C.rb,3,none⟩=some (.int .i64 (fP f)):=by simp [World.cell?,h.blk]
theorem QAt.fz (h:QAt w C i f) (j:Nat):w.frozen? ⟨C.rb,j,none⟩=false:=by simp [World.frozen?,h.blk]
theorem QAt.hdEq (h:QAt w C i f):C.L[i]?=some (hdT (C.L.drop i)):=by
 have:=h.lt;rw [List.drop_eq_getElem_cons this,Yd this];rfl
theorem QAt.hd (h:QAt w C i f) {j:Nat} {x:Value} (hj:(hdT (C.L.drop i)).cells[j]?=some x):w.cell? ⟨C.tb,C.off + i * 4 + j,none⟩=some x:=h.cells i _ j x h.hdEq hj
theorem QAt.more (h:QAt w C i f) (hk:(hdT (C.L.drop i)).kind≠6):i + 1 < C.L.length:=by
 obtain ⟨l,e,h1,h2,_⟩:=h.last;have hi:=h.lt;have hh:=h.hdEq;rw [h1] at hh hi ⊢;rw [Yq,List.length_singleton] at hi ⊢;by_cases hl:i < l.length;·omega
 ·exfalso;have e1 : i = l.length := by omega
  subst e1;rw [List.getElem?_append_right (Y5 _)] at hh;simp only [Nat.sub_self,List.getElem?_cons_zero,Option.some.injEq] at hh;rw [h1,← hh] at hk;exact hk h2
theorem QAt.at (h:QAt w C i f) {j:Nat} (hj:j < C.L.length) {x:Int} (hx:x=j):QAt (w.setCell ⟨C.rb,1,none⟩ (.int .i64 x)) C j f:=by
 subst hx;have hb:=Yg w ⟨C.rb,1,none⟩ (.int .i64 (j:Int)) C.tb (by have:=h.ord; simp only; omega);exact ⟨Zm (o:=1) (.int .i64 (j:Int)) h.blk,h.le,h.most,h.ord,fun k t j' x h3 h4=>(Yj hb).trans (h.cells k t j' x h3 h4),h.last,hj,h.few,h.code,h.pm,h.sm⟩
theorem QAt.fault (h:QAt w C i f) {c:Int} {p:Nat} (hc:c≠0) {x:Int} (hx:x=p):QAt ((w.setCell ⟨C.rb,2,none⟩ (.int .i64 c)).setCell ⟨C.rb,3,none⟩ (.int .i64 x)) C i (some (c,p)):=by
 subst hx;have hb:((w.setCell ⟨C.rb,2,none⟩ (.int .i64 c)).setCell ⟨C.rb,3,none⟩ (.int .i64 (p:Int))).heap[C.tb]?=w.heap[C.tb]?:=by
  have:=h.ord;rw [Yg _ _ _ _ (by simp only; omega),Yg _ _ _ _ (by simp only; omega)]
 exact ⟨Zm (o:=3) _ (Zm (o:=2) _ h.blk),h.le,h.most,h.ord,fun k t j' x h3 h4=>(Yj hb).trans (h.cells k t j' x h3 h4),h.last,h.lt,h.few,fun c' p' e=>by
  simp only [Option.some.injEq,Prod.mk.injEq] at e;rw [← e.1]; exact hc,h.pm,h.sm⟩
theorem Zba {α:Type} (l:List α) (i:Nat):(l.drop i).tail=l.drop (i + 1):=by rw [List.tail_drop]
theorem QS.adv {w:World} (h:QAt w C i f) (hk:(hdT (C.L.drop i)).kind≠6) {x:Int} (hx:x=(i:Int) + 1):QS (w.setCell ⟨C.rb,1,none⟩ (.int .i64 x)) C (advR ⟨C.L.drop i,f⟩):=
 ⟨i + 1,Zba _ _,h.at (h.more hk) (by rw [hx]; rfl)⟩
theorem Zft (h:QAt w C i f):Calls Tryz.prog 20 #[.pointer (some ⟨C.rb,0,none⟩)] w fun e w'=>e=.returned (.bool f.isNone)∧w=w':=by
 have hc:=h.c2;have hcode:=h.code;rcases f with _ | ⟨c,p⟩
 ·simp only [fE] at hc;clear h hcode;go_enter Tryz.func20, Tryz.ntmps20
  go_wp2;go_ret;exact ⟨rfl,rfl⟩
 ·have h0 : (c == 0) = false := by simpa using hcode c p rfl
  simp only [fE] at hc;clear h hcode;go_enter Tryz.func20,Tryz.ntmps20
  go_wp2;go_ret;exact ⟨rfl,rfl⟩
theorem Z1x (h:QS w C σ):Calls Tryz.prog 20 #[.pointer (some ⟨C.rb,0,none⟩)] w fun e w'=>e=.returned (.bool σ.f.isNone)∧w=w':=by
 obtain ⟨i,_,h⟩:=h;exact Zft h
theorem Zk5 (s:ByteArray) (t:Tok):((decide (t.kind=5) || decide (t.kind=2)) && Z0n t.text s)=((t.kind == 2 || t.kind == 5) && (t.text.toList == s.toList)):=by
 rw [Z3h,Bool.or_comm]; rfl
theorem Zc (h:QS w C σ) (s:ByteArray):Calls Tryz.prog 46 #[.pointer (some ⟨C.rb,0,none⟩),.string s] w fun e w'=>e=.returned (.bool (Zd s σ))∧Below w.heap.size w w':=by
 obtain ⟨i,e,h⟩:=h;obtain ⟨ts,f⟩:=σ;simp only at e h;subst e;have HOK:=lh (fun w1 (hB:Below w.heap.size w w1)=>Zft (h.below hB));have c0:=h.c0;have c1:=h.c1;have t0:=h.hd (j:=0) rfl;have t1:=h.hd (j:=1) rfl;have t2:=h.hd (j:=2) rfl;have t3:=h.hd (j:=3) rfl;have hi:=h.lt;have hle:=h.le;have hm:=h.most;have hr:=h.rlt;have ht:C.tb < w.heap.size:=Nat.lt_trans h.ord hr;obtain ⟨n,hn⟩:=zX C.L.length
 rw [← hn] at c0 hi hle;obtain ⟨X,hX⟩:=zX (Zd s ⟨C.L.drop i,f⟩)
 rw [← hX];unfold Zd isT at hX;rw [Zk5] at hX;obtain ⟨⟨k,tx,tn,ta⟩,htok⟩:∃ t,t=hdT (C.L.drop i):=⟨_,rfl⟩
 simp only [← htok] at t0 t1 t2 t3 hX;rw [Nat.add_zero] at t0;generalize C.tb=tb at *;generalize C.off=off at *;generalize C.cap=cap at *;generalize f.isNone=b at *;have HX:=lh hX;generalize C.rb=rb at *;clear h hn htok hX;cases b with
 | false =>
   go_enter Tryz.func46,Tryz.ntmps46
   go_wp2_with fail
   refine Z1 [(true,0),(true,1),(true,2),(true,3),(true,4),(true,5),(true,6),(true,7),(true,8),(true,9),(false,10)] [11] (fun W=>W.cell? ⟨rb,0,none⟩=some (.slice (some ⟨tb,off,none⟩) n cap)∧W.cell? ⟨rb,1,none⟩=some (.int .i64 i)∧W.cell? ⟨tb,off + i * 4,none⟩=some (.int .i64 k)∧W.cell? ⟨tb,off + i * 4 + 1,none⟩=some (.string tx)∧W.cell? ⟨tb,off + i * 4 + 2,none⟩=some (.int .i64 tn)∧W.cell? ⟨tb,off + i * 4 + 3,none⟩=some (.int .i64 ta)) (by kernel_rfl) (by kernel_rfl) (fun _ _ d _ _ h=>by cases d <;> exact h) ⟨c0,c1,t0,t1,t2,t3⟩ (fun hS0=>?_)
   simp only [Zf,zD,zE,zF,zG,zH,zI]
   iterate 10
    first
     | (refine Z2 ?_ (by rfl) (fun w' hS'=>?_) ?_; rotate_left; (obtain ⟨s0,s1,s2,s3,s4,s5⟩:=hS'; go_simp; first | done | with_reducible rfl); simp only [Act.put,zA,zB,zC])
     | (refine Z3 (by rfl) ?_; simp only [Act.put,zA,zB,zC])
   refine Z5 (fun K hK=>?_);go_simp
   refine hK _ _ ⟨(Z4 hr).trans c0,(Z4 hr).trans c1,(Z4 ht).trans t0,(Z4 ht).trans t1,(Z4 ht).trans t2,(Z4 ht).trans t3⟩ ?_;clear hK K;refine Z6 ?_;go_wp2_with fail
   refine (HOK.out _ ?_).mono ?_;·repeat (first | exact Y8 _ _ | (refine Below.setCell ?_ (by simp) _) | (refine Below.alloc ?_ (by simp) _) | (refine Below.drew ?_))
   rintro e w1 ⟨rfl,rfl⟩;go_wp2;go_ret;refine ⟨Z87 (by rw [HX.out]; rfl),?_⟩;repeat (first | exact Y8 _ _ | (refine Below.setCell ?_ (by simp) _) | (refine Below.alloc ?_ (by simp) _) | (refine Below.drew ?_))
 | true =>
   by_cases k2:(k == 2)=true
   ·go_enter Tryz.func46, Tryz.ntmps46
    go_wp2_with fail
    refine Z1 [(true,0),(true,1),(true,2),(true,3),(true,4),(true,5),(true,6),(true,7),(true,8),(true,9),(false,10)] [11] (fun W=>W.cell? ⟨rb,0,none⟩=some (.slice (some ⟨tb,off,none⟩) n cap)∧W.cell? ⟨rb,1,none⟩=some (.int .i64 i)∧W.cell? ⟨tb,off + i * 4,none⟩=some (.int .i64 k)∧W.cell? ⟨tb,off + i * 4 + 1,none⟩=some (.string tx)∧W.cell? ⟨tb,off + i * 4 + 2,none⟩=some (.int .i64 tn)∧W.cell? ⟨tb,off + i * 4 + 3,none⟩=some (.int .i64 ta)) (by kernel_rfl) (by kernel_rfl) (fun _ _ d _ _ h=>by cases d <;> exact h) ⟨c0,c1,t0,t1,t2,t3⟩ (fun hS0=>?_)
    simp only [Zf,zD,zE,zF,zG,zH,zI]
    iterate 10
     first
      | (refine Z2 ?_ (by rfl) (fun w' hS'=>?_) ?_; rotate_left; (obtain ⟨s0,s1,s2,s3,s4,s5⟩:=hS'; go_simp; first | done | with_reducible rfl); simp only [Act.put,zA,zB,zC])
      | (refine Z3 (by rfl) ?_; simp only [Act.put,zA,zB,zC])
    refine Z5 (fun K hK=>?_);go_simp
    refine hK _ _ ⟨(Z4 hr).trans c0,(Z4 hr).trans c1,(Z4 ht).trans t0,(Z4 ht).trans t1,(Z4 ht).trans t2,(Z4 ht).trans t3⟩ ?_;clear hK K;refine Z6 ?_;go_wp2_with fail
    refine (HOK.out _ ?_).mono ?_;·repeat (first | exact Y8 _ _ | (refine Below.setCell ?_ (by simp) _) | (refine Below.alloc ?_ (by simp) _) | (refine Below.drew ?_))
    rintro e w1 ⟨rfl,rfl⟩;go_wp2;go_ret;refine ⟨Z87 (by rw [HX.out,k2]; rfl),?_⟩;repeat (first | exact Y8 _ _ | (refine Below.setCell ?_ (by simp) _) | (refine Below.alloc ?_ (by simp) _) | (refine Below.drew ?_))
   ·have k2' : (k == 2) = false := by simpa using k2
    by_cases k5:(k == 5)=true
    ·go_enter Tryz.func46, Tryz.ntmps46
     go_wp2_with fail
     refine Z1 [(true,0),(true,1),(true,2),(true,3),(true,4),(true,5),(true,6),(true,7),(true,8),(true,9),(false,10)] [11] (fun W=>W.cell? ⟨rb,0,none⟩=some (.slice (some ⟨tb,off,none⟩) n cap)∧W.cell? ⟨rb,1,none⟩=some (.int .i64 i)∧W.cell? ⟨tb,off + i * 4,none⟩=some (.int .i64 k)∧W.cell? ⟨tb,off + i * 4 + 1,none⟩=some (.string tx)∧W.cell? ⟨tb,off + i * 4 + 2,none⟩=some (.int .i64 tn)∧W.cell? ⟨tb,off + i * 4 + 3,none⟩=some (.int .i64 ta)) (by kernel_rfl) (by kernel_rfl) (fun _ _ d _ _ h=>by cases d <;> exact h) ⟨c0,c1,t0,t1,t2,t3⟩ (fun hS0=>?_)
     simp only [Zf,zD,zE,zF,zG,zH,zI]
     iterate 10
      first
       | (refine Z2 ?_ (by rfl) (fun w' hS'=>?_) ?_; rotate_left; (obtain ⟨s0,s1,s2,s3,s4,s5⟩:=hS'; go_simp; first | done | with_reducible rfl); simp only [Act.put,zA,zB,zC])
       | (refine Z3 (by rfl) ?_; simp only [Act.put,zA,zB,zC])
     refine Z5 (fun K hK=>?_);go_simp
     refine hK _ _ ⟨(Z4 hr).trans c0,(Z4 hr).trans c1,(Z4 ht).trans t0,(Z4 ht).trans t1,(Z4 ht).trans t2,(Z4 ht).trans t3⟩ ?_;clear hK K;refine Z6 ?_;go_wp2_with fail
     refine (HOK.out _ ?_).mono ?_;·repeat (first | exact Y8 _ _ | (refine Below.setCell ?_ (by simp) _) | (refine Below.alloc ?_ (by simp) _) | (refine Below.drew ?_))
     rintro e w1 ⟨rfl,rfl⟩;go_wp2;go_ret;refine ⟨Z87 (by rw [HX.out,k5,Bool.or_true]; rfl),?_⟩;repeat (first | exact Y8 _ _ | (refine Below.setCell ?_ (by simp) _) | (refine Below.alloc ?_ (by simp) _) | (refine Below.drew ?_))
    ·have k5' : (k == 5) = false := by simpa using k5
     go_enter Tryz.func46,Tryz.ntmps46
     go_wp2_with fail
     refine Z1 [(true,0),(true,1),(true,2),(true,3),(true,4),(true,5),(true,6),(true,7),(true,8),(true,9),(false,10)] [11] (fun W=>W.cell? ⟨rb,0,none⟩=some (.slice (some ⟨tb,off,none⟩) n cap)∧W.cell? ⟨rb,1,none⟩=some (.int .i64 i)∧W.cell? ⟨tb,off + i * 4,none⟩=some (.int .i64 k)∧W.cell? ⟨tb,off + i * 4 + 1,none⟩=some (.string tx)∧W.cell? ⟨tb,off + i * 4 + 2,none⟩=some (.int .i64 tn)∧W.cell? ⟨tb,off + i * 4 + 3,none⟩=some (.int .i64 ta)) (by kernel_rfl) (by kernel_rfl) (fun _ _ d _ _ h=>by cases d <;> exact h) ⟨c0,c1,t0,t1,t2,t3⟩ (fun hS0=>?_)
     simp only [Zf,zD,zE,zF,zG,zH,zI]
     iterate 10
      first
       | (refine Z2 ?_ (by rfl) (fun w' hS'=>?_) ?_; rotate_left; (obtain ⟨s0,s1,s2,s3,s4,s5⟩:=hS'; go_simp; first | done | with_reducible rfl); simp only [Act.put,zA,zB,zC])
       | (refine Z3 (by rfl) ?_; simp only [Act.put,zA,zB,zC])
     refine Z5 (fun K hK=>?_);go_simp
     refine hK _ _ ⟨(Z4 hr).trans c0,(Z4 hr).trans c1,(Z4 ht).trans t0,(Z4 ht).trans t1,(Z4 ht).trans t2,(Z4 ht).trans t3⟩ ?_;clear hK K;refine Z6 ?_;go_wp2_with fail
     refine (HOK.out _ ?_).mono ?_;·repeat (first | exact Y8 _ _ | (refine Below.setCell ?_ (by simp) _) | (refine Below.alloc ?_ (by simp) _) | (refine Below.drew ?_))
     rintro e w1 ⟨rfl,rfl⟩;go_wp2;go_ret;refine ⟨Z87 (by rw [HX.out,k2',k5']; rfl),?_⟩;repeat (first | exact Y8 _ _ | (refine Below.setCell ?_ (by simp) _) | (refine Below.alloc ?_ (by simp) _) | (refine Below.drew ?_))
theorem RFr.of_set {w:World} {rb:Nat} (o:Nat) (x:Value):RFr w (w.setCell ⟨rb,o,none⟩ x) rb:=(RFr.refl w rb).set o x
def Z1l (w:World) (C:QC) (B:Nat) (t:Tree) (σ':RS) (e:Ending) (w':World):Prop:=
 ∃ a,e=.returned (.pointer (some ⟨a.b,0,none⟩))∧Got w B w' a t∧QS w' C σ'∧RFr w w' C.rb
theorem Z2s (h:QS w C σ) (c:Int) (hc:c≠0) (B:Nat) (hB:C.rb < B) (hBw:B≤w.heap.size) :
 Calls Tryz.prog 45 #[.pointer (some ⟨C.rb,0,none⟩),.int .i64 c] w (Z1l w C B gT (Z30 c σ)):=by
 obtain ⟨i,e,h⟩:=h;obtain ⟨ts,f⟩:=σ;simp only at e h;subst e;have HOK:=lh (Zft h);have HH:=lh h;cases hf:f.isNone with
 | false =>
   rw [hf] at HOK;have hR:Z30 c ⟨C.L.drop i,f⟩=⟨C.L.drop i,f⟩:=by simp [Z30,hf]
   rw [hR];clear h hf hR;go_enter Tryz.func45,Tryz.ntmps45
   go_wp2_with fail
   refine HOK.out.mono ?_;rintro e w1 ⟨rfl,rfl⟩;go_wp2;go_ret;exact ⟨_,rfl,Got.leaf hBw (RFr.refl w C.rb),⟨i,rfl,HH.out.below ((Y8 _ _).alloc (Y5 _) _)⟩,RFr.below ((Y8 _ _).alloc (Y5 _) _)⟩
 | true =>
   rw [hf] at HOK;obtain rfl:f=none:=by cases f <;> simp_all
   have hR:Z30 c ⟨C.L.drop i,none⟩=⟨C.L.drop i,some (c,(hdT (C.L.drop i)).at')⟩:=by simp [Z30]
   rw [hR];have c0:=h.c0;have c1:=h.c1;have c2:=h.c2;have c3:=h.c3;have t3:=h.hd (j:=3) rfl;have z2:=h.fz 2;have z3:=h.fz 3;have hi:=h.lt;have hle:=h.le;have hm:=h.most;obtain ⟨p,hp⟩:=zX ((hdT (C.L.drop i)).at')
   rw [← hp] at t3 ⊢;obtain ⟨n,hn⟩:=zX C.L.length
   rw [← hn] at c0 hi hle;clear h hf hR hp hn;obtain ⟨rb,tb,off,cap,L⟩:=C;simp only at *;go_enter Tryz.func45,Tryz.ntmps45
   go_wp2_with fail
   refine HOK.out.mono ?_;rintro e w1 ⟨rfl,rfl⟩;go_wp2_with fail
   refine Z1 [(true,0),(true,1),(true,2),(true,3),(true,4),(true,5),(true,6),(true,7),(true,8),(true,9),(true,10),(true,11),(true,12),(true,13)] [14,15,16] (fun W=>W.cell? ⟨rb,0,none⟩=some (.slice (some ⟨tb,off,none⟩) n cap)∧W.cell? ⟨rb,1,none⟩=some (.int .i64 i)∧W.cell? ⟨tb,off + i * 4 + 3,none⟩=some (.int .i64 p)) (by kernel_rfl) (by kernel_rfl) (fun _ _ d _ _ h=>by cases d <;> exact h) ⟨c0,c1,t3⟩ (fun hS0=>?_)
   simp only [Zf,zD,zE,zF,zG,zH,zI]
   iterate 14
    first
     | (refine Z2 ?_ (by rfl) (fun w' hS'=>?_) ?_; rotate_left; (obtain ⟨s0,s1,s2⟩:=hS'; go_simp; first | done | with_reducible rfl); simp only [Act.put,zA,zB,zC])
     | (refine Z3 (by rfl) ?_; simp only [Act.put,zA,zB,zC])
   refine Z6 ?_;go_wp2;go_ret;have h2:QAt ((w.setCell ⟨rb,2,none⟩ (.int .i64 c)).setCell ⟨rb,3,none⟩ (.int .i64 p)) ⟨rb,tb,off,cap,L⟩ i (some (c,p)):=HH.out.fault hc rfl;have h3:RFr w ((w.setCell ⟨rb,2,none⟩ (.int .i64 c)).setCell ⟨rb,3,none⟩ (.int .i64 p)) rb:=((RFr.refl w rb).set 2 _).set 3 _;have h4:=Got.leaf (w0:=w) (rb:=rb) (B:=B) (k:=0) (t:=⟨#[]⟩) (n:=0) hBw h3;refine ⟨_,?pt,h4.rfr hB (RFr.refl _ rb).drew,⟨i,rfl,(h2.below ((Y8 _ _).alloc (Y5 _) _)).drew⟩,(h3.trans (RFr.below ((Y8 _ _).alloc (Y5 _) _))).drew⟩
   case pt=>simp [ATree.b]
theorem Z2n {s:ByteArray} {σ:RS} (h:Zd s σ=true):isT s σ.ts=true:=by
 unfold Zd at h;simp only [Bool.and_eq_true] at h;exact h.2
theorem Z0u (h:QS w C σ) (s:ByteArray):Calls Tryz.prog 48 #[.pointer (some ⟨C.rb,0,none⟩),.string s] w fun e w'=>
 e=.returned (.bool (Zd s σ))∧QS w' C (if Zd s σ then advR σ else σ)∧RFr w w' C.rb:=by
 have HN:=Zc h s;have HH:=lh h;obtain ⟨rb,tb,off,cap,L⟩:=C;by_cases hs:Zd s σ=true
 ·rw [hs] at HN;have HN := lh HN;have HS := lh hs;rw [Yb hs];clear h hs;go_enter Tryz.func48, Tryz.ntmps48
  go_wp2_with fail
  refine HN.out.mono ?_;rintro e w1 ⟨rfl,hB1⟩;have h1:=HH.out.below hB1;have HB:=lh hB1;obtain ⟨i,e,h⟩:=h1;have c1:=h.c1;have z1:=h.fz 1;have hi:=h.lt;have hf:=h.few;simp only at c1 z1;have H1:=lh h;have E1:=lh e;clear hB1 h e;go_wp2;go_ret;have hk:=Z4n (Z2n HS.out);rw [E1.out] at hk;have h2:=QS.adv H1.out (x:=(i:Int) + 1) hk rfl;have h3:(⟨List.drop i L,σ.f⟩:RS)=σ:=by rw [← E1.out]
  simp only at h2;rw [h3] at h2;refine ⟨by rw [HS.out]; rfl,h2,(RFr.below HB.out).set 1 _⟩
 ·have hs : Zd s σ = false := by simpa using hs
  rw [hs] at HN;have HN:=lh HN;simp only [hs,if_false,Bool.false_eq_true];clear h hs;go_enter Tryz.func48,Tryz.ntmps48
  go_wp2_with fail
  refine HN.out.mono ?_;rintro e w1 ⟨rfl,hB1⟩;have HB:=lh hB1;clear hB1;go_wp2;go_ret;exact ⟨rfl,HH.out.below HB.out,RFr.below HB.out⟩
theorem Z06 (h:QS w C σ) (s:ByteArray) (B:Nat) (hB:C.rb < B) (hBw:B≤w.heap.size):Calls Tryz.prog 53 #[.pointer (some ⟨C.rb,0,none⟩),.string s] w fun e w'=>
 e=.returned (.tuple #[])∧QS w' C (Z09 s σ)∧RFr w w' C.rb:=by
 have HO:=Z1x h;have HH:=lh h;have HBB:=lh hB;have HBW:=lh hBw;obtain ⟨X,hX⟩:=zX (Z09 s σ)
 rw [← hX];unfold Z09 at hX;by_cases hf:σ.f.isNone=true
 ·rw [hf] at HO;rw [Yb hf] at hX;have HS := Z0u h s;have hns : Zd s σ = isT s σ.ts := by simp [Zd, hf]
  rw [hns] at HS;have HO:=lh HO;by_cases hs:isT s σ.ts=true
  ·rw [Yb hs] at hX;rw [hs] at HS;rw [Yb rfl, ← hX] at HS;have HS := lh HS;clear h hX hf hns hs hB hBw;go_enter Tryz.func53, Tryz.ntmps53
   go_wp2_with fail
   refine HO.out.mono ?_;rintro e w1 ⟨rfl,rfl⟩;go_wp2_with fail
   refine HS.out.mono ?_;rintro e w1 ⟨rfl,h1⟩;have H1:=lh h1;clear h1;go_wp2;go_end0
   exact ⟨rfl,H1.out⟩
  ·rw [Y9 hs] at hX;have hs : isT s σ.ts = false := by simpa using hs
   rw [hs] at HS;simp only [Bool.false_eq_true,if_false] at HS;have HS:=lh HS;have HX:=lh hX;clear h hX hf hns hs hB hBw;go_enter Tryz.func53,Tryz.ntmps53
   go_wp2_with fail
   refine HO.out.mono ?_;rintro e w1 ⟨rfl,rfl⟩;go_wp2_with fail
   refine HS.out.mono ?_;rintro e w2 ⟨rfl,h2⟩;have H2:=lh h2;clear h2;go_wp2_with fail
   refine (Z2s H2.out.1 3 (by decide) B HBB.out (Ya HBW.out H2.out.2.size)).mono ?_;rintro e w3 ⟨a,rfl,_,h3,h4⟩;have H3:=lh h3;have H4:=lh h4;clear h3 h4;go_wp2;go_end0
   refine ⟨rfl,?_,H2.out.2.trans H4.out⟩;rw [HX.out];exact H3.out
 ·have hf : σ.f.isNone = false := Bool.eq_false_iff.2 hf;rw [hf] at HO;rw [Y9 (by rw [hf]; decide)] at hX;have HO := lh HO;have HX := lh hX;clear h hX hf hB hBw;go_enter Tryz.func53, Tryz.ntmps53
  go_wp2_with fail
  refine HO.out.mono ?_;rintro e w1 ⟨rfl,rfl⟩;go_wp2;go_end0
  exact ⟨rfl,by rw [HX.out]; exact HH.out,RFr.refl _ _⟩
theorem Z2t (h:QS w C σ) (B:Nat) (hB:C.rb < B) (hBw:B≤w.heap.size):Calls Tryz.prog 49 #[.pointer (some ⟨C.rb,0,none⟩)] w fun e w'=>
 e=.returned (.string (Zj σ).1)∧QS w' C (Zj σ).2∧RFr w w' C.rb:=by
 have HO:=Z1x h;have HH:=lh h;have HBB:=lh hB;have HBW:=lh hBw;obtain ⟨X,hX⟩:=zX (Zj σ)
 rw [← hX];unfold Zj at hX;by_cases hf:σ.f.isNone=true
 ·rw [hf] at HO;rw [Yb hf] at hX;have HO := lh HO;obtain ⟨i, e, h⟩ := h;obtain ⟨ts, f⟩ := σ;simp only at e hf hX;subst e;have c0 := h.c0;have c1 := h.c1;have t0 := h.hd (j := 0) (x := .int .i64 (hdT (C.L.drop i)).kind) rfl;have t1 := h.hd (j := 1) (x := .string (hdT (C.L.drop i)).text) rfl;have z1 := h.fz 1;have hi := h.lt;have hle := h.le;have hm := h.most;have hr := h.rlt;have ho := h.ord;have hfew := h.few;have HA := lh h;rw [Nat.add_zero] at t0;obtain ⟨rb, tb, off, cap, L⟩ := C;simp only at *;obtain ⟨n, hn⟩ := zX L.length
  rw [← hn] at c0 hi hle hfew;by_cases hk:(hdT (L.drop i)).kind=1
  ·rw [Yb hk] at hX;rw [hk] at t0;have hk6 : (hdT (L.drop i)).kind ≠ 6 := by rw [hk]; decide
   have HK6:=lh hk6;have HX:=lh hX;have hrt:¬ rb=tb:=by omega
   obtain ⟨tx,htx⟩:=zX ((hdT (L.drop i)).text)
   rw [← htx] at t1;have HTX:=lh htx;clear h hX hf hk hB hBw hk6 hn htx;go_enter Tryz.func49,Tryz.ntmps49
   go_wp2_with fail
   refine HO.out.mono ?_;rintro e w1 ⟨rfl,rfl⟩;go_wp2_with fail
   refine Z1 [(true,0),(true,1),(true,2),(true,3),(true,4),(true,5),(true,6),(true,7)] [8,9,10,11] (fun W=>W.cell? ⟨rb,0,none⟩=some (.slice (some ⟨tb,off,none⟩) n cap)∧W.cell? ⟨rb,1,none⟩=some (.int .i64 i)∧W.cell? ⟨tb,off + i * 4,none⟩=some (.int .i64 1)) (by kernel_rfl) (by kernel_rfl) (fun _ _ d _ _ h=>by cases d <;> exact h) ⟨c0,c1,t0⟩ (fun hS0=>?_);simp only [Zf,zD,zE,zF,zG,zH,zI]
   iterate 8
    first
     | (refine Z2 ?_ (by rfl) (fun w' hS'=>?_) ?_; rotate_left; (obtain ⟨s0,s1,s2⟩:=hS'; go_simp; first | done | with_reducible rfl); simp only [Act.put,zA,zB,zC])
     | (refine Z3 (by rfl) ?_; simp only [Act.put,zA,zB,zC])
   refine Z6 ?_;have h2:=HA.out.drew.at (j:=i + 1) (x:=(i:Int) + 1) (HA.out.more HK6.out) rfl;have d0:=h2.c0;have d1:=h2.c1;have e1:=h2.cells i _ 1 (.string (hdT (L.drop i)).text) HA.out.hdEq rfl;simp only [← HTX.out] at d0 d1 e1;obtain ⟨m,hm'⟩:=zX L.length
   rw [← hm'] at d0;have hm2:=HA.out.more HK6.out;simp only [← hm'] at hm2;have H2:=lh h2;clear h2 hm';go_wp2_with fail
   refine Z1 [(true,0),(true,1),(true,2),(true,3),(true,4),(true,5),(true,6),(true,7),(true,8)] [9,10,11,12] (fun W=>W.cell? ⟨rb,0,none⟩=some (.slice (some ⟨tb,off,none⟩) m cap)∧W.cell? ⟨rb,1,none⟩=some (.int .i64 ((i:Int) + 1))∧W.cell? ⟨tb,off + i * 4 + 1,none⟩=some (.string tx)) (by kernel_rfl) (by kernel_rfl) (fun _ _ d _ _ h=>by cases d <;> exact h) ⟨d0,d1,e1⟩ (fun hS0=>?_);simp only [Zf,zD,zE,zF,zG,zH,zI]
   iterate 9
    first
     | (refine Z2 ?_ (by rfl) (fun w' hS'=>?_) ?_; rotate_left; (obtain ⟨s0,s1,s2⟩:=hS'; go_simp; first | done | with_reducible rfl); simp only [Act.put,zA,zB,zC])
     | (refine Z3 (by rfl) ?_; simp only [Act.put,zA,zB,zC])
   refine Z6 ?_;go_wp2;go_ret;refine ⟨by rw [HX.out,HTX.out]; rfl,?_,((RFr.refl _ _).drew.set 1 _).drew⟩;rw [HX.out];exact QS.drew ⟨i + 1,Zba _ _,H2.out⟩
  ·rw [Y9 hk] at hX;have hk1 : ((hdT (L.drop i)).kind != 1) = true := by simpa using hk
   obtain ⟨k,hkk⟩:=zX ((hdT (L.drop i)).kind)
   rw [← hkk] at t0 hk1;have HX:=lh hX;clear h hX hf hk hB hBw hn hkk t1;go_enter Tryz.func49,Tryz.ntmps49
   go_wp2_with fail
   refine HO.out.mono ?_;rintro e w1 ⟨rfl,rfl⟩;go_wp2_with fail
   refine Z1 [(true,0),(true,1),(true,2),(true,3),(true,4),(true,5),(true,6),(true,7)] [8,9,10,11] (fun W=>W.cell? ⟨rb,0,none⟩=some (.slice (some ⟨tb,off,none⟩) n cap)∧W.cell? ⟨rb,1,none⟩=some (.int .i64 i)∧W.cell? ⟨tb,off + i * 4,none⟩=some (.int .i64 k)) (by kernel_rfl) (by kernel_rfl) (fun _ _ d _ _ h=>by cases d <;> exact h) ⟨c0,c1,t0⟩ (fun hS0=>?_);simp only [Zf,zD,zE,zF,zG,zH,zI]
   iterate 8
    first
     | (refine Z2 ?_ (by rfl) (fun w' hS'=>?_) ?_; rotate_left; (obtain ⟨s0,s1,s2⟩:=hS'; go_simp; first | done | with_reducible rfl); simp only [Act.put,zA,zB,zC])
     | (refine Z3 (by rfl) ?_; simp only [Act.put,zA,zB,zC])
   refine Z6 ?_;go_wp2_with fail
   refine (Z2s HH.out.drew 3 (by decide) B HBB.out (by simpa using HBW.out)).mono ?_;rintro e w3 ⟨a,rfl,_,h3,h4⟩;have H3:=lh h3;have H4:=lh h4;clear h3 h4;go_wp2;go_ret;refine ⟨by rw [HX.out]; rfl,?_,(RFr.refl _ _).drew.trans H4.out⟩;rw [HX.out];exact H3.out
 ·have hf : σ.f.isNone = false := Bool.eq_false_iff.2 hf;rw [hf] at HO;rw [Y9 (by rw [hf]; decide)] at hX;have HO := lh HO;have HX := lh hX;clear h hX hf hB hBw;go_enter Tryz.func49, Tryz.ntmps49
  go_wp2_with fail
  refine HO.out.mono ?_;rintro e w1 ⟨rfl,rfl⟩;go_wp2;go_ret;exact ⟨by rw [HX.out]; rfl,by rw [HX.out]; exact HH.out,RFr.refl _ _⟩
end
structure KidsAt (w0:World) (B:Nat) (w:World) (kids:List ATree) (ts:List Tree):Prop where
 tree:Z0r kids=ts
 at':∀ a∈kids,TreeAt w B a
 nodup:(Zw kids).Nodup
 new:∀ x∈Zw kids,w0.heap.size≤x∧x < w.heap.size
structure ListAt (w0:World) (B:Nat) (w:World) (v:Value) (kids:List ATree) (ts:List Tree):Prop where
 ks:KidsAt w0 B w kids ts
 row:w.ownsRow B 22 1 v kids.length (kids.map ATree.ptr)
 own:∀ g,v.ownBlock=some g→w0.heap.size≤g∧g < w.heap.size∧g ∉ Zw kids
section
variable {w0 w w' w1 w2 wA:World} {B rb:Nat} {v:Value} {kids:List ATree} {ts:List Tree} {a:ATree} {t:Tree} {k n:Int} {tx:ByteArray} {b:Nat}
theorem KidsAt.nil:KidsAt w0 B w [] []:=⟨rfl,fun a ha=>(by cases ha),by simp [Zw],fun x hx=>by simp [Zw] at hx⟩
theorem KidsAt.rfr (h:KidsAt w0 B w kids ts) (hr:rb < B) (f:RFr w w' rb):KidsAt w0 B w' kids ts:=
 ⟨h.tree,fun a ha=>(h.at' a ha).rfr hr f,h.nodup,fun x hx=>⟨(h.new x hx).1,Ye (h.new x hx).2 f.size⟩⟩
theorem KidsAt.pre (h:KidsAt w1 B w kids ts) (f:w0.heap.size≤w1.heap.size):KidsAt w0 B w kids ts:=
 ⟨h.tree,h.at',h.nodup,fun x hx=>⟨Ya f (h.new x hx).1,(h.new x hx).2⟩⟩
theorem KidsAt.add (h:KidsAt w0 B w kids ts) (hA:∀ x∈Zw kids,x < wA.heap.size) (A:Got wA B w a t) (h0:w0.heap.size≤wA.heap.size):KidsAt w0 B w (kids ++ [a]) (ts ++ [t]):=by
 refine ⟨by rw [Z5q,h.tree]; simp [Z0r,A.tree],fun x hx=>?_,?_,fun x hx=>?_⟩
 ·rcases List.mem_append.1 hx with hx | hx;·exact h.at' x hx
  ·simp only [List.mem_singleton] at hx; subst hx; exact A.at'
 ·rw [Z1b];simp only [Zw,List.append_nil,List.nodup_append];exact ⟨h.nodup,A.nodup,fun x hx y hy e=>by have h1:=hA x hx; have h2:=A.new y hy; omega⟩
 ·rw [Z1b] at hx;simp only [Zw, List.append_nil, List.mem_append] at hx;rcases hx with hx | hx;·exact h.new x hx
  ·have:=A.new x hx; omega
theorem KidsAt.one (A:Got w0 B w a t):KidsAt w0 B w [a] [t]:=KidsAt.nil.add (kids:=[]) (ts:=[]) (wA:=w0) (fun x hx=>by simp [Zw] at hx) A (Y5 _)
theorem KidsAt.two {a2:ATree} {t2:Tree} (A:Got w0 B w a t) (hA:∀ x∈a.blocks,x < wA.heap.size) (h0:w0.heap.size≤wA.heap.size) (A2:Got wA B w a2 t2):KidsAt w0 B w [a,a2] [t,t2]:=
 (KidsAt.one A).add (wA:=wA) (fun x hx=>hA x (by simpa [Zw] using hx)) A2 h0
theorem ListAt.nil:ListAt w0 B w (.slice none 0 0) [] []:=⟨KidsAt.nil,World.ownsRow_nil _ _ _ _,fun g hg=>by simp [Value.ownBlock] at hg⟩
theorem ListAt.rfr (h:ListAt w0 B w v kids ts) (hr:rb < B) (f:RFr w w' rb):ListAt w0 B w' v kids ts:=
 ⟨h.ks.rfr hr f,Zh h.row fun g hg=>f.block g (h.own g hg).2.1 (by have:=(h.row.lt g hg).1; omega),fun g hg=>⟨(h.own g hg).1,Ye (h.own g hg).2.1 f.size,(h.own g hg).2.2⟩⟩
theorem ListAt.pre (h:ListAt w1 B w v kids ts) (f:w0.heap.size≤w1.heap.size):ListAt w0 B w v kids ts:=
 ⟨h.ks.pre f,h.row,fun g hg=>⟨Ya f (h.own g hg).1,(h.own g hg).2⟩⟩
theorem KidsAt.lit (h:KidsAt w0 B w kids ts) (hBw:B≤w.heap.size) (h0:w0.heap.size≤w.heap.size) (hl:kids.length≤1000) :
 ListAt w0 B (w.alloc (.cells (kids.map ATree.ptr).toArray 22)) (.slice (some ⟨w.heap.size,0,none⟩) kids.length kids.length) kids ts:=by
 have hal:Below w.heap.size w (w.alloc (.cells (kids.map ATree.ptr).toArray 22)):=(Y8 _ _).alloc (Y5 _) _;refine ⟨⟨h.tree,fun a ha=>(h.at' a ha).bel hal,h.nodup,fun x hx=>⟨(h.new x hx).1,Ye (h.new x hx).2 hal.size⟩⟩,Zd9 hBw hl,fun g hg=>?_⟩;simp only [Value.ownBlock,Option.some.injEq] at hg;subst hg;exact ⟨h0,by simp,fun hm=>by have:=(h.new _ hm).2; omega⟩
theorem ListAt.push {g cap:Nat} (L:ListAt w0 B w v kids ts) (hLA:∀ x∈Zw kids,x < wA.heap.size) (hvA:∀ x,v.ownBlock=some x→x < wA.heap.size) (A:Got wA B w a t) (h0:w0.heap.size≤wA.heap.size) (hAw:wA.heap.size≤w.heap.size)
 (hB1:Below w.heap.size w w1) (hg:w1.grownBy w2 v.ownBlock) (hown:w2.ownsRow B 22 1 (.slice (some ⟨g,0,none⟩) (kids.length + 1) cap) (kids.length + 1) (kids.map ATree.ptr ++ [a.ptr]))
 (hat:v.ownBlock=some g∨w.heap.size≤g) (hgl:g < w2.heap.size) (hF:RFr w0 w rb) :
 ListAt w0 B w2 (.slice (some ⟨g,0,none⟩) (kids.length + 1) cap) (kids ++ [a]) (ts ++ [t])∧(∀ x,x < w.heap.size→v.ownBlock≠some x→w2.heap[x]?=w.heap[x]?)∧w.heap.size≤w2.heap.size ∧
  RFr w0 w2 rb:=by
 have hs1:w.heap.size≤w2.heap.size:=Ya hB1.size hg.size;have far:∀ x,x < w.heap.size→v.ownBlock≠some x→w2.heap[x]?=w.heap[x]?:=fun x hx hn=>(hg.block x (Ye hx hB1.size) (fun e=>hn e.symm)).trans (hB1.block x hx);have hv:∀ x,v.ownBlock=some x→w0.heap.size≤x∧x < wA.heap.size:=fun x hx=>⟨(L.own x hx).1,hvA x hx⟩;have hgk:g ∉ Zw kids:=fun hm=>by
  rcases hat with h | h;·exact (L.own g h).2.2 hm
  ·have:=(L.ks.new g hm).2; omega
 have hga:g ∉ a.blocks:=fun hm=>by
  have h1:=A.new g hm;rcases hat with h | h;·have:=hv g h; omega
  ·omega
 have hg0:w0.heap.size≤g:=by
  rcases hat with h | h;·exact (hv g h).1
  ·have:=hF.size; omega
 have hkeep:∀ x∈Zw kids,w2.heap[x]?=w.heap[x]?:=fun x hx=>far x (L.ks.new x hx).2 fun e=>(L.own x e).2.2 hx;have hkeepA:∀ x∈a.blocks,w2.heap[x]?=w.heap[x]?:=fun x hx=>far x (A.new x hx).2 fun e=>by have h1:=hv x e; have h2:=A.new x hx; omega
 refine ⟨⟨⟨?_,fun x hx=>?_,?_,fun x hx=>?_⟩,?_,fun g' hg'=>?_⟩,far,hs1,⟨?_,?_,?_,?_,?_⟩⟩;·rw [Z5q,L.ks.tree]; simp [Z0r,A.tree]
 ·rcases List.mem_append.1 hx with hx | hx
  ·refine (L.ks.at' x hx).keepB fun y hy=>hkeep y ?_;rw [Z0y]; exact List.mem_flatMap.2 ⟨x,hx,hy⟩
  ·simp only [List.mem_singleton] at hx; subst hx; exact A.at'.keepB hkeepA
 ·rw [Z1b];simp only [Zw,List.append_nil,List.nodup_append];exact ⟨L.ks.nodup,A.nodup,fun x hx y hy e=>by have h1:=hLA x hx; have h2:=A.new y hy; omega⟩
 ·rw [Z1b] at hx;simp only [Zw, List.append_nil, List.mem_append] at hx;rcases hx with hx | hx;·have := L.ks.new x hx; omega
  ·have:=A.new x hx; omega
 ·rw [Yq,Yu]; exact hown
 ·simp only [Value.ownBlock,Option.some.injEq] at hg';subst hg';refine ⟨hg0,hgl,fun hm=>?_⟩;rw [Z1b] at hm;simp only [Zw,List.append_nil,List.mem_append] at hm;exact hm.elim hgk hga
 ·exact (hg.os.trans hB1.os).trans hF.os
 ·exact (hg.tape.trans hB1.tape).trans hF.tape
 ·exact (hg.output.trans hB1.output).trans hF.output
 ·have:=hF.size; omega
 ·intro x hx hn;have:=hF.size;exact (far x (by omega) (fun e=>by have:=hv x e; omega)).trans (hF.block x hx hn)
theorem ListAt.node (L:ListAt w0 B w v kids ts) (hBw:B≤w.heap.size) (h0:w0.heap.size≤w.heap.size) :
 Got w0 B (w.alloc (.cells #[.int .i64 k,.string tx,.int .i64 n,v] 46)) (.mk w.heap.size v k tx n kids) (.mk k tx n ts):=by
 refine ⟨by simp [ATree.tree,L.ks.tree],TreeAt.new hBw L.row L.ks.at',?_,fun x hx=>?_⟩
 ·simp only [ATree.blocks, List.nodup_cons, List.mem_append, List.nodup_append, Option.mem_toList, not_or];refine ⟨⟨fun e => by have := (L.own _ e).2.1; omega, fun hm => by have := (L.ks.new _ hm).2; omega⟩, ?_, L.ks.nodup, fun x hx y hy e => ?_⟩;·cases v.ownBlock <;> simp
  ·subst e; exact (L.own x hx).2.2 hy
 ·simp only [ATree.blocks, List.mem_cons, List.mem_append, Option.mem_toList] at hx;rw [World.size_alloc];rcases hx with rfl | hx | hx;·omega
  ·have:=L.own x hx; omega
  ·have:=L.ks.new x hx; omega
theorem Got.kind0 {k':Int} {l:List Tree} (hr:rb < B) (hB0:B≤w0.heap.size) (N:Got w0 B w (.mk b v k tx n kids) (.mk k tx n l)) (F:RFr w0 w rb) :
 Got w0 B (w.setCell ⟨b,0,none⟩ (.int .i64 k')) (.mk b v k' tx n kids) (.mk k' tx n l)∧RFr w0 (w.setCell ⟨b,0,none⟩ (.int .i64 k')) rb∧(∀ x,x < B→(w.setCell ⟨b,0,none⟩ (.int .i64 k')).heap[x]?=w.heap[x]?):=by
 have hnd:=N.nodup;simp only [ATree.blocks,List.nodup_cons,List.mem_append,Option.mem_toList,not_or] at hnd;obtain ⟨⟨hb1,hb2⟩,_⟩:=hnd;have hb0:w0.heap.size≤b:=(N.new b (by simp [ATree.blocks])).1;have hsz:(w.setCell ⟨b,0,none⟩ (.int .i64 k')).heap.size=w.heap.size:=Yn ..;have far:∀ x,x≠b→(w.setCell ⟨b,0,none⟩ (.int .i64 k')).heap[x]?=w.heap[x]?:=fun x hx=>Yg _ _ _ _ hx
 refine ⟨⟨?_,?_,N.nodup,?_⟩,⟨F.os,F.tape,F.output,by rw [hsz]; exact F.size,fun x hx hn=>(far x (by omega)).trans (F.block x hx hn)⟩,fun x hx=>far x (by omega)⟩
 ·have:=N.tree;simp only [ATree.tree,Tree.mk.injEq,true_and] at this ⊢;exact this
 ·refine .mk (Zm (o:=0) _ N.at'.blkOf) N.at'.le (Zh N.at'.rowOf fun g hg=>far g (fun e=>hb1 (by rw [← e]; exact hg))) fun x hx=>?_;have hT:=N.at'.kid (k:=x) hx;refine hT.keepB fun y hy=>far y fun e=>hb2 ?_;rw [Z0y,← e];exact List.mem_flatMap.2 ⟨x,hx,hy⟩
 ·intro x hx; rw [hsz]; exact N.new x hx
theorem Got.text0 {t':ByteArray} {l:List Tree} (hr:rb < B) (hB0:B≤w0.heap.size) (N:Got w0 B w (.mk b v k tx n kids) (.mk k tx n l)) (F:RFr w0 w rb) :
 Got w0 B (w.setCell ⟨b,1,none⟩ (.string t')) (.mk b v k t' n kids) (.mk k t' n l)∧RFr w0 (w.setCell ⟨b,1,none⟩ (.string t')) rb∧(∀ x,x < B→(w.setCell ⟨b,1,none⟩ (.string t')).heap[x]?=w.heap[x]?):=by
 have hnd:=N.nodup;simp only [ATree.blocks,List.nodup_cons,List.mem_append,Option.mem_toList,not_or] at hnd;obtain ⟨⟨hb1,hb2⟩,_⟩:=hnd;have hb0:w0.heap.size≤b:=(N.new b (by simp [ATree.blocks])).1;have hsz:(w.setCell ⟨b,1,none⟩ (.string t')).heap.size=w.heap.size:=Yn ..;have far:∀ x,x≠b→(w.setCell ⟨b,1,none⟩ (.string t')).heap[x]?=w.heap[x]?:=fun x hx=>Yg _ _ _ _ hx
 refine ⟨⟨?_,?_,N.nodup,?_⟩,⟨F.os,F.tape,F.output,by rw [hsz]; exact F.size,fun x hx hn=>(far x (by omega)).trans (F.block x hx hn)⟩,fun x hx=>far x (by omega)⟩
 ·have:=N.tree;simp only [ATree.tree,Tree.mk.injEq,true_and] at this ⊢;exact this
 ·refine .mk (Zm (o:=1) _ N.at'.blkOf) N.at'.le (Zh N.at'.rowOf fun g hg=>far g (fun e=>hb1 (by rw [← e]; exact hg))) fun x hx=>?_;have hT:=N.at'.kid (k:=x) hx;refine hT.keepB fun y hy=>far y fun e=>hb2 ?_;rw [Z0y,← e];exact List.mem_flatMap.2 ⟨x,hx,hy⟩
 ·intro x hx; rw [hsz]; exact N.new x hx
theorem Got.kids0 {v':Value} {kids':List ATree} {l:List Tree} (hr:rb < B) (hB0:B≤w0.heap.size) (N:TreeAt w B (.mk b v k tx n kids)) (hb0:w0.heap.size≤b) (L:ListAt w0 B w v' kids' l) (h1:v'.ownBlock≠some b) (h2:b ∉ Zw kids') (F:RFr w0 w rb) :
 Got w0 B (w.setCell ⟨b,3,none⟩ v') (.mk b v' k tx n kids') (.mk k tx n l)∧RFr w0 (w.setCell ⟨b,3,none⟩ v') rb∧(∀ x,x < B→(w.setCell ⟨b,3,none⟩ v').heap[x]?=w.heap[x]?):=by
 have hsz:(w.setCell ⟨b,3,none⟩ v').heap.size=w.heap.size:=Yn ..;have far:∀ x,x≠b→(w.setCell ⟨b,3,none⟩ v').heap[x]?=w.heap[x]?:=fun x hx=>Yg _ _ _ _ hx;have hbw:b < w.heap.size:=N.lt;refine ⟨⟨?_,?_,?_,?_⟩,⟨F.os,F.tape,F.output,by rw [hsz]; exact F.size,fun x hx hn=>(far x (by omega)).trans (F.block x hx hn)⟩,fun x hx=>far x (by omega)⟩;·simp [ATree.tree,L.ks.tree]
 ·refine .mk (Zm (o:=3) _ N.blkOf) N.le (Zh L.row fun g hg=>far g (fun e=>h1 (by rw [← e]; exact hg))) fun x hx=>?_;refine (L.ks.at' x hx).keepB fun y hy=>far y fun e=>h2 ?_;rw [Z0y,← e];exact List.mem_flatMap.2 ⟨x,hx,hy⟩
 ·simp only [ATree.blocks, List.nodup_cons, List.mem_append, List.nodup_append, Option.mem_toList, not_or];refine ⟨⟨h1, h2⟩, ?_, L.ks.nodup, fun x hx y hy e => ?_⟩;·cases v'.ownBlock <;> simp
  ·subst e; exact (L.own x hx).2.2 hy
 ·intro x hx;simp only [ATree.blocks, List.mem_cons, List.mem_append, Option.mem_toList] at hx;rw [hsz];rcases hx with rfl | hx | hx;·exact ⟨hb0, hbw⟩
  ·have:=L.own x hx; omega
  ·exact L.ks.new x hx
theorem ListAt.apart (L:ListAt w1 B w v kids ts) (hb:b < w1.heap.size):v.ownBlock≠some b∧b ∉ Zw kids:=
 ⟨fun e=>by have:=(L.own b e).1; omega,fun hm=>by have:=(L.ks.new b hm).1; omega⟩
theorem Got.list (N:Got w0 B w (.mk b v k tx n kids) t):ListAt w0 B w v kids (Z0r kids)∧v.ownBlock≠some b∧b ∉ Zw kids:=by
 have hnd:=N.nodup;simp only [ATree.blocks,List.nodup_cons,List.mem_append,List.nodup_append,Option.mem_toList,not_or] at hnd;obtain ⟨⟨hb1,hb2⟩,_,hk1,hk2⟩:=hnd;exact ⟨⟨⟨rfl,fun a ha=>N.at'.kid (k:=a) ha,hk1,fun x hx=>N.new x (by simp [ATree.blocks,hx])⟩,N.at'.rowOf,fun g hg=>⟨(N.new g (by simp [ATree.blocks,hg])).1,(N.new g (by simp [ATree.blocks,hg])).2,fun hm=>hk2 g hg g hm rfl⟩⟩,hb1,hb2⟩
theorem QS.keep {C:QC} {σ:RS} (h:QS w C σ) (hk:∀ k,k≤C.rb→w'.heap[k]?=w.heap[k]?):QS w' C σ:=by
 obtain ⟨i,e,h⟩:=h;exact ⟨i,e,h.keep hk⟩
end
def Z14 (F:FuncId) (args:Nat→Nat→Array Value) (job:RJob) (f:Nat):Prop:=
 ∀ (w:World) (C:QC) (B d:Nat) (σ:RS) (t:Tree) (σ':RS),QS w C σ→C.rb < B→B≤w.heap.size→d + f≤1000000000000→refF f job d σ=some (t,σ')→Calls Tryz.prog F (args C.rb d) w (Z1l w C B t σ')
theorem Ze {p:RR} {k:Tree→RS→RR} {t:Tree} {σ:RS} (h:Z03 p k=some (t,σ)):∃ t1 σ1,p=some (t1,σ1)∧k t1 σ1=some (t,σ):=by
 cases p with
 | none=>cases h
 | some r=>obtain ⟨t1,σ1⟩:=r; exact ⟨t1,σ1,rfl,h⟩
def qd (rb d:Nat):Array Value:=#[.pointer (some ⟨rb,0,none⟩),.int .i64 d]
theorem Z1l.pre {w w1 w2:World} {C:QC} {B:Nat} {t:Tree} {σ':RS} {e:Ending} (f:RFr w w1 C.rb) (h:Z1l w1 C B t σ' e w2):Z1l w C B t σ' e w2:=by
 obtain ⟨a,h1,h2,h3,h4⟩:=h;exact ⟨a,h1,h2.pre f,h3,f.trans h4⟩
theorem Z1l.bare {w w1:World} {C:QC} {B:Nat} {σ:RS} (hBw:B≤w.heap.size) (f:RFr w w1 C.rb) (h:QS w1 C σ):Z1l w C B gT σ (.returned (.pointer (some ⟨w1.heap.size,0,none⟩))) (w1.alloc (.cells #[.int .i64 0,.string ⟨#[]⟩,.int .i64 0,.slice none 0 0] 46)):=
 ⟨.mk w1.heap.size (.slice none 0 0) 0 ⟨#[]⟩ 0 [],rfl,Got.leaf hBw f,h.below ((Y8 _ _).alloc (Y5 _) _),f.trans (RFr.below ((Y8 _ _).alloc (Y5 _) _))⟩
theorem Zk4 (f:Nat) (hS:Z14 21 qd .stmt f):Z14 52 qd .stmt2 (f + 1):=by
 intro w C B d σ t σ' hQ hr hB hd hp;rw [refF] at hp;have HO:=Z1x hQ;have HQ:=lh hQ;have HR:=lh hr;have HB:=lh hB;have HS:=lh hS;by_cases hf:σ.f.isNone=true
 ·rw [hf] at HO;rw [Yb hf] at hp;have HO := lh HO;have HP := lh hp;clear hQ hr hB hS hf hp;unfold qd;go_enter Tryz.func52, Tryz.ntmps52
  go_wp2_with fail
  refine HO.out.mono ?_;rintro e w1 ⟨rfl,rfl⟩;go_wp2_with fail
  refine (HS.out w C B (d + 1) _ _ _ HQ.out HR.out HB.out (by omega) HP.out).mono ?_;rintro e w3 ⟨a,rfl,h2,h3,h4⟩;have H2:=lh h2;have H3:=lh h3;have H4:=lh h4;clear h2 h3 h4;go_wp2;go_ret;exact ⟨a,rfl,H2.out,H3.out,H4.out⟩
 ·have hf : σ.f.isNone = false := Bool.eq_false_iff.2 hf;rw [hf] at HO;rw [Y9 (by rw [hf]; decide)] at hp;obtain ⟨rfl, rfl⟩ : gT = t ∧ σ = σ' := by simpa using hp
  have HO:=lh HO;clear hQ hr hB hS hf hp;unfold qd;go_enter Tryz.func52,Tryz.ntmps52
  go_wp2_with fail
  refine HO.out.mono ?_;rintro e w1 ⟨rfl,rfl⟩;go_wp2;go_ret;exact Z1l.bare HB.out (RFr.refl _ _) HQ.out
theorem Zkj (f:Nat) (hV:Z14 54 qd .value f):Z14 51 qd .head (f + 1):=by
 intro w C B d σ t σ' hQ hr hB hd hp;rw [refF] at hp;obtain ⟨x,σ1,hv,h2⟩:=Ze hp;obtain ⟨rfl,rfl⟩:x=t∧Z09 Z07 σ1=σ':=by simpa using h2
 have HM:=lh (Z06 hQ Z08 B hr hB);have HR:=lh hr;have HB:=lh hB;have HS:=lh hV;have HP:=lh hv;clear hQ hr hB hV hp h2 hv;unfold qd;go_enter Tryz.func51,Tryz.ntmps51
 go_wp2_with fail
 refine HM.out.mono ?_;rintro e w1 ⟨rfl,h3,h4⟩;have Q1:=lh h3;have F1:=lh h4;clear h3 h4 HM;go_wp2_with fail
 refine (HS.out w1 C B (d + 1) _ _ _ Q1.out HR.out (Ya HB.out F1.out.size) (by omega) HP.out).mono ?_;rintro e w2 ⟨a,rfl,h2,h3,h4⟩;have G2:=lh h2;have Q2:=lh h3;have F2:=lh (F1.out.trans h4);clear h2 h3 h4;go_wp2_with fail
 refine (Z06 Q2.out Z07 B HR.out (Ya HB.out F2.out.size)).mono ?_;rintro e w3 ⟨rfl,h3,h4⟩;have Q3:=lh h3;have F3:=lh h4;clear h3 h4;go_wp2;go_ret;exact ⟨a,rfl,(G2.out.pre F1.out).rfr HR.out F3.out,Q3.out,F2.out.trans F3.out⟩
end Go.Proofs.YtmjfllklcpjddaaGreatDoor
