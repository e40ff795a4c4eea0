/- Package early, whole: Check; the law EarlyMore's fact; the law, walked -/
import Derived.Test.YtajomcjaljakhaaGreatDoorJ26
namespace Go.Proofs.YtajomcjaljakhaaGreatDoor
open Go Go.RowKit
set_option maxRecDepth 100000
set_option maxHeartbeats 20000000
set_option linter.unusedVariables false
theorem Zb4 {l:List ATree} {n:Nat} (h:l.length=n + 1):∃ x r,l=x :: r:=by
 match l,h with
 | x :: r,_=>exact ⟨x,r,rfl⟩
theorem Z9m {l:List ATree} {n:Nat} (h:l.length=n) (hn:2≤n):∃ x r,l=x :: r∧1≤r.length:=by
 match l,h with
 | x :: r,h=>exact ⟨x,r,rfl,by simp at h; omega⟩
 | [],h=>simp at h; omega
theorem Zh7 (B:Nat):∀ m,Zlw B m:=by
 intro m;induction m with
 | zero=>intro a w st ins hm; obtain ⟨b,v,k,t,n,ks⟩:=a; simp [ATree.many] at hm
 | succ m ih =>
   intro a w st ins hm hA hbig hT;have hK:Z8b B m:=Zeb ih;have ha:=hA.self;have h:EIn B m a w:=⟨hm,hA,hbig,hT⟩
   by_cases h2:a.kind=2∨a.kind=3∨a.kind=4;·exact Zgy hK a w st ins h h2
   by_cases h13:a.kind=13
   ·obtain ⟨x,r,hk⟩:=Zb4 (ha.one (.inl h13));exact Zd7 hK a w st ins h h13 hk
   by_cases h5:a.kind=5∨a.kind=37
   ·obtain ⟨x,y,hk⟩:=Zk6 (ha.two (by omega));exact Zf3 hK a w st ins h h5 hk
   by_cases h6:a.kind=6;·exact Zdd hK a w st ins h h6
   by_cases h7:a.kind=7∨a.kind=8∨a.kind=9
   ·obtain ⟨x,r,hk,hr⟩:∃ x r,a.kids=x :: r∧1≤r.length:=by
     by_cases h:a.kind=7
     ·rcases ha.if' h with h | h;·exact Z9m h (Y5 _)
      ·exact Z9m h (by omega)
     ·exact Z9m (ha.two (by omega)) (Y5 _)
    exact Zcq hK a w st ins h h7 hk hr
   by_cases h10:a.kind=10;·exact Zc2 hK a w st ins h h10
   by_cases h24:a.kind=24
   ·obtain ⟨x,r,hk⟩:=Zb4 (ha.two (by omega));exact Zbl hK a w st ins h h24 hk
   by_cases h34:a.kind=34
   ·obtain ⟨x,r,hk⟩:=Zb4 (ha.one (.inr h34));exact Zbd hK a w st ins h h34 hk
   exact Zdr hK a w st ins h (by omega) (by omega) (by omega) h13 (by omega) (by omega) h6 (by omega) (by omega) (by omega) h10 h24 h34
theorem Zft (w:World) (B:Nat) (a:ATree) (st ins:Bool) (hT:TreeAt w B a) (hA:WA a) (hbig:a.many < 274877906944) :
 Calls Tryz.prog 6 #[a.ptr,.bool st,.bool ins] w fun e w'=>e=.returned (errV (Z5r a st ins))∧Below w.heap.size w w':=by
 have HST:=lh (fun W (h:TreeAt W B a)=>Za6 W B a h);obtain ⟨sb,hsb⟩:=zX ((st || Z0r a))
 obtain ⟨s0,hs0⟩:=zX (Z0r a)
 have HSC:=lh (fun W (h:TreeAt W B a)=>Z9s W B a sb ins true h hbig);have HKI:=lh (fun W (h:TreeAt W B a)=>Zeb (Zh7 B a.many) a W sb ins (by omega) (fun k hk=>hA.kid hk) hbig h);have hcode:Z5r a st ins=if Z2n a true then 9 else Z1c a.kids sb ins:=by unfold Z5r; rw [hsb]
 rw [hcode];obtain ⟨SB,hSB⟩:=zX (Z2n a true)
 obtain ⟨RK,hRK⟩:=zX (Z1c a.kids sb ins)
 rw [← hSB] at HSC ⊢;rw [← hRK] at HKI ⊢;rw [← hs0] at HST hsb;obtain ⟨ev,hev⟩:=zX (errV (if SB then 9 else RK))
 rw [← hev];have HEV:=lh hev;have hba:Below w.heap.size w (w.alloc (.cells #[.bool sb,.bool ins] 43)):=(Y8 _ _).alloc (Y5 _) _;have d0:(w.alloc (.cells #[.bool sb,.bool ins] 43)).cell? ⟨w.heap.size,0,none⟩=some (.bool sb):=by simp
 have d1:(w.alloc (.cells #[.bool sb,.bool ins] 43)).cell? ⟨w.heap.size,1,none⟩=some (.bool ins):=by simp
 have hsz:(w.alloc (.cells #[.bool sb,.bool ins] 43)).heap.size=w.heap.size + 1:=by simp
 have HB:=lh hba;have HT:=lh hT;obtain ⟨w1,hw1⟩:=zX (w.alloc (.cells #[.bool sb,.bool ins] 43))
 have HW1:=lh hw1;rw [← hw1] at hsz d0 d1 hba;have hall:∀ W,Below w1.heap.size w1 W→W.cell? ⟨w.heap.size,0,none⟩=some (.bool sb)∧W.cell? ⟨w.heap.size,1,none⟩=some (.bool ins)∧Below w.heap.size w W∧TreeAt W B a:=fun W h=>by
  have h2:=hba.trans (h.mono hba.size);exact ⟨(Yj (h.block w.heap.size (by omega))).trans d0,(Yj (h.block w.heap.size (by omega))).trans d1,h2,hT.bel h2⟩
 obtain ⟨q0,q1,hbw,hTw⟩:=hall w1 (Y8 _ _);have HALL:=lh hall;have HTW:=lh hTw;have HBW:=lh hbw;have rest:∀ (K:Prop),K→K:=fun _ h=>h;clear hT hA hbig hcode hSB hRK hs0 hev hba hsz d0 d1 hw1 hall hbw hTw rest;unfold ATree.ptr at HST HSC HKI ⊢;cases st
 ·rw [Bool.false_or] at hsb;subst hsb;go_enter Tryz.func6, Tryz.ntmps6
  go_wp2_with fail
  refine (HST.out w HT.out).mono ?_;rintro e w' ⟨rfl,hww⟩;rw [hww];clear hww w' HST;go_wp2_with fail
  rw [← HW1.out];refine (HSC.out w1 HTW.out).mono ?_;rintro e w3 ⟨rfl,hb3⟩;obtain ⟨r0,r1,hb5,hT3⟩:=HALL.out w3 hb3;have HB5:=lh hb5;have HT3:=lh hT3;clear hb3 hb5 hT3 q0 q1;cases SB
  ·simp only [Bool.false_eq_true, if_false] at HEV ⊢;go_wp2_with fail
   refine (HKI.out w3 HT3.out).mono ?_;rintro e w4 ⟨rfl,hb4⟩;have HB6:=lh (HB5.out.trans (hb4.mono HB5.out.size));clear hb4;by_cases hz:RK=0
   ·subst hz;go_wp2;go_ret;exact ⟨by rw [HEV.out]; rfl,HB6.out⟩
   ·have n0 : (RK != 0) = true := by simpa using hz
    have HEV2:Hid (ev=.iface 29 (.int .i64 RK)):=lh (by rw [HEV.out]; unfold errV; rw [Y9 hz]);clear hz HEV;go_wp2;go_ret;exact ⟨by rw [HEV2.out]; rfl,HB6.out⟩
  ·simp only [if_true] at HEV ⊢;go_wp2;go_ret;exact ⟨by rw [HEV.out]; rfl,HB5.out⟩
 ·rw [Bool.true_or] at hsb;subst hsb;go_enter Tryz.func6, Tryz.ntmps6
  go_wp2_with fail
  rw [← HW1.out];refine (HSC.out w1 HTW.out).mono ?_;rintro e w3 ⟨rfl,hb3⟩;obtain ⟨r0,r1,hb5,hT3⟩:=HALL.out w3 hb3;have HB5:=lh hb5;have HT3:=lh hT3;clear hb3 hb5 hT3 q0 q1;cases SB
  ·simp only [Bool.false_eq_true, if_false] at HEV ⊢;go_wp2_with fail
   refine (HKI.out w3 HT3.out).mono ?_;rintro e w4 ⟨rfl,hb4⟩;have HB6:=lh (HB5.out.trans (hb4.mono HB5.out.size));clear hb4;by_cases hz:RK=0
   ·subst hz;go_wp2;go_ret;exact ⟨by rw [HEV.out]; rfl,HB6.out⟩
   ·have n0 : (RK != 0) = true := by simpa using hz
    have HEV2:Hid (ev=.iface 29 (.int .i64 RK)):=lh (by rw [HEV.out]; unfold errV; rw [Y9 hz]);clear hz HEV;go_wp2;go_ret;exact ⟨by rw [HEV2.out]; rfl,HB6.out⟩
  ·simp only [if_true] at HEV ⊢;go_wp2;go_ret;exact ⟨by rw [HEV.out]; rfl,HB5.out⟩
theorem Zcx (text:ByteArray):∀ (f i:Nat) (acc:List UInt8),(Z0h text f i acc).2.1=0→(Z0h text f i acc).1.length≤500:=by
 intro f;induction f with
 | zero=>intro i acc h; simp [Z0h] at h
 | succ f ih =>
   intro i acc h;unfold Z0h at h ⊢;by_cases c1:text.size≤i∨Z8 text i=10;·rw [Yb c1] at h; simp at h
   rw [Y9 c1] at h ⊢;by_cases c2:Z8 text i=39
   ·rw [Yb c2] at h ⊢;by_cases c3 : 500 < acc.length;·rw [Yb c3] at h; simp at h
    ·rw [Y9 c3]; simp only; omega
   rw [Y9 c2] at h ⊢;by_cases c4:Z8 text i=92
   ·rw [Yb c4] at h ⊢;by_cases c5 : i + 1 < text.size
    ·rw [Yb c5] at h ⊢;cases he : Z6r (Z8 text (i + 1)) with
     | none=>rw [he] at h; simp at h
     | some e=>rw [he] at h; simp only at h ⊢; exact ih _ _ h
    ·rw [Y9 c5] at h; simp at h
   ·rw [Y9 c4] at h ⊢;exact ih _ _ h
theorem Z8v (text:ByteArray) (a b:Nat):(text.extract a b).size≤text.size:=by
 rw [ByteArray.size_extract]; omega
theorem Zin {text:ByteArray} {j k:Nat} {t:Tok} (h:Z15 text j=.ok (t,k)):t.text.size≤text.size + 500:=by
 have hx:=Z8v text;unfold Z15 at h;simp only at h;split at h
 ·split at h
  ·simp only [Except.ok.injEq,Prod.mk.injEq] at h;obtain ⟨rfl,_⟩:=h;have:=hx j (Zy Z4h text (text.size - j) j); simp only; omega
  ·split at h;·cases h
   ·simp only [Except.ok.injEq,Prod.mk.injEq] at h;obtain ⟨rfl,_⟩:=h;have:=hx j (Zy Z4h text (text.size - j) j); simp only; omega
 ·split at h
  ·split at h;·cases h
   ·split at h;·cases h
    ·simp only [Except.ok.injEq,Prod.mk.injEq] at h;obtain ⟨rfl,_⟩:=h;exact Yp _
  ·split at h
   ·split at h;·cases h
    ·split at h;·cases h
     ·rename_i _ h2;simp only [Except.ok.injEq,Prod.mk.injEq] at h;obtain ⟨rfl,_⟩:=h;have h3:=Zcx text (text.size + 1 - (j + 1)) (j + 1) [] (by simpa [Z0f] using h2);have h4:(⟨(Z0f text (j + 1)).1.toArray⟩:ByteArray).size=(Z0f text (j + 1)).1.length:=by
       show (Z0f text (j + 1)).1.toArray.size=_;simp
      simp only;rw [h4];have h5:(Z0f text (j + 1)).1.length≤500:=h3;omega
   ·split at h;·cases h
    ·simp only [Except.ok.injEq,Prod.mk.injEq] at h;obtain ⟨rfl,_⟩:=h;have:=hx j (j + Zs text j); simp only; omega
theorem Zk1 {text:ByteArray} {j k:Nat} {t:Tok} (hj:j < text.size) (h:Z15 text j=.ok (t,k)):t.kind=5→t.text≠⟨#[43,45]⟩:=by
 intro hk he;obtain ⟨_,_,h5⟩:=Z7n h;obtain ⟨ht,hl⟩:=h5 hk;have hle:(text.extract j (j + Zs text j)).size≤Zs text j:=by rw [ByteArray.size_extract]; omega
 have hsz:t.text.size=2:=by rw [he]; rfl
 have h2:2≤Zs text j:=by rw [← ht] at hle; omega
 have hp:Z8 t.text 0=Z8 text j:=by
  rw [ht];by_cases hk:j + Zs text j≤text.size;·rw [Zq text (by omega) hk]; rfl
  ·have e:text.extract j (j + Zs text j)=text.extract j text.size:=by
    apply ByteArray.ext;simp only [ByteArray.data_extract];apply Array.ext
    ·simp only [Array.size_extract];have:text.size=text.data.size:=rfl;omega
    ·intro i h1 h2; simp only [Array.getElem_extract]
   rw [e,Zq text (by omega) (Y5 _)]; rfl
 have h43:Z8 text j=43:=by rw [← hp,he]; decide
 have h1:Zs text j=1:=by
  unfold Zs;rw [Y9 (by rw [h43]; intro h; exact absurd h.1 (by decide)),Y9 (by rw [h43]; intro h; exact absurd h.1 (by decide)),Y9 (by rw [h43]; intro h; exact absurd h.1 (by decide))]
 omega
theorem Zfq {text:ByteArray}:∀ (r:List Tok) (i:Nat),i≤text.size→Zgh text i r→(∀ t∈r,t.kind=5→t.text≠⟨#[43,45]⟩)∧∀ t∈r,t.text.size≤text.size + 500:=by
 intro r;induction r with
 | nil=>intro i _ h; exact h.elim
 | cons t r ih =>
   intro i hi h;cases r with
   | nil =>
     obtain ⟨h1,h2⟩:=h;refine ⟨fun x hx=>?_,fun x hx=>?_⟩
     ·simp only [List.mem_singleton] at hx;subst hx;rw [h2];exact fun h=>by simp at h
     ·simp only [List.mem_singleton] at hx;subst hx;rw [h2];exact Yp _
   | cons u r =>
     obtain ⟨k,h1,h2,h3⟩:=h;obtain ⟨c1,c2,_⟩:=Z3j text h1 h2;obtain ⟨h7,h8⟩:=ih k c2 h3;refine ⟨fun x hx=>?_,fun x hx=>?_⟩
     ·rcases List.mem_cons.1 hx with rfl | hx;·exact Zk1 h1 h2
      ·exact h7 x hx
     ·rcases List.mem_cons.1 hx with rfl | hx;·exact Zin h2
      ·exact h8 x hx
end Go.Proofs.YtajomcjaljakhaaGreatDoor
