/- The document's parser: a statement; all of the reader, by the fuel. -/
import Derived.Test.YtajomcjaljakhaaGreatDoorJ31
import Derived.Test.YtajomcjaljakhaaGreatDoorJ34
import Derived.Test.YtajomcjaljakhaaGreatDoorJ35
import Derived.Test.YtajomcjaljakhaaGreatDoorJ37
import Derived.Test.YtajomcjaljakhaaGreatDoorJ40
import Derived.OwnWalk
import Derived.Lib.LaidTab
import Derived.LaidMore
import Derived.Stop.Joined
namespace Go.Proofs.YtajomcjaljakhaaGreatDoor
open Go Go.RowKit
set_option maxRecDepth 100000
set_option maxHeartbeats 20000000
set_option linter.unusedVariables false
theorem Zlv (f:Nat) (hBr:Z16 56 (Zb2 false) (.braces false) f) (hFn:∀ s,Z16 59 (fArg 5 s) (.func 5 s) f) (hH:Z16 60 qd .head f) (hS2:Z16 61 qd .stmt2 f) (hV:Z16 63 qd .value f):Z16 27 qd .stmt (f + 1):=by
 intro w C B d σ t σ' hQ hr hB hdf hp;rw [refF] at hp;by_cases c:30 < d
 ·rw [Yb c] at hp;obtain ⟨rfl, rfl⟩ : gT = t ∧ Z32 4 σ = σ' := by simpa using hp
  exact Zhl w C B d σ hQ hr hB c (by omega)
 rw [Y9 c] at hp;have hd:d≤30:=by omega
 by_cases n1:Ze Zc σ=true
 ·rw [Yb n1] at hp;exact Zd4 f hBr w C B d σ t σ' hQ hr hB hd hdf n1 hp
 rw [Y9 n1] at hp;by_cases n2:Ze Zh σ=true
 ·rw [Yb n2] at hp;obtain ⟨rfl, rfl⟩ : Tree.mk 16 ByteArray.empty 0 [] = t ∧ advR σ = σ' := by simpa using hp
  exact Zhf w C B d σ hQ hr hB hd n2
 rw [Y9 n2] at hp;by_cases n3:Ze Z9 σ=true
 ·rw [Yb n3] at hp;exact Zb1 f hFn w C B d σ t σ' hQ hr hB hd hdf (fun s h=>Z2d n3 (Ne.symm h)) n3 hp
 rw [Y9 n3] at hp;by_cases n4:Ze s_if σ=true
 ·rw [Yb n4] at hp;obtain ⟨x, σ1, hx, hp⟩ := Zf hp;obtain ⟨y, σ2, hy, hp⟩ := Zf hp;by_cases n5 : Ze Z59 σ2 = true
  ·rw [Yb n5] at hp;obtain ⟨z, σ3, hz, hp⟩ := Zf hp;obtain ⟨rfl, rfl⟩ : Tree.mk 7 ByteArray.empty 0 [x, y, z] = t ∧ σ3 = σ' := by simpa using hp
   exact Zd9 f hH hS2 x y z σ1 σ2 w C B d σ _ _ hQ hr hB hd hdf (fun s h=>Z2d n4 (Ne.symm h)) n4 rfl n5 hx hy hz
  ·rw [Y9 n5] at hp;obtain ⟨rfl, rfl⟩ : Tree.mk 7 ByteArray.empty 0 [x, y] = t ∧ σ2 = σ' := by simpa using hp
   exact Zkq f hH hS2 x y σ1 w C B d σ _ _ hQ hr hB hd hdf (fun s h=>Z2d n4 (Ne.symm h)) n4 rfl (by simpa using n5) hx hy
 rw [Y9 n4] at hp;by_cases n5:(Ze Zu σ || Ze Z05 σ)=true
 ·rw [Yb n5] at hp;obtain ⟨x, σ1, hx, hp⟩ := Zf hp;obtain ⟨y, σ2, hy, hp⟩ := Zf hp;by_cases n6 : Ze Z05 σ = true
  ·rw [Yb n6] at hp;obtain ⟨rfl, rfl⟩ : Tree.mk 9 ByteArray.empty 0 [x, y] = t ∧ σ2 = σ' := by simpa using hp
   exact Zi6 f hH hS2 x y σ1 w C B d σ _ _ hQ hr hB hd hdf (fun s h=>Z2d n6 (Ne.symm h)) n6 rfl hx hy
  ·rw [Y9 n6] at hp;obtain ⟨rfl, rfl⟩ : Tree.mk 8 ByteArray.empty 0 [x, y] = t ∧ σ2 = σ' := by simpa using hp
   have n7:Ze Zu σ=true:=by
    simp only [Bool.or_eq_true] at n5;exact n5.resolve_right n6
   exact Zf4 f hH hS2 x y σ1 w C B d σ _ _ hQ hr hB hd hdf (fun s h=>Z2d n7 (Ne.symm h)) n7 rfl hx hy
 rw [Y9 n5] at hp;simp only [Bool.or_eq_true,not_or] at n5;by_cases n7:Ze Z26 σ=true
 ·rw [Yb n7] at hp;have hsee : ∀ s : ByteArray, s ≠ Z26 → Ze s σ = false := fun s h => Z2d n7 (Ne.symm h);obtain ⟨b, σ1, hb, hp⟩ := Zf hp;by_cases m1 : Ze Z2e σ1 = true
  ·simp only [if_pos m1] at hp;obtain ⟨c', σ2, hc, hp⟩ := Zf hp;by_cases m2 : Ze Zx σ2 = true
   ·simp only [if_pos m2] at hp;obtain ⟨e', σ3, he, hp⟩ := Zf hp;obtain ⟨rfl, rfl⟩ : Tree.mk 12 ByteArray.empty 0 [b, .mk 13 (Zk (Z0a Z07 (advR σ1))).1 0 [c'], .mk 14 ByteArray.empty 0 [e']] = t ∧ σ3 = σ' := by simpa [tryF] using hp
    exact Z8k f hBr b σ1 w C B d σ _ _ hQ hr hB hd hdf hsee n7 hb (.inr (.inr (.inr ⟨c',e',σ2,m1,m2,rfl,hc,he⟩)))
   ·simp only [if_neg m2] at hp;obtain ⟨rfl, rfl⟩ : Tree.mk 12 ByteArray.empty 0 [b, .mk 13 (Zk (Z0a Z07 (advR σ1))).1 0 [c']] = t ∧ σ2 = σ' := by simpa [tryF] using hp
    exact Z8k f hBr b σ1 w C B d σ _ _ hQ hr hB hd hdf hsee n7 hb (.inr (.inr (.inl ⟨c',m1,by simpa using m2,rfl,hc⟩)))
  ·simp only [if_neg m1] at hp;by_cases m2 : Ze Zx σ1 = true
   ·simp only [if_pos m2] at hp;obtain ⟨e', σ3, he, hp⟩ := Zf hp;obtain ⟨rfl, rfl⟩ : Tree.mk 12 ByteArray.empty 0 [b, .mk 14 ByteArray.empty 0 [e']] = t ∧ σ3 = σ' := by simpa [tryF] using hp
    exact Z8k f hBr b σ1 w C B d σ _ _ hQ hr hB hd hdf hsee n7 hb (.inr (.inl ⟨e',by simpa using m1,m2,rfl,he⟩))
   ·simp only [if_neg m2] at hp;obtain ⟨rfl, rfl⟩ : Tree.mk 12 ByteArray.empty 0 [b] = t ∧ Z32 3 σ1 = σ' := by simpa [tryF] using hp
    exact Z8k f hBr b σ1 w C B d σ _ _ hQ hr hB hd hdf hsee n7 hb (.inl ⟨by simpa using m1,by simpa using m2,rfl,rfl⟩)
 rw [Y9 n7] at hp;by_cases n8:Ze Z1a σ=true
 ·have hdk : Z3z σ = 2 := by simp [Z3z, n8]
  have hsee:∀ s:ByteArray,s≠Z1a→Ze s σ=false:=fun s h=>Z2d n8 (Ne.symm h);rw [hdk,Yb (by decide)] at hp;have hmq:Z1t 2 (Zk (advR σ)).2=(Zk (advR σ)).2:=by simp [Z1t]
  rw [hmq] at hp;exact Zir f hV w C B d σ t σ' hQ hr hB hd hdf hsee n8 hp
 by_cases n9:Ze Z1h σ=true
 ·have hdk : Z3z σ = 3 := by simp [Z3z, n8, n9]
  have hsee:∀ s:ByteArray,s≠Z1h→Ze s σ=false:=fun s h=>Z2d n9 (Ne.symm h);rw [hdk,Yb (by decide)] at hp;have hmq:Z1t 3 (Zk (advR σ)).2=(Zk (advR σ)).2:=by simp [Z1t]
  rw [hmq] at hp;exact Zja f hV w C B d σ t σ' hQ hr hB hd hdf hsee n9 hp
 by_cases n10:Ze Z01 σ=true
 ·have hdk : Z3z σ = 4 := by simp [Z3z, n8, n9, n10]
  have hsee:∀ s:ByteArray,s≠Z01→Ze s σ=false:=fun s h=>Z2d n10 (Ne.symm h);rw [hdk,Yb (by decide)] at hp;exact Zfy f hV w C B d σ t σ' hQ hr hB hd hdf hsee n10 hp
 by_cases n11:Ze Z0d σ=true
 ·have hdk : ¬ Z3z σ ≠ 0 := by simp [Z3z, n8, n9, n10]
  rw [Y9 hdk,Yb n11] at hp;have hsee:∀ s:ByteArray,s≠Z0d→Ze s σ=false:=fun s h=>Z2d n11 (Ne.symm h);by_cases m1:Ze Zh (advR σ)=true
  ·rw [Yb m1] at hp;obtain ⟨rfl, rfl⟩ : Tree.mk 10 ByteArray.empty 0 [] = t ∧ Z0a Zh (advR σ) = σ' := by simpa using hp
   exact Zbo f w C B d σ _ _ hQ hr hB hd hdf hsee n11 rfl rfl m1
  ·rw [Y9 m1] at hp;obtain ⟨x, σ1, hx, hp⟩ := Zf hp;obtain ⟨rfl, rfl⟩ : Tree.mk 10 ByteArray.empty 0 [x] = t ∧ Z0a Zh σ1 = σ' := by simpa using hp
   exact Zbe f hV x σ1 w C B d σ _ _ hQ hr hB hd hdf hsee n11 rfl rfl (by simpa using m1) hx
 have hdk:¬ Z3z σ≠0:=by simp [Z3z,n8,n9,n10]
 rw [Y9 hdk,Y9 n11] at hp;by_cases n12:Ze Z1n σ=true
 ·rw [Yb n12] at hp;obtain ⟨x, σ1, hx, hp⟩ := Zf hp;obtain ⟨rfl, rfl⟩ : Tree.mk 11 ByteArray.empty 0 [x] = t ∧ Z0a Zh σ1 = σ' := by simpa using hp
  exact Zfj f hV x σ1 w C B d σ _ _ hQ hr hB hd hdf (fun s h=>Z2d n12 (Ne.symm h)) n12 rfl rfl hx
 rw [Y9 n12] at hp;obtain ⟨x,σ1,hx,hp⟩:=Zf hp;obtain ⟨rfl,rfl⟩:Tree.mk 15 ByteArray.empty 0 [x]=t∧Z0a Zh σ1=σ':=by simpa using hp
 refine Zht f hV x σ1 w C B d σ _ _ hQ hr hB hd hdf (fun s h=>?_) rfl rfl hx;simp only [List.mem_cons,List.not_mem_nil,or_false] at h;rcases h with rfl | rfl | rfl | rfl | rfl | rfl | rfl | rfl | rfl | rfl | rfl | rfl;·simpa using n1
 ·simpa using n2
 ·simpa using n3
 ·simpa using n4
 ·simpa using n5.1
 ·simpa using n5.2
 ·simpa using n7
 ·simpa using n8
 ·simpa using n9
 ·simpa using n10
 ·simpa using n11
 ·simpa using n12
structure AllQ (f:Nat):Prop where
 br:∀ b,Z16 56 (Zb2 b) (.braces b) f
 st:Z16 27 qd .stmt f
 st2:Z16 61 qd .stmt2 f
 hd:Z16 60 qd .head f
 fn:∀ k s,Z16 59 (fArg k s) (.func k s) f
 va:Z16 63 qd .value f
 si:Z16 116 qd .single f
 fi:Z16 129 qd .first f
theorem Z16.zero (F:FuncId) (args:Nat→Nat→Array Value) (job:RJob):Z16 F args job 0:=by
 intro w C B d σ t σ' _ _ _ _ hp;rw [refF] at hp;cases hp
theorem Zme (f:Nat):AllQ f:=by
 induction f using Nat.strongRecOn with
 | _ f ih=>
 cases f with
 | zero=>exact ⟨fun b=>.zero _ _ _,.zero _ _ _,.zero _ _ _,.zero _ _ _,fun k s=>.zero _ _ _,.zero _ _ _,.zero _ _ _,.zero _ _ _⟩
 | succ f =>
   have h:=ih f (by omega);refine ⟨fun b=>?_,Zlv f (h.br false) (fun s=>h.fn 5 s) h.hd h.st2 h.va,Zl3 f h.st,Zm8 f h.va,fun k s=>Zly f k s (h.br true),?_,?_,?_⟩
   ·cases b with
    | false=>exact Z9x f fun g hg=>(ih g (by omega)).st
    | true=>exact Zb7 f fun g hg=>(ih g (by omega)).st
   ·exact Zl4 f (Zh0 f (fun g hg=>(ih g (by omega)).si) 0 (by omega) f (by omega)) h.va
   ·exact Zji f h.si h.fi fun g hg=>(ih g (by omega)).va
   ·exact Zko f h.hd (fun g hg=>(ih g (by omega)).va) fun s=>h.fn 37 s
theorem Zdo (text:ByteArray) (j:Nat) (e:Int×Nat) (h:Z15 text j=.error e):e.1≠0:=by
 unfold Z15 at h;simp only at h;split at h
 ·split at h;·cases h
  ·split at h;·cases h; simp
   ·cases h
 ·split at h
  ·split at h;·cases h; simp
   ·split at h;·cases h; simp
    ·cases h
  ·split at h
   ·split at h;·cases h; simp
    ·split at h;·cases h; simp
     ·cases h
   ·split at h;·cases h; simp
    ·cases h
theorem Zfi (text:ByteArray):∀ (f i:Nat) (acc:List Tok) (e:Int×Nat),lexF text f i acc=.error e→e.1≠0:=by
 intro f;induction f with
 | zero=>intro i acc e h; simp [lexF] at h
 | succ f ih =>
   intro i acc e h;simp only [lexF] at h;split at h;·cases h
   ·split at h
    ·rename_i e' ht;cases h;exact Zdo text _ _ ht
    ·exact ih _ _ _ h
theorem Zbf (w:World) (text:ByteArray) (hm:3000 < text.size) :
 Calls Tryz.prog 25 #[.string text] w fun e w'=>e=.returned (.tuple #[.slice none 0 0,.agg #[.int .i64 4,.int .i64 (-1)]])∧Below w.heap.size w w':=by
 have hmI:(3000:Int) < (text.size:Int):=by omega
 have hst:RMid w (w.alloc (.cells #[.int .i64 0,.int .i64 0] 33)) (.slice none 0 0) []:=⟨(Go.MapKept.heap_alloc w _).1,(Y8 _ _).alloc (Y5 _) _,World.ownsRow_nil _ _ _ _⟩
 have ST:=lh hst;have HB:=lh (Zc7 (w.alloc (.cells #[.int .i64 0,.int .i64 0] 33)) 4);clear hst hm;go_enter Tryz.func25,Tryz.ntmps25
 go_wp2_with fail
 refine HB.out.mono ?_;rintro e w1 ⟨rfl,hb⟩;have HM:=lh (ST.out.on hb);have z0:w1.cell? ⟨w.heap.size,0,none⟩=some (.int .i64 0):=by simp [World.cell?,HM.out.blk]
 have z1:w1.cell? ⟨w.heap.size,1,none⟩=some (.int .i64 0):=by simp [World.cell?,HM.out.blk]
 have y0:w1.frozen? ⟨w.heap.size,0,none⟩=false:=by simp [World.frozen?,HM.out.blk]
 have y1:w1.frozen? ⟨w.heap.size,1,none⟩=false:=by simp [World.frozen?,HM.out.blk]
 have EP:=lh (HM.out.put (.int .i64 4) (.int .i64 (-1)));have EF:=lh (HM.out.fin (.int .i64 4) (.int .i64 (-1)));clear hb HB;go_wp2;refine bodyPost_ret (rres (cb:=w.heap.size) rfl rfl EP.out.1 EP.out.2) rfl ?_;exact ⟨rfl,EF.out.2⟩
theorem Zal (w:World) (text:ByteArray) (c p:Int) (hc:c≠0)
 (HC:∀ w0,Below w.heap.size w w0→Calls Tryz.prog 25 #[.string text] w0 fun e w'=>e=.returned (.tuple #[.slice none 0 0,.agg #[.int .i64 c,.int .i64 p]])∧Below w0.heap.size w0 w') :
 Calls Tryz.prog 8 #[.string text] w (Z7i w (.error (c,p))):=by
 obtain ⟨w0,hw0⟩:=zX (w.alloc (.cells #[.int .i64 0,.int .i64 0] 33))
 have hal:Below w.heap.size w w0:=by rw [hw0]; exact (Y8 _ _).alloc (Y5 _) _
 have hs0:w0.heap.size=w.heap.size + 1:=by rw [hw0]; simp
 have hA0:w0.heap[w.heap.size]?=some (.cells #[.int .i64 0,.int .i64 0] 33 (0,0)):=by rw [hw0]; exact heap_alloc_new _ _
 have HT:=lh (HC w0 hal);have nc:(c != 0)=true:=by simpa using hc
 have HCC:=lh hc;have HAL:=lh hal;have HS0:=lh hs0;have HA0:=lh hA0;have HW0:=lh hw0;clear hw0 hal hs0 hA0 HC hc;go_enter Tryz.func8,Tryz.ntmps8
 go_wp2_with fail
 rw [← HW0.out];refine HT.out.mono ?_;rintro e w1 ⟨rfl,hB⟩;obtain ⟨ab,hab⟩:=zX w.heap.size
 have hA1:w1.heap[ab]?=some (.cells #[.int .i64 0,.int .i64 0] 33 (0,0)):=by rw [hab]; exact (hB.block w.heap.size (by rw [HS0.out]; omega)).trans HA0.out
 obtain ⟨w2,hw2⟩:=zX (w1.alloc (.cells #[.int .i64 c,.int .i64 p] 33))
 have h12:Below w1.heap.size w1 w2:=by rw [hw2]; exact (Y8 _ _).alloc (Y5 _) _
 have hf2:w2.heap[w1.heap.size]?=some (.cells #[.int .i64 c,.int .i64 p] 33 (0,0)):=by rw [hw2]; exact heap_alloc_new _ _
 have hA2:w2.heap[ab]?=some (.cells #[.int .i64 0,.int .i64 0] 33 (0,0)):=(h12.block ab (Y6.1 hA1).1).trans hA1;have f0:w2.cell? ⟨w1.heap.size,0,none⟩=some (.int .i64 c):=by simp [World.cell?,hf2]
 have f1:w2.cell? ⟨w1.heap.size,1,none⟩=some (.int .i64 p):=by simp [World.cell?,hf2]
 have x0:w2.cell? ⟨ab,0,none⟩=some (.int .i64 0):=by simp [World.cell?,hA2]
 have x1:w2.cell? ⟨ab,1,none⟩=some (.int .i64 0):=by simp [World.cell?,hA2]
 have xz0:w2.frozen? ⟨ab,0,none⟩=false:=by simp [World.frozen?,hA2]
 have xz1:w2.frozen? ⟨ab,1,none⟩=false:=by simp [World.frozen?,hA2]
 have HA2:=lh hA2;have HW2:=lh hw2;have HAB:=lh hab;have BEL:=lh ((HAL.out.trans (hB.mono HAL.out.size)).trans (h12.mono (by have:=HS0.out; have:=hB.size; omega)));clear hB hA1 hw2 h12 hf2 hA2 hab HT;go_wp2_with fail
 rw [← HW2.out,← HAB.out];refine Z0 [(true,0),(true,1)] [2] (fun W=>W.cell? ⟨w1.heap.size,0,none⟩=some (.int .i64 c)∧W.cell? ⟨w1.heap.size,1,none⟩=some (.int .i64 p)) (by kernel_rfl) (by kernel_rfl) (fun _ _ d _ _ h=>by cases d <;> exact h) ⟨f0,f1⟩ (fun hS0=>?_);simp only [Za,zD,zE,zF,zG,zH,zI]
 iterate 2
  first
   | (refine Z1 ?_ (by rfl) (fun w' hS'=>?_) ?_; rotate_left; (obtain ⟨s0,s1⟩:=hS'; go_simp; first | done | with_reducible rfl); simp only [Act.put,zA,zB,zC])
   | (refine Z2 (by rfl) ?_; simp only [Act.put,zA,zB,zC])
 refine Z4 ?_;go_wp2;have hput:=put2 HA2.out (.int .i64 c) (.int .i64 p);refine bodyPost_ret (Zip (cb:=ab) (v:=.pointer none) rfl rfl hput.1 hput.2) rfl ?_;have h1:=(BEL.out.setCell (p:=⟨ab,0,none⟩) (by rw [HAB.out]; exact Y5 _) (.int .i64 c)).setCell (p:=⟨ab,1,none⟩) (by rw [HAB.out]; exact Y5 _) (.int .i64 p);exact ⟨by first | exact h1 | exact h1.drew,HCC.out,rfl⟩
theorem Zfz (w:World) (text:ByteArray) (hW:Z6g w) (hF:Z6h w) :
 Calls Tryz.prog 8 #[.string text] w (Z7i w (Z0g text)):=by
 by_cases hm:3000 < text.size
 ·have e : Z0g text = .error (4, -1) := by unfold Z0g; rw [Yb hm]
  rw [e];exact Zal w text 4 (-1) (by decide) fun w0 _=>Zbf w0 text hm
 ·cases ht : Z5s text with
  | ok ts=>exact Zd2 (fun g=>(Zme g).st) w text (by omega) hW hF ts ht
  | error x =>
    obtain ⟨c,p⟩:=x;have e:Z0g text=.error (c,(p:Int)):=by unfold Z0g; rw [Y9 hm,ht]
    rw [e];refine Zal w text c p (Zfi text _ _ _ (c,p) ht) fun w0 hb=>?_;have HC:=Z9c w0 text (by omega) (hW.below hb) (hF.below hb);rw [ht] at HC;exact HC
theorem Z72 {text:ByteArray} {t:Tree} (h:Z0g text=.ok t):t.many≤1500:=by
 unfold Z0g at h;split at h;·cases h
 ·split at h;·cases h
  ·split at h;·cases h
   ·cases h
   ·split at h;·cases h
    ·have e := by simpa using h
     subst e;omega
theorem Got.belowG {w0 w w':World} {B:Nat} {a:ATree} {t:Tree} (G:Got w0 B w a t) (h:Below w.heap.size w w'):Got w0 B w' a t:=
 ⟨G.tree,G.at'.bel h,G.nodup,fun x hx=>⟨(G.new x hx).1,Ye (G.new x hx).2 h.size⟩⟩
theorem Got.preG {w0 w1 w:World} {B B':Nat} {a:ATree} {t:Tree} (G:Got w1 B w a t) (h:w0.heap.size≤w1.heap.size) (hB:B'≤B):Got w0 B' w a t:=
 ⟨G.tree,G.at'.base hB,G.nodup,fun x hx=>⟨Ya h (G.new x hx).1,(G.new x hx).2⟩⟩
theorem Z3m.belowL {w w':World} (h:Z3m w w.heap.size) (hB:Below w.heap.size w w'):Z3m w' w'.heap.size:=
 Z3m.mono (h.keep (w':=w') fun k hk=>hB.block k hk) hB.size
def Zjz (w:World) (r:Except (Int×Int) Tree) (e:Ending) (w':World):Prop:=
 Below w.heap.size w w'∧match r with
 | .ok t=>∃ a b,e=.returned (.tuple #[a.ptr,b.ptr,.bool true])∧Got w w.heap.size w' a t∧Got w w.heap.size w' b t
 | .error _=>e=.returned (.tuple #[.pointer none,.pointer none,.bool false])
theorem Zk0 (w:World) (text:ByteArray) (hW:Words w) (hL:Z3m w w.heap.size) (hR:Z6g w) (hF:Z6h w) :
 Calls Tryz.prog 4 #[.string text] w (Zjz w (Z0g text)):=by
 by_cases hm:3000 < text.size
 ·have e : Z0g text = .error (4, -1) := by unfold Z0g; rw [Yb hm]
  rw [e];have hmI:decide ((text.size:Int) > 3000)=true:=by simp; omega
  clear e hm hW hL hR hF;go_enter Tryz.func4,Tryz.ntmps4
  go_wp2;go_ret3
  exact ⟨Y8 _ _,rfl⟩
 have hmI:decide ((text.size:Int) > 3000)=false:=by simp; omega
 have HR:=Zfz w text hR hF;cases hr:Z0g text with
 | error x =>
   obtain ⟨c,p⟩:=x;rw [hr] at HR;have HR:=lh HR;clear hm hW hL hR hF hr;go_enter Tryz.func4,Tryz.ntmps4
   go_wp2_with fail
   refine HR.out.mono ?_;rintro e w1 ⟨hb,hc,rfl⟩;have nc:(c != 0)=true:=by simpa using hc
   have BEL:=lh (hb.trans (((Y8 w1.heap.size w1).alloc (Y5 _) (.cells #[.int .i64 c,.int .i64 p] 33)).mono hb.size));clear hb hc HR;go_wp2;go_ret3
   exact ⟨BEL.out,rfl⟩
 | ok t =>
   rw [hr] at HR;have hmn:=Z72 hr;have HP:=lh (fun (w1:World) (hb:Below w.heap.size w w1)=>Zh1 w1 text (hW.below hb) (hL.belowL hb));rw [hr] at HP;have HR:=lh HR;have HMN:=lh hmn;clear hm hW hL hR hF hr hmn;go_enter Tryz.func4,Tryz.ntmps4
   go_wp2_with fail
   refine HR.out.mono ?_;rintro e w1 ⟨hb,b,rfl,hG⟩;have hal:=(Y8 w1.heap.size w1).alloc (Y5 _) (.cells #[.int .i64 0,.int .i64 (-1)] 33);obtain ⟨w2,hw2⟩:=zX (w1.alloc (.cells #[.int .i64 0,.int .i64 (-1)] 33))
   rw [← hw2] at hal;have G2:=lh (hG.belowG hal);have B2:=lh (hb.trans (hal.mono hb.size));have HPA:=lh (HP.out w2 B2.out);have HW2:=lh hw2;unfold ATree.ptr;clear hb hG hal hw2 HR HP;go_wp2_with fail
   rw [← HW2.out];refine HPA.out.mono ?_;rintro e w3 ⟨hb3,a,rfl,hA⟩;have G3:=lh (G2.out.belowG hb3);have A3:=lh (hA.preG (w0:=w) (B':=w.heap.size) B2.out.size B2.out.size);have B3:=lh (B2.out.trans (hb3.mono B2.out.size));have hma:a.many=t.many:=by rw [← Z5c,hA.tree]
   have HS:=lh (Ziw _ a b (Y5 _) (by have:=HMN.out; omega) (hA.tree.trans G2.out.tree.symm) w3 _ _ A3.out.at' G3.out.at');unfold ATree.ptr at HS;clear hb3 hA hma HPA;go_wp2_with fail
   refine HS.out.mono ?_;rintro e w4 ⟨rfl,hb4⟩;have G4:=lh (G3.out.belowG hb4);have A4:=lh (A3.out.belowG hb4);have B4:=lh (B3.out.trans (hb4.mono B3.out.size));clear hb4 HS;go_wp2;go_ret3
   exact ⟨B4.out,a,b,rfl,A4.out,G4.out⟩
end Go.Proofs.YtajomcjaljakhaaGreatDoor
namespace Go.Proofs.YtajomcjaljakhaaGreatDoor
open Go.RowKit Go.Extern.Stop Go.Stop Go.Extern
set_option maxRecDepth 100000
set_option maxHeartbeats 20000000
end Go.Proofs.YtajomcjaljakhaaGreatDoor
namespace Go.Proofs.YtajomcjaljakhaaGreatDoor
open Go Go.RowKit Go.Extern.Stop Go.Stop Go.Extern
set_option maxRecDepth 100000
set_option maxHeartbeats 20000000
set_option linter.unusedVariables false
theorem Tryz.assertPl2 (v:Value) (w:World):(Instr.typeAssert (.iface 29 v) 27 102 true).run Tryz.prog w=.ok (.tuple #[.pointer none,.bool false]) w:=by kernel_rfl
theorem Tryz.assertPl3 (v:Value) (w:World):(Instr.typeAssert (.iface 29 v) 27 112 true).run Tryz.prog w=.ok (.tuple #[.nilIface,.bool false]) w:=run_typeAssert_lacksB Tryz.underlying112 (by kernel_rfl) (by kernel_rfl) _ _ w
theorem Zdv (w:World) (c:Int) (hc:c≠0) (hg:Z3p w) :
 Calls Tryz.prog 35 #[.iface 29 (.int .i64 c)] w fun e w'=>e=.returned (.tuple #[.int .i64 c,.int .i64 (-1)])∧Below w.heap.size w w':=by
 have ht:=Ze8 w c hg;rw [show errV c=.iface 29 (.int .i64 c) by unfold errV; rw [Y9 hc]] at ht;have HT:=lh ht;have a2:=Tryz.assertPl2;have a3:=Tryz.assertPl3;clear hg ht hc;go_enter Tryz.func35,Tryz.ntmps35
 go_wp2_with fail
 refine HT.out.mono ?_;rintro e w1 ⟨rfl,hB⟩;have HB:=lh hB;clear hB HT;go_wp2_with fail
 refine wp_loop_rounds 1 ?_;rw [rounds_succ];go_wp2;go_ret2
 exact ⟨rfl,HB.out⟩
theorem Zlt (w:World) (v:Value) (c p:Int)
 (HP:Hid (∀ W,Below w.heap.size w W→Calls Tryz.prog 35 #[v] W fun e w'=>e=.returned (.tuple #[.int .i64 c,.int .i64 p])∧Below W.heap.size W w')) :
 Calls Tryz.prog 11 #[v,.agg #[.int .i64 c,.int .i64 p]] w fun e w'=>e=.returned (.bool true)∧Below w.heap.size w w':=by
 have hb:Below w.heap.size w (w.alloc (.cells #[.int .i64 c,.int .i64 p] 33)):=(Y8 _ _).alloc (Y5 _) _;have HB:=lh hb;clear hb;go_enter Tryz.func11,Tryz.ntmps11
 go_wp2_with fail
 refine (HP.out _ HB.out).mono ?_;rintro e w1 ⟨rfl,hB⟩;have hsz:w.heap.size < (w.alloc (.cells #[.int .i64 c,.int .i64 p] 33)).heap.size:=by simp
 have z0:w1.cell? ⟨w.heap.size,0,none⟩=some (.int .i64 c):=(Yj (hB.block w.heap.size hsz)).trans (by simp);have z1:w1.cell? ⟨w.heap.size,1,none⟩=some (.int .i64 p):=(Yj (hB.block w.heap.size hsz)).trans (by simp);have HB1:=lh (HB.out.trans (hB.mono HB.out.size));clear hB hsz;go_wp2;go_ret;exact ⟨rfl,HB1.out⟩
theorem Zj7 {w':World} {tmps:Array Value} {cb:Nat} {x y:Value} (h3:tmps.getD 2 undef=.pointer (some ⟨cb,0,none⟩)) (hx:w'.cell? ⟨cb,0,none⟩=some x) (hy:w'.cell? ⟨cb,1,none⟩=some y) :
 (results Tryz.f12 tmps).run Tryz.prog w'=.ok (.agg #[x,y]) w':=by
 have h3':tmps[2]?.getD undef=.pointer (some ⟨cb,0,none⟩):=by simpa using h3
 simp [results,go_sem,h3',hx,hy]
theorem Zk3 (w:World) (c:Int) :
 Calls Tryz.prog 12 #[.int .i64 c] w fun e w'=>e=.returned (.agg #[.int .i64 c,.int .i64 (-1)])∧Below w.heap.size w w':=by
 have hb:Below w.heap.size w (w.alloc (.cells #[.int .i64 c,.int .i64 (-1)] 33)):=(Y8 _ _).alloc (Y5 _) _;have HB:=lh hb;clear hb;go_enter Tryz.func12,Tryz.ntmps12
 go_wp2;refine bodyPost_ret (Zj7 (cb:=w.heap.size) (x:=.int .i64 c) (y:=.int .i64 (-1)) rfl (by simp) (by simp)) rfl ?_;exact ⟨rfl,HB.out⟩
theorem Zg5 (w:World) (hg:Z3p w) :
 Calls Tryz.prog 35 #[.nilIface] w fun e w'=>e=.returned (.tuple #[.int .i64 0,.int .i64 (-1)])∧Below w.heap.size w w':=by
 have HT:=lh (Ze8 w 0 hg);clear hg;go_enter Tryz.func35,Tryz.ntmps35
 go_wp2_with fail
 refine HT.out.mono ?_;rintro e w1 ⟨rfl,hB⟩;have HB:=lh hB;clear hB HT;go_wp2_with fail
 refine wp_loop_rounds 1 ?_;rw [rounds_succ];go_wp2;go_ret2
 exact ⟨rfl,HB.out⟩
theorem Zfb (w:World) (c:Int) (hg:Z3p w) :
 Calls Tryz.prog 35 #[errV c] w fun e w'=>e=.returned (.tuple #[.int .i64 c,.int .i64 (-1)])∧Below w.heap.size w w':=by
 by_cases hc:c=0;·subst hc; exact Zg5 w hg
 ·have:=Zdv w c hc hg;rwa [show errV c=.iface 29 (.int .i64 c) by unfold errV; rw [Y9 hc]]
theorem Zlh (w:World) (c:Int) (hg:Z3p w) :
 Calls Tryz.prog 5 #[errV c,.int .i64 c] w fun e w'=>e=.returned (.bool true)∧Below w.heap.size w w':=by
 have HA:=lh (fun w1 (hB:Below w.heap.size w w1)=>Zlt w1 (errV c) c (-1) (lh fun W hW=>Zfb W c ((hg.below hB).below hW)));generalize errV c=v at *;have HB0:=lh (Zk3 w c);clear hg;go_enter Tryz.func5,Tryz.ntmps5
 go_wp2_with fail
 refine HB0.out.mono ?_;rintro e w1 ⟨rfl,hB⟩;have HA1:=lh (HA.out w1 hB);have HB:=lh hB;clear hB HA HB0;go_wp2_with fail
 refine HA1.out.mono ?_;rintro e w2 ⟨rfl,hB⟩;have HB2:=lh (HB.out.trans (hB.mono HB.out.size));clear hB;go_wp2;go_ret;exact ⟨rfl,HB2.out⟩
end Go.Proofs.YtajomcjaljakhaaGreatDoor
namespace Go.Proofs.YtajomcjaljakhaaGreatDoor
open Go Go.RowKit
set_option maxRecDepth 100000
set_option maxHeartbeats 20000000
set_option linter.unusedVariables false
theorem Zhk (w:World) (st ins:Bool):Calls Tryz.prog 6 #[.pointer none,.bool st,.bool ins] w fun e w'=>e=.returned .nilIface∧Below w.heap.size w w':=by
 cases st
 all_goals
  go_enter Tryz.func6,Tryz.ntmps6
  go_wp2;go_ret;refine ⟨rfl,?_⟩
  first
   | exact Y8 _ _
   | exact (Y8 _ _).alloc (Y5 _) _
   | exact ((Y8 _ _).alloc (Y5 _) _).alloc (by simp) _
   | exact (((Y8 _ _).alloc (Y5 _) _).alloc (by simp) _).alloc (by simp; omega) _
theorem Z9r (w:World) (text:ByteArray) (st ins:Bool) (hW:Words w) (hL:Z3m w w.heap.size) (hR:Z6g w) (hF:Z6h w) (hE:Z3p w) :
 Calls Tryz.prog 3 #[.string text,.bool st,.bool ins] w fun e w'=>e=.returned (.bool true)∧Below w.heap.size w w':=by
 have HB:=Zk0 w text hW hL hR hF;cases hr:Z0g text with
 | error x =>
   rw [hr] at HB;have HB:=lh HB;clear hr hW hL hR hF hE;go_enter Tryz.func3,Tryz.ntmps3
   go_wp2_with fail
   refine HB.out.mono ?_;rintro e w1 ⟨hb,rfl⟩;have BEL:=lh hb;clear hb HB;go_wp2;go_ret;exact ⟨rfl,BEL.out⟩
 | ok t =>
   rw [hr] at HB;have HMN:=lh (Z72 hr);have HWT:=lh (Za3 hr);have HFT:=lh (Z9z hr);have HE:=lh hE;have HB:=lh HB;clear hr hW hL hR hF hE;go_enter Tryz.func3,Tryz.ntmps3
   go_wp2_with fail
   refine HB.out.mono ?_;rintro e w1 ⟨hb,a,b,rfl,hA,hG⟩;have G1:=lh hG;have B1:=lh hb;have hma:a.many≤100000:=by have:=Z5c (a:=a); rw [hA.tree] at this; have:=HMN.out; omega
   have hmb:b.many≤100000:=by have:=Z5c (a:=b); rw [hG.tree] at this; have:=HMN.out; omega
   have HMB:=lh hmb;have hwa:WT a.tree:=by rw [hA.tree]; exact HWT.out
   have HWB:=lh (show WT b.tree by rw [hG.tree]; exact HWT.out);have HFB:=lh (show FT b.tree∧b.kind=1 from by
    have h:=HFT.out;rw [← hG.tree] at h;exact ⟨h.1,by obtain ⟨bb,v,k,tt,n,ks⟩:=b; exact h.2⟩)
   have HCH:=lh (Zft w1 _ a st ins hA.at' (Zkf a hwa) (by omega));obtain ⟨c,hc⟩:=zX (Z5r a st ins)
   have HC2:=lh (show Z5r b st ins=c from by rw [hc]; exact (Zdl (hA.tree.trans hG.tree.symm) st ins).symm);rw [← hc] at HCH;obtain ⟨ev,hev⟩:=zX (errV c)
   rw [← hev] at HCH;have HEV:=lh hev;unfold ATree.ptr at HCH ⊢;clear hb hA hG HB hma hmb hwa hc hev;go_wp2_with fail
   refine HCH.out.mono ?_;rintro e w2 ⟨rfl,hb2⟩;have G2:=lh (G1.out.belowG hb2);have B2:=lh (B1.out.trans (hb2.mono B1.out.size));have HO2:=lh (Zhn w2 _ b st ins G2.out.at' HWB.out HFB.out.1 HFB.out.2 HMB.out);rw [HC2.out] at HO2;unfold ATree.ptr at HO2;clear hb2 HCH;go_wp2_with fail
   refine HO2.out.mono ?_;rintro e w3 ⟨rfl,hb3⟩;have B3:=lh (B2.out.trans (hb3.mono B2.out.size));have HO3:=lh (Zlh w3 c (HE.out.below B3.out));rw [← HEV.out] at HO3;clear hb3 HO2;go_wp2_with fail
   refine HO3.out.mono ?_;rintro e w4 ⟨rfl,hb4⟩;have B4:=lh (B3.out.trans (hb4.mono B3.out.size));have HO4:=lh (Zhk w4 st ins);clear hb4 HO3;go_wp2_with fail
   refine HO4.out.mono ?_;rintro e w5 ⟨rfl,hb5⟩;have B5:=lh (B4.out.trans (hb5.mono B4.out.size));clear hb5;go_wp2;go_ret;exact ⟨rfl,B5.out⟩
end Go.Proofs.YtajomcjaljakhaaGreatDoor
namespace Go.Proofs.YtajomcjaljakhaaGreatDoor
open Go Go.RowKit
set_option maxRecDepth 100000
set_option maxHeartbeats 20000000
theorem Za0 {H:Type} {enc:TypeId×Value→H} {P:Program} {w:World} {base:Nat} {sp:Nat→Bool} {held:Bool} {fuel:Nat} {t e:TypeId} {n:Nat} {cs:List Value} {l:List (List UInt8)} {p:List MemPlace}
 (ht:P.underlying t=some (.array n e)) (he:P.underlying e=some .string) (hce:P.cellsOf e=1) (hct:P.cellsOf t=n)
 (h:DataW.trod enc P w base sp held fuel t cs=some (.agg (l.map fun b=>.lit (.string b)),p)):cs=l.map fun b=>Value.string ⟨b.toArray⟩:=by
 cases fuel with
 | zero=>simp [DataW.trod] at h
 | succ fuel =>
   simp only [DataW.trod,ht,hce,hct,Nat.mul_one] at h;split at h
   ·rename_i hl;obtain ⟨xs,hm,hx⟩:=Option.map_eq_some_iff.1 h;have hxs:xs.map (·.1)=l.map fun b=>(DataW.lit (.string b):DataW H):=by
     have:=congrArg Prod.fst hx;simpa using this
    have hxl:xs.length=n:=by simpa using Lib.mapM_length hm
    have hzl:l.length=n:=by
     have:=congrArg List.length hxs;simp at this;omega
    apply List.ext_getElem?;intro i;by_cases hi:i < n
    ·obtain ⟨b,hb,hf⟩:=Lib.mapM_at hm i i (by simp [hi]);obtain ⟨s,hc,rfl,_⟩:=DataW.trod_string he hf;have h1:cs[i]?=some (.string s):=by
      have:=congrArg (·[0]?) hc;simpa [List.getElem?_take,List.getElem?_drop] using this
     have h2:(xs.map (·.1))[i]?=some (DataW.lit (.string s.data.toList):DataW H):=by simp [hb]
     rw [hxs] at h2;simp only [List.getElem?_map,Option.map_eq_some_iff,DataW.lit.injEq,Lit.string.injEq] at h2;obtain ⟨z',hz',hzz⟩:=h2;simp only [h1,List.getElem?_map,hz',Option.map_some,hzz]
    ·rw [List.getElem?_eq_none (by omega),List.getElem?_eq_none (by simp; omega)]
   ·cases h
theorem Zi4 {H:Type} {enc:TypeId×Value→H} {P:Program} {w:World} {base:Nat} {sp:Nat→Bool} {held:Bool} {fuel:Nat} {e:TypeId} {v:Value} {b:List UInt8} {q:List MemPlace} (he:P.underlying e=some .string)
 (h:DataW.trod enc P w base sp held fuel e [v]=some (.lit (.string b),q)):v=.string ⟨b.toArray⟩:=by
 obtain ⟨s,hc,hx,_⟩:=DataW.trod_string he h;simp only [List.cons.injEq,and_true] at hc;simp only [Prod.mk.injEq,DataW.lit.injEq,Lit.string.injEq] at hx;rw [hc,hx.1]
theorem Zb6 {P:Program} {W:World} {name:String} {d:DataW Unit} {rest:List (String×DataW Unit)} {g:Nat} {t e:TypeId} {n:Nat} {l:List (List UInt8)}
 (hg:P.globalNamed name=some g) (hty:(P.globals[g]?).map (·.type)=some t) (ht:P.underlying t=some (.array n e)) (he:P.underlying e=some .string) (hce:P.cellsOf e=1) (hct:P.cellsOf t=n)
 (hd:d=.agg (l.map fun b=>.lit (.string b))) (h:laidMet P ((name,d) :: rest) W) (i:Nat) (b:List UInt8) (hi:l[i]?=some b):W.cell? ⟨g,i,none⟩=some (.string ⟨b.toArray⟩):=by
 obtain ⟨ps,⟨g',t',cs,fuel,p,q,hg',ht',hvar,hd',_,_⟩,_⟩:=h;obtain rfl:=Yk (hg.symm.trans hg');obtain rfl:=Yk (hty.symm.trans ht');rw [hd] at hd';have hc:=Za0 ht he hce hct hd';have:=World.var?_cell hg hvar i;rw [this];have hx:cs=(l.map fun b=>Value.string ⟨b.toArray⟩).toArray:=by rw [← hc]
 rw [hx];simp [hi]
theorem Zcn {P:Program} {W:World} {name:String} {d:DataW Unit} {rest:List (String×DataW Unit)} {g:Nat} {t e:TypeId} {l:List (List UInt8)}
 (hg:P.globalNamed name=some g) (hty:(P.globals[g]?).map (·.type)=some t) (ht:P.underlying t=some (.slice e)) (he:P.underlying e=some .string) (hce:P.cellsOf e=1)
 (hd:d=.slice (l.map fun b=>.lit (.string b)) []) (hl:0 < l.length) (h:laidMet P ((name,d) :: rest) W) :
 ∃ b off cap,W.cell? ⟨g,0,none⟩=some (.slice (some ⟨b,off,none⟩) l.length cap)∧l.length≤cap∧∀ i x,l[i]?=some x→W.cell? ⟨b,off + i,none⟩=some (.string ⟨x.toArray⟩):=by
 obtain ⟨ps,⟨g',t',cs,fuel,p,q,hg',ht',hvar,hd',_,_⟩,_⟩:=h;obtain rfl:=Yk (hg.symm.trans hg');obtain rfl:=Yk (hty.symm.trans ht');rw [hd] at hd';obtain ⟨a,cap,hcs,hcap,hel⟩:=open_row ht hce hd';rw [Yv] at hcs hcap;obtain ⟨b,off,spot⟩:=a;have hspot:spot=none:=by
  obtain ⟨x,hx⟩:∃ x,l[0]?=some x:=⟨l[0],Yd hl⟩
  obtain ⟨v,n,q,hc,_⟩:=hel 0 _ (by rw [Yo,hx]; rfl);simpa [Addr.add] using World.cell?_spot hc
 subst hspot;refine ⟨b,off,cap,?_,hcap,fun i x hx=>?_⟩
 ·have:=World.var?_cell hg hvar 0;rw [Array.eq_one_of_toList hcs] at this;simpa using this
 ·obtain ⟨v,n,q,hc,hr⟩:=hel i _ (by rw [Yo,hx]; rfl);rw [Zi4 he hr] at hc;rwa [show ((⟨b,off,none⟩:Addr).add i)=⟨b,off + i,none⟩ by unfold Addr.add; split <;> simp_all] at hc
theorem Zli {H:Type} {enc:TypeId×Value→H} {P:Program} {w:World} {base:Nat} {sp:Nat→Bool} {held:Bool} {fuel:Nat} {t e:TypeId} {n:Nat} {cs:List Value} {l:List (DataW H)} {p:List MemPlace}
 (ht:P.underlying t=some (.array n e)) (hce:P.cellsOf e=1) (hct:P.cellsOf t=n)
 (h:DataW.trod enc P w base sp held fuel t cs=some (.agg l,p)) (i:Nat) (r:DataW H) (hi:l[i]?=some r) :
 ∃ fuel' q,DataW.trod enc P w base sp held fuel' e ((cs.drop i).take 1)=some (r,q):=by
 cases fuel with
 | zero=>simp [DataW.trod] at h
 | succ fuel =>
   simp only [DataW.trod,ht,hce,hct,Nat.mul_one] at h;split at h
   ·rename_i hl;obtain ⟨xs,hm,hx⟩:=Option.map_eq_some_iff.1 h;have hxs:xs.map (·.1)=l:=by
     have:=congrArg Prod.fst hx;simpa using this
    have hxl:xs.length=n:=by simpa using Lib.mapM_length hm
    have hin:i < n:=by
     have h1:=(List.getElem?_eq_some_iff.1 hi).1;rw [← hxs,Yv] at h1;omega
    obtain ⟨b,hb,hf⟩:=Lib.mapM_at hm i i (by simp [hin]);have h2:(xs.map (·.1))[i]?=some b.1:=by simp [hb]
    rw [hxs,hi] at h2;exact ⟨fuel,b.2,by rw [Yk h2]; exact hf⟩
   ·cases h
theorem Z9w {P:Program} {W:World} {n1 name:String} {d1 d:DataW Unit} {rest:List (String×DataW Unit)} {g:Nat} {t e f:TypeId} {n:Nat} {l:List (List (List UInt8))}
 (hg:P.globalNamed name=some g) (hty:(P.globals[g]?).map (·.type)=some t) (ht:P.underlying t=some (.array n e)) (he:P.underlying e=some (.slice f)) (hf:P.underlying f=some .string)
 (hce:P.cellsOf e=1) (hcf:P.cellsOf f=1) (hct:P.cellsOf t=n)
 (hd:d=.agg (l.map fun r=>.slice (r.map fun b=>.lit (.string b)) [])) (h:laidMet P ((n1,d1) :: (name,d) :: rest) W) (i:Nat) (r:List (List UInt8)) (hi:l[i]?=some r) (hr:0 < r.length) :
 ∃ b off cap,W.cell? ⟨g,i,none⟩=some (.slice (some ⟨b,off,none⟩) r.length cap)∧r.length≤cap∧∀ j x,r[j]?=some x→W.cell? ⟨b,off + j,none⟩=some (.string ⟨x.toArray⟩):=by
 obtain ⟨ps,⟨_,_,_,_,_,_,_,_,_,_,h2,_⟩,_⟩:=h;obtain ⟨g',t',cs,fuel,p,q,hg',ht',hvar,hd',_,_⟩:=h2;obtain rfl:=Yk (hg.symm.trans hg');obtain rfl:=Yk (hty.symm.trans ht');rw [hd] at hd';obtain ⟨fuel',q',hrow⟩:=Zli ht hce hct hd' i (.slice (r.map fun b=>.lit (.string b)) []) (by rw [Yo,hi]; rfl);obtain ⟨a,cap,hcs,hcap,hel⟩:=open_row he hcf hrow;rw [Yv] at hcs hcap;have hcell:W.cell? ⟨g,i,none⟩=some (.slice (some a) r.length cap):=by
  rw [World.var?_cell hg hvar i];have:=congrArg (·[0]?) hcs;simpa [List.getElem?_take,List.getElem?_drop] using this
 obtain ⟨b,off,spot⟩:=a;have hspot:spot=none:=by
  obtain ⟨x,hx⟩:∃ x,r[0]?=some x:=⟨r[0],Yd hr⟩
  obtain ⟨v,n,q,hc,_⟩:=hel 0 _ (by rw [Yo,hx]; rfl);simpa [Addr.add] using World.cell?_spot hc
 subst hspot;refine ⟨b,off,cap,hcell,hcap,fun j x hx=>?_⟩;obtain ⟨v,n,q,hc,hr⟩:=hel j _ (by rw [Yo,hx]; rfl);rw [Zi4 hf hr] at hc;rwa [show ((⟨b,off,none⟩:Addr).add j)=⟨b,off + j,none⟩ by unfold Addr.add; split <;> simp_all] at hc
end Go.Proofs.YtajomcjaljakhaaGreatDoor
