/- The document's parser: a statement; all of the reader, by the fuel. -/
import Derived.Test.YtfilfhpfndaniaaGreatDoorJ31
import Derived.Test.YtfilfhpfndaniaaGreatDoorJ34
import Derived.Test.YtfilfhpfndaniaaGreatDoorJ35
import Derived.Test.YtfilfhpfndaniaaGreatDoorJ36
import Derived.Test.YtfilfhpfndaniaaGreatDoorJ39
import Derived.OwnWalk
import Derived.Lib.LaidTab
import Derived.LaidMore
import Derived.Stop.Joined
namespace Go.Proofs.YtfilfhpfndaniaaGreatDoor
open Go Go.RowKit
set_option maxRecDepth 100000
set_option maxHeartbeats 20000000
set_option linter.unusedVariables false
theorem Zln (f:Nat) (hBr:Z1i 51 (Zbf false) (.braces false) f) (hFn:∀ s,Z1i 54 (fArg 5 s) (.func 5 s) f) (hH:Z1i 55 qd .head f) (hS2:Z1i 56 qd .stmt2 f) (hV:Z1i 58 qd .value f):Z1i 29 qd .stmt (f + 1):=by
 intro w C B d σ t σ' hQ hr hB hdf hp;rw [refF] at hp;by_cases c:30 < d
 ·rw [Yb c] at hp;obtain ⟨rfl, rfl⟩ : gT = t ∧ Z3c 4 σ = σ' := by simpa using hp
  exact Zhr w C B d σ hQ hr hB c (by omega)
 rw [Y9 c] at hp;have hd:d≤30:=by omega
 by_cases n1:Zf Zc σ=true
 ·rw [Yb n1] at hp;exact Zdp f hBr w C B d σ t σ' hQ hr hB hd hdf n1 hp
 rw [Y9 n1] at hp;by_cases n2:Zf Zj σ=true
 ·rw [Yb n2] at hp;obtain ⟨rfl, rfl⟩ : Tree.mk 16 ByteArray.empty 0 [] = t ∧ advR σ = σ' := by simpa using hp
  exact Zh4 w C B d σ hQ hr hB hd n2
 rw [Y9 n2] at hp;by_cases n3:Zf Za σ=true
 ·rw [Yb n3] at hp;exact Zbe f hFn w C B d σ t σ' hQ hr hB hd hdf (fun s h=>Z2o n3 (Ne.symm h)) n3 hp
 rw [Y9 n3] at hp;by_cases n4:Zf s_if σ=true
 ·rw [Yb n4] at hp;obtain ⟨x, σ1, hx, hp⟩ := Zg hp;obtain ⟨y, σ2, hy, hp⟩ := Zg hp;by_cases n5 : Zf Z5u σ2 = true
  ·rw [Yb n5] at hp;obtain ⟨z, σ3, hz, hp⟩ := Zg hp;obtain ⟨rfl, rfl⟩ : Tree.mk 7 ByteArray.empty 0 [x, y, z] = t ∧ σ3 = σ' := by simpa using hp
   exact Zde f hH hS2 x y z σ1 σ2 w C B d σ _ _ hQ hr hB hd hdf (fun s h=>Z2o n4 (Ne.symm h)) n4 rfl n5 hx hy hz
  ·rw [Y9 n5] at hp;obtain ⟨rfl, rfl⟩ : Tree.mk 7 ByteArray.empty 0 [x, y] = t ∧ σ2 = σ' := by simpa using hp
   exact Zku f hH hS2 x y σ1 w C B d σ _ _ hQ hr hB hd hdf (fun s h=>Z2o n4 (Ne.symm h)) n4 rfl (by simpa using n5) hx hy
 rw [Y9 n4] at hp;by_cases n5:(Zf Zz σ || Zf Z0c σ)=true
 ·rw [Yb n5] at hp;obtain ⟨x, σ1, hx, hp⟩ := Zg hp;obtain ⟨y, σ2, hy, hp⟩ := Zg hp;by_cases n6 : Zf Z0c σ = true
  ·rw [Yb n6] at hp;obtain ⟨rfl, rfl⟩ : Tree.mk 9 ByteArray.empty 0 [x, y] = t ∧ σ2 = σ' := by simpa using hp
   exact Zib f hH hS2 x y σ1 w C B d σ _ _ hQ hr hB hd hdf (fun s h=>Z2o n6 (Ne.symm h)) n6 rfl hx hy
  ·rw [Y9 n6] at hp;obtain ⟨rfl, rfl⟩ : Tree.mk 8 ByteArray.empty 0 [x, y] = t ∧ σ2 = σ' := by simpa using hp
   have n7:Zf Zz σ=true:=by
    simp only [Bool.or_eq_true] at n5;exact n5.resolve_right n6
   exact Zfu f hH hS2 x y σ1 w C B d σ _ _ hQ hr hB hd hdf (fun s h=>Z2o n7 (Ne.symm h)) n7 rfl hx hy
 rw [Y9 n5] at hp;simp only [Bool.or_eq_true,not_or] at n5;by_cases n7:Zf Z2k σ=true
 ·rw [Yb n7] at hp;have hsee : ∀ s : ByteArray, s ≠ Z2k → Zf s σ = false := fun s h => Z2o n7 (Ne.symm h);obtain ⟨b, σ1, hb, hp⟩ := Zg hp;by_cases m1 : Zf Z2q σ1 = true
  ·simp only [if_pos m1] at hp;obtain ⟨c', σ2, hc, hp⟩ := Zg hp;by_cases m2 : Zf Z03 σ2 = true
   ·simp only [if_pos m2] at hp;obtain ⟨e', σ3, he, hp⟩ := Zg hp;obtain ⟨rfl, rfl⟩ : Tree.mk 12 ByteArray.empty 0 [b, .mk 13 (Zo (Z0h Z0f (advR σ1))).1 0 [c'], .mk 14 ByteArray.empty 0 [e']] = t ∧ σ3 = σ' := by simpa [tryF] using hp
    exact Z8n f hBr b σ1 w C B d σ _ _ hQ hr hB hd hdf hsee n7 hb (.inr (.inr (.inr ⟨c',e',σ2,m1,m2,rfl,hc,he⟩)))
   ·simp only [if_neg m2] at hp;obtain ⟨rfl, rfl⟩ : Tree.mk 12 ByteArray.empty 0 [b, .mk 13 (Zo (Z0h Z0f (advR σ1))).1 0 [c']] = t ∧ σ2 = σ' := by simpa [tryF] using hp
    exact Z8n f hBr b σ1 w C B d σ _ _ hQ hr hB hd hdf hsee n7 hb (.inr (.inr (.inl ⟨c',m1,by simpa using m2,rfl,hc⟩)))
  ·simp only [if_neg m1] at hp;by_cases m2 : Zf Z03 σ1 = true
   ·simp only [if_pos m2] at hp;obtain ⟨e', σ3, he, hp⟩ := Zg hp;obtain ⟨rfl, rfl⟩ : Tree.mk 12 ByteArray.empty 0 [b, .mk 14 ByteArray.empty 0 [e']] = t ∧ σ3 = σ' := by simpa [tryF] using hp
    exact Z8n f hBr b σ1 w C B d σ _ _ hQ hr hB hd hdf hsee n7 hb (.inr (.inl ⟨e',by simpa using m1,m2,rfl,he⟩))
   ·simp only [if_neg m2] at hp;obtain ⟨rfl, rfl⟩ : Tree.mk 12 ByteArray.empty 0 [b] = t ∧ Z3c 3 σ1 = σ' := by simpa [tryF] using hp
    exact Z8n f hBr b σ1 w C B d σ _ _ hQ hr hB hd hdf hsee n7 hb (.inl ⟨by simpa using m1,by simpa using m2,rfl,rfl⟩)
 rw [Y9 n7] at hp;by_cases n8:Zf Z1l σ=true
 ·have hdk : Z4e σ = 2 := by simp [Z4e, n8]
  have hsee:∀ s:ByteArray,s≠Z1l→Zf s σ=false:=fun s h=>Z2o n8 (Ne.symm h);rw [hdk,Yb (by decide)] at hp;have hmq:Z22 2 (Zo (advR σ)).2=(Zo (advR σ)).2:=by simp [Z22]
  rw [hmq] at hp;exact Zjf f hV w C B d σ t σ' hQ hr hB hd hdf hsee n8 hp
 by_cases n9:Zf Z1q σ=true
 ·have hdk : Z4e σ = 3 := by simp [Z4e, n8, n9]
  have hsee:∀ s:ByteArray,s≠Z1q→Zf s σ=false:=fun s h=>Z2o n9 (Ne.symm h);rw [hdk,Yb (by decide)] at hp;have hmq:Z22 3 (Zo (advR σ)).2=(Zo (advR σ)).2:=by simp [Z22]
  rw [hmq] at hp;exact Zio f hV w C B d σ t σ' hQ hr hB hd hdf hsee n9 hp
 by_cases n10:Zf Z09 σ=true
 ·have hdk : Z4e σ = 4 := by simp [Z4e, n8, n9, n10]
  have hsee:∀ s:ByteArray,s≠Z09→Zf s σ=false:=fun s h=>Z2o n10 (Ne.symm h);rw [hdk,Yb (by decide)] at hp;exact Zf2 f hV w C B d σ t σ' hQ hr hB hd hdf hsee n10 hp
 by_cases n11:Zf Z0k σ=true
 ·have hdk : ¬ Z4e σ ≠ 0 := by simp [Z4e, n8, n9, n10]
  rw [Y9 hdk,Yb n11] at hp;have hsee:∀ s:ByteArray,s≠Z0k→Zf s σ=false:=fun s h=>Z2o n11 (Ne.symm h);by_cases m1:Zf Zj (advR σ)=true
  ·rw [Yb m1] at hp;obtain ⟨rfl, rfl⟩ : Tree.mk 10 ByteArray.empty 0 [] = t ∧ Z0h Zj (advR σ) = σ' := by simpa using hp
   exact Zbx f w C B d σ _ _ hQ hr hB hd hdf hsee n11 rfl rfl m1
  ·rw [Y9 m1] at hp;obtain ⟨x, σ1, hx, hp⟩ := Zg hp;obtain ⟨rfl, rfl⟩ : Tree.mk 10 ByteArray.empty 0 [x] = t ∧ Z0h Zj σ1 = σ' := by simpa using hp
   exact Zc5 f hV x σ1 w C B d σ _ _ hQ hr hB hd hdf hsee n11 rfl rfl (by simpa using m1) hx
 have hdk:¬ Z4e σ≠0:=by simp [Z4e,n8,n9,n10]
 rw [Y9 hdk,Y9 n11] at hp;by_cases n12:Zf Z1u σ=true
 ·rw [Yb n12] at hp;obtain ⟨x, σ1, hx, hp⟩ := Zg hp;obtain ⟨rfl, rfl⟩ : Tree.mk 11 ByteArray.empty 0 [x] = t ∧ Z0h Zj σ1 = σ' := by simpa using hp
  exact Zfw f hV x σ1 w C B d σ _ _ hQ hr hB hd hdf (fun s h=>Z2o n12 (Ne.symm h)) n12 rfl rfl hx
 rw [Y9 n12] at hp;obtain ⟨x,σ1,hx,hp⟩:=Zg hp;obtain ⟨rfl,rfl⟩:Tree.mk 15 ByteArray.empty 0 [x]=t∧Z0h Zj σ1=σ':=by simpa using hp
 refine Zga f hV x σ1 w C B d σ _ _ hQ hr hB hd hdf (fun s h=>?_) rfl rfl hx;simp only [List.mem_cons,List.not_mem_nil,or_false] at h;rcases h with rfl | rfl | rfl | rfl | rfl | rfl | rfl | rfl | rfl | rfl | rfl | rfl;·simpa using n1
 ·simpa using n2
 ·simpa using n3
 ·simpa using n4
 ·simpa using n5.1
 ·simpa using n5.2
 ·simpa using n7
 ·simpa using n8
 ·simpa using n9
 ·simpa using n10
 ·simpa using n11
 ·simpa using n12
structure AllQ (f:Nat):Prop where
 br:∀ b,Z1i 51 (Zbf b) (.braces b) f
 st:Z1i 29 qd .stmt f
 st2:Z1i 56 qd .stmt2 f
 hd:Z1i 55 qd .head f
 fn:∀ k s,Z1i 54 (fArg k s) (.func k s) f
 va:Z1i 58 qd .value f
 si:Z1i 102 qd .single f
 fi:Z1i 114 qd .first f
theorem Z1i.zero (F:FuncId) (args:Nat→Nat→Array Value) (job:RJob):Z1i F args job 0:=by
 intro w C B d σ t σ' _ _ _ _ hp;rw [refF] at hp;cases hp
theorem Zm2 (f:Nat):AllQ f:=by
 induction f using Nat.strongRecOn with
 | _ f ih=>
 cases f with
 | zero=>exact ⟨fun b=>.zero _ _ _,.zero _ _ _,.zero _ _ _,.zero _ _ _,fun k s=>.zero _ _ _,.zero _ _ _,.zero _ _ _,.zero _ _ _⟩
 | succ f =>
   have h:=ih f (by omega);refine ⟨fun b=>?_,Zln f (h.br false) (fun s=>h.fn 5 s) h.hd h.st2 h.va,Zka f h.st,Zlv f h.va,fun k s=>Zlh f k s (h.br true),?_,?_,?_⟩
   ·cases b with
    | false=>exact Za7 f fun g hg=>(ih g (by omega)).st
    | true=>exact Zbb f fun g hg=>(ih g (by omega)).st
   ·exact Zkd f (Zgk f (fun g hg=>(ih g (by omega)).si) 0 (by omega) f (by omega)) h.va
   ·exact Zk0 f h.si h.fi fun g hg=>(ih g (by omega)).va
   ·exact Zkv f h.hd (fun g hg=>(ih g (by omega)).va) fun s=>h.fn 37 s
theorem Zds (text:ByteArray) (j:Nat) (e:Int×Nat) (h:Z1h text j=.error e):e.1≠0:=by
 unfold Z1h at h;simp only at h;split at h
 ·split at h;·cases h
  ·split at h;·cases h; simp
   ·cases h
 ·split at h
  ·split at h;·cases h; simp
   ·split at h;·cases h; simp
    ·cases h
  ·split at h
   ·split at h;·cases h; simp
    ·split at h;·cases h; simp
     ·cases h
   ·split at h;·cases h; simp
    ·cases h
theorem Zfg (text:ByteArray):∀ (f i:Nat) (acc:List Tok) (e:Int×Nat),lexF text f i acc=.error e→e.1≠0:=by
 intro f;induction f with
 | zero=>intro i acc e h; simp [lexF] at h
 | succ f ih =>
   intro i acc e h;simp only [lexF] at h;split at h;·cases h
   ·split at h
    ·rename_i e' ht;cases h;exact Zds text _ _ ht
    ·exact ih _ _ _ h
theorem Zca (w:World) (text:ByteArray) (hm:3000 < text.size) :
 Calls Tryz.prog 27 #[.string text] w fun e w'=>e=.returned (.tuple #[.slice none 0 0,.agg #[.int .i64 4,.int .i64 (-1)]])∧Below w.heap.size w w':=by
 have hmI:(3000:Int) < (text.size:Int):=by omega
 have hst:RMid w (w.alloc (.cells #[.int .i64 0,.int .i64 0] 36)) (.slice none 0 0) []:=⟨(Go.MapKept.heap_alloc w _).1,(Y8 _ _).alloc (Y5 _) _,World.ownsRow_nil _ _ _ _⟩
 have ST:=lh hst;have HB:=lh (Zc6 (w.alloc (.cells #[.int .i64 0,.int .i64 0] 36)) 4);clear hst hm;go_enter Tryz.func27,Tryz.ntmps27
 go_wp2_with fail
 refine HB.out.mono ?_;rintro e w1 ⟨rfl,hb⟩;have HM:=lh (ST.out.on hb);have z0:w1.cell? ⟨w.heap.size,0,none⟩=some (.int .i64 0):=by simp [World.cell?,HM.out.blk]
 have z1:w1.cell? ⟨w.heap.size,1,none⟩=some (.int .i64 0):=by simp [World.cell?,HM.out.blk]
 have y0:w1.frozen? ⟨w.heap.size,0,none⟩=false:=by simp [World.frozen?,HM.out.blk]
 have y1:w1.frozen? ⟨w.heap.size,1,none⟩=false:=by simp [World.frozen?,HM.out.blk]
 have EP:=lh (HM.out.put (.int .i64 4) (.int .i64 (-1)));have EF:=lh (HM.out.fin (.int .i64 4) (.int .i64 (-1)));clear hb HB;go_wp2;refine bodyPost_ret (rres (cb:=w.heap.size) rfl rfl EP.out.1 EP.out.2) rfl ?_;exact ⟨rfl,EF.out.2⟩
theorem Zao (w:World) (text:ByteArray) (c p:Int) (hc:c≠0)
 (HC:∀ w0,Below w.heap.size w w0→Calls Tryz.prog 27 #[.string text] w0 fun e w'=>e=.returned (.tuple #[.slice none 0 0,.agg #[.int .i64 c,.int .i64 p]])∧Below w0.heap.size w0 w') :
 Calls Tryz.prog 9 #[.string text] w (Z82 w (.error (c,p))):=by
 obtain ⟨w0,hw0⟩:=zX (w.alloc (.cells #[.int .i64 0,.int .i64 0] 36))
 have hal:Below w.heap.size w w0:=by rw [hw0]; exact (Y8 _ _).alloc (Y5 _) _
 have hs0:w0.heap.size=w.heap.size + 1:=by rw [hw0]; simp
 have hA0:w0.heap[w.heap.size]?=some (.cells #[.int .i64 0,.int .i64 0] 36 (0,0)):=by rw [hw0]; exact heap_alloc_new _ _
 have HT:=lh (HC w0 hal);have nc:(c != 0)=true:=by simpa using hc
 have HCC:=lh hc;have HAL:=lh hal;have HS0:=lh hs0;have HA0:=lh hA0;have HW0:=lh hw0;clear hw0 hal hs0 hA0 HC hc;go_enter Tryz.func9,Tryz.ntmps9
 go_wp2_with fail
 rw [← HW0.out];refine HT.out.mono ?_;rintro e w1 ⟨rfl,hB⟩;obtain ⟨ab,hab⟩:=zX w.heap.size
 have hA1:w1.heap[ab]?=some (.cells #[.int .i64 0,.int .i64 0] 36 (0,0)):=by rw [hab]; exact (hB.block w.heap.size (by rw [HS0.out]; omega)).trans HA0.out
 obtain ⟨w2,hw2⟩:=zX (w1.alloc (.cells #[.int .i64 c,.int .i64 p] 36))
 have h12:Below w1.heap.size w1 w2:=by rw [hw2]; exact (Y8 _ _).alloc (Y5 _) _
 have hf2:w2.heap[w1.heap.size]?=some (.cells #[.int .i64 c,.int .i64 p] 36 (0,0)):=by rw [hw2]; exact heap_alloc_new _ _
 have hA2:w2.heap[ab]?=some (.cells #[.int .i64 0,.int .i64 0] 36 (0,0)):=(h12.block ab (Y6.1 hA1).1).trans hA1;have f0:w2.cell? ⟨w1.heap.size,0,none⟩=some (.int .i64 c):=by simp [World.cell?,hf2]
 have f1:w2.cell? ⟨w1.heap.size,1,none⟩=some (.int .i64 p):=by simp [World.cell?,hf2]
 have x0:w2.cell? ⟨ab,0,none⟩=some (.int .i64 0):=by simp [World.cell?,hA2]
 have x1:w2.cell? ⟨ab,1,none⟩=some (.int .i64 0):=by simp [World.cell?,hA2]
 have xz0:w2.frozen? ⟨ab,0,none⟩=false:=by simp [World.frozen?,hA2]
 have xz1:w2.frozen? ⟨ab,1,none⟩=false:=by simp [World.frozen?,hA2]
 have HA2:=lh hA2;have HW2:=lh hw2;have HAB:=lh hab;have BEL:=lh ((HAL.out.trans (hB.mono HAL.out.size)).trans (h12.mono (by have:=HS0.out; have:=hB.size; omega)));clear hB hA1 hw2 h12 hf2 hA2 hab HT;go_wp2_with fail
 rw [← HW2.out,← HAB.out];refine Z1 [(true,0),(true,1)] [2] (fun W=>W.cell? ⟨w1.heap.size,0,none⟩=some (.int .i64 c)∧W.cell? ⟨w1.heap.size,1,none⟩=some (.int .i64 p)) (by kernel_rfl) (by kernel_rfl) (fun _ _ d _ _ h=>by cases d <;> exact h) ⟨f0,f1⟩ (fun hS0=>?_);simp only [Zh,zD,zE,zF,zG,zH,zI]
 iterate 2
  first
   | (refine Z2 ?_ (by rfl) (fun w' hS'=>?_) ?_; rotate_left; (obtain ⟨s0,s1⟩:=hS'; go_simp; first | done | with_reducible rfl); simp only [Act.put,zA,zB,zC])
   | (refine Z3 (by rfl) ?_; simp only [Act.put,zA,zB,zC])
 refine Z6 ?_;go_wp2;have hput:=put2 HA2.out (.int .i64 c) (.int .i64 p);refine bodyPost_ret (Zja (cb:=ab) (v:=.pointer none) rfl rfl hput.1 hput.2) rfl ?_;have h1:=(BEL.out.setCell (p:=⟨ab,0,none⟩) (by rw [HAB.out]; exact Y5 _) (.int .i64 c)).setCell (p:=⟨ab,1,none⟩) (by rw [HAB.out]; exact Y5 _) (.int .i64 p);exact ⟨by first | exact h1 | exact h1.drew,HCC.out,rfl⟩
theorem Zfd (w:World) (text:ByteArray) (hW:Z6t w) (hF:Z6u w) :
 Calls Tryz.prog 9 #[.string text] w (Z82 w (Z0o text)):=by
 by_cases hm:3000 < text.size
 ·have e : Z0o text = .error (4, -1) := by unfold Z0o; rw [Yb hm]
  rw [e];exact Zao w text 4 (-1) (by decide) fun w0 _=>Zca w0 text hm
 ·cases ht : Z6a text with
  | ok ts=>exact Zdq (fun g=>(Zm2 g).st) w text (by omega) hW hF ts ht
  | error x =>
    obtain ⟨c,p⟩:=x;have e:Z0o text=.error (c,(p:Int)):=by unfold Z0o; rw [Y9 hm,ht]
    rw [e];refine Zao w text c p (Zfg text _ _ _ (c,p) ht) fun w0 hb=>?_;have HC:=Z9l w0 text (by omega) (hW.below hb) (hF.below hb);rw [ht] at HC;exact HC
theorem Z7s {text:ByteArray} {t:Tree} (h:Z0o text=.ok t):t.many≤1500:=by
 unfold Z0o at h;split at h;·cases h
 ·split at h;·cases h
  ·split at h;·cases h
   ·cases h
   ·split at h;·cases h
    ·have e := by simpa using h
     subst e;omega
theorem Got.belowG {w0 w w':World} {B:Nat} {a:ATree} {t:Tree} (G:Got w0 B w a t) (h:Below w.heap.size w w'):Got w0 B w' a t:=
 ⟨G.tree,G.at'.bel h,G.nodup,fun x hx=>⟨(G.new x hx).1,Ye (G.new x hx).2 h.size⟩⟩
theorem Got.preG {w0 w1 w:World} {B B':Nat} {a:ATree} {t:Tree} (G:Got w1 B w a t) (h:w0.heap.size≤w1.heap.size) (hB:B'≤B):Got w0 B' w a t:=
 ⟨G.tree,G.at'.base hB,G.nodup,fun x hx=>⟨Ya h (G.new x hx).1,(G.new x hx).2⟩⟩
theorem Z42.belowL {w w':World} (h:Z42 w w.heap.size) (hB:Below w.heap.size w w'):Z42 w' w'.heap.size:=
 Z42.mono (h.keep (w':=w') fun k hk=>hB.block k hk) hB.size
def Ziz (w:World) (r:Except (Int×Int) Tree) (e:Ending) (w':World):Prop:=
 Below w.heap.size w w'∧match r with
 | .ok t=>∃ a b,e=.returned (.tuple #[a.ptr,b.ptr,.bool true])∧Got w w.heap.size w' a t∧Got w w.heap.size w' b t
 | .error _=>e=.returned (.tuple #[.pointer none,.pointer none,.bool false])
theorem Zjy (w:World) (text:ByteArray) (hW:Words w) (hL:Z42 w w.heap.size) (hR:Z6t w) (hF:Z6u w) :
 Calls Tryz.prog 4 #[.string text] w (Ziz w (Z0o text)):=by
 by_cases hm:3000 < text.size
 ·have e : Z0o text = .error (4, -1) := by unfold Z0o; rw [Yb hm]
  rw [e];have hmI:decide ((text.size:Int) > 3000)=true:=by simp; omega
  clear e hm hW hL hR hF;go_enter Tryz.func4,Tryz.ntmps4
  go_wp2;go_ret3
  exact ⟨Y8 _ _,rfl⟩
 have hmI:decide ((text.size:Int) > 3000)=false:=by simp; omega
 have HR:=Zfd w text hR hF;cases hr:Z0o text with
 | error x =>
   obtain ⟨c,p⟩:=x;rw [hr] at HR;have HR:=lh HR;clear hm hW hL hR hF hr;go_enter Tryz.func4,Tryz.ntmps4
   go_wp2_with fail
   refine HR.out.mono ?_;rintro e w1 ⟨hb,hc,rfl⟩;have nc:(c != 0)=true:=by simpa using hc
   have BEL:=lh (hb.trans (((Y8 w1.heap.size w1).alloc (Y5 _) (.cells #[.int .i64 c,.int .i64 p] 36)).mono hb.size));clear hb hc HR;go_wp2;go_ret3
   exact ⟨BEL.out,rfl⟩
 | ok t =>
   rw [hr] at HR;have hmn:=Z7s hr;have HP:=lh (fun (w1:World) (hb:Below w.heap.size w w1)=>Zgv w1 text (hW.below hb) (hL.belowL hb));rw [hr] at HP;have HR:=lh HR;have HMN:=lh hmn;clear hm hW hL hR hF hr hmn;go_enter Tryz.func4,Tryz.ntmps4
   go_wp2_with fail
   refine HR.out.mono ?_;rintro e w1 ⟨hb,b,rfl,hG⟩;have hal:=(Y8 w1.heap.size w1).alloc (Y5 _) (.cells #[.int .i64 0,.int .i64 (-1)] 36);obtain ⟨w2,hw2⟩:=zX (w1.alloc (.cells #[.int .i64 0,.int .i64 (-1)] 36))
   rw [← hw2] at hal;have G2:=lh (hG.belowG hal);have B2:=lh (hb.trans (hal.mono hb.size));have HPA:=lh (HP.out w2 B2.out);have HW2:=lh hw2;unfold ATree.ptr;clear hb hG hal hw2 HR HP;go_wp2_with fail
   rw [← HW2.out];refine HPA.out.mono ?_;rintro e w3 ⟨hb3,a,rfl,hA⟩;have G3:=lh (G2.out.belowG hb3);have A3:=lh (hA.preG (w0:=w) (B':=w.heap.size) B2.out.size B2.out.size);have B3:=lh (B2.out.trans (hb3.mono B2.out.size));have hma:a.many=t.many:=by rw [← Z5q,hA.tree]
   have HS:=lh (Zj4 _ a b (Y5 _) (by have:=HMN.out; omega) (hA.tree.trans G2.out.tree.symm) w3 _ _ A3.out.at' G3.out.at');unfold ATree.ptr at HS;clear hb3 hA hma HPA;go_wp2_with fail
   refine HS.out.mono ?_;rintro e w4 ⟨rfl,hb4⟩;have G4:=lh (G3.out.belowG hb4);have A4:=lh (A3.out.belowG hb4);have B4:=lh (B3.out.trans (hb4.mono B3.out.size));clear hb4 HS;go_wp2;go_ret3
   exact ⟨B4.out,a,b,rfl,A4.out,G4.out⟩
theorem Zhq (w:World) (fv:Value):Calls Tryz.prog 25 #[.pointer none,fv] w fun e w'=>e=.returned (.tuple #[])∧w'=w:=by
 go_enter Tryz.func25,Tryz.ntmps25
 go_wp2;refine bodyPost_ret (results_none rfl _ _ _) rfl ?_;exact ⟨rfl,rfl⟩
theorem Zfv (w:World):Calls Tryz.prog 7 #[.pointer none] w fun e w'=>e=.returned (.bool false)∧Below w.heap.size w w':=by
 have HW:=lh (fun w1 fv=>Zhq w1 fv);have HB:=lh (show Below w.heap.size w (w.alloc (.cells #[.bool false] 4)) from (Y8 _ _).alloc (Y5 _) _);go_enter Tryz.func7,Tryz.ntmps7
 go_wp2_with fail
 refine (HW.out _ _).mono ?_;rintro e w1 ⟨rfl,rfl⟩;go_wp2;go_ret;exact ⟨rfl,HB.out⟩
theorem Zkt (w:World):Calls Tryz.prog 5 #[.pointer none] w fun e w'=>e=.returned (.slice none 0 0)∧w'=w:=by
 go_enter Tryz.func5,Tryz.ntmps5
 go_wp2;go_ret;exact ⟨rfl,rfl⟩
theorem Zh2:∀ (U:List Us) (i:Nat) (u:Us),U[i]?=some u→(U.flatMap Us.cells)[i * 3]?=some (.int .i64 u.at')∧(U.flatMap Us.cells)[i * 3 + 1]?=some (.int .i64 u.r.1)∧(U.flatMap Us.cells)[i * 3 + 2]?=some (.bool u.r.2)
 | q :: U, 0, u, h => by
   obtain rfl:q=u:=by simpa using h
   exact ⟨rfl,rfl,rfl⟩
 | q :: U, i + 1, u, h => by
   have h1:=Zh2 U i u (by simpa using h);simp only [List.flatMap_cons];have e:∀ j,(q.cells ++ U.flatMap Us.cells)[(i + 1) * 3 + j]?=(U.flatMap Us.cells)[i * 3 + j]?:=fun j=>by
    rw [List.getElem?_append_right (by simp [Us.cells]; omega)];congr 1
    simp [Us.cells]; omega
   exact ⟨(e 0).trans h1.1,(e 1).trans h1.2.1,(e 2).trans h1.2.2⟩
theorem Zau {w:World} {B g cap n:Nat} {t:TypeId} {U:List Us} {m:Nat} (h:w.ownsRow B t 3 (.slice (some ⟨g,0,none⟩) n cap) m (U.flatMap Us.cells)) {i:Nat} {u:Us} (hu:U[i]?=some u) :
 w.cell? ⟨g,i * 3,none⟩=some (.int .i64 u.at')∧w.cell? ⟨g,i * 3 + 1,none⟩=some (.int .i64 u.r.1)∧w.cell? ⟨g,i * 3 + 2,none⟩=some (.bool u.r.2):=by
 have key:∀ j x,(U.flatMap Us.cells)[j]?=some x→w.cell? ⟨g,j,none⟩=some x:=fun j x hx=>by
  have:=h.cells (g:=g) rfl j x hx;rwa [show ((⟨g,0,none⟩:Addr).add j)=⟨g,j,none⟩ by unfold Addr.add; split <;> simp_all] at this
 obtain ⟨h1,h2,h3⟩:=Zh2 U i u hu;exact ⟨key _ _ h1,key _ _ h2,key _ _ h3⟩
theorem Zcw {w:World} {B n:Nat} {t:TypeId} {v:Value} {xs:List Value} (h:w.ownsRow B t 3 v n xs):∃ p c,v=.slice p n c∧n≤c∧c≤9223372036854775807∧(0 < n→∃ g,p=some ⟨g,0,none⟩):=by
 rcases Z7 h with ⟨h1,h2⟩ | ⟨g,cap,h1,h2,h3,_⟩;·exact ⟨none,0,by rw [h1,h2],by omega,by omega,fun h=>by omega⟩
 ·unfold maxLen at h3; exact ⟨_,_,h1,h2,by omega,fun _=>⟨g,rfl⟩⟩
theorem Za6 (w:World) (text:ByteArray) (hW:Words w) (hL:Z42 w w.heap.size) (hR:Z6t w) (hF:Z6u w) :
 Calls Tryz.prog 3 #[.string text] w fun e w'=>e=.returned (.bool true)∧Below w.heap.size w w':=by
 have HB:=Zjy w text hW hL hR hF;cases hr:Z0o text with
 | error x =>
   rw [hr] at HB;have HB:=lh HB;clear hr hW hL hR hF;go_enter Tryz.func3,Tryz.ntmps3
   go_wp2_with fail
   refine HB.out.mono ?_;rintro e w1 ⟨hb,rfl⟩;have BEL:=lh hb;clear hb HB;go_wp2;go_ret;exact ⟨rfl,BEL.out⟩
 | ok t =>
   rw [hr] at HB;have HMN:=lh (Z7s hr);have HWT:=lh (Za1 hr);have HFT:=lh (Za5 hr);have HB:=lh HB;clear hr hW hL hR hF;go_enter Tryz.func3,Tryz.ntmps3
   go_wp2_with fail
   refine HB.out.mono ?_;rintro e w1 ⟨hb,a,b,rfl,hA,hG⟩;have A1:=lh hA;have G1:=lh hG;have B1:=lh hb;have HTE:=lh (hA.tree.trans hG.tree.symm);have hma:a.many≤1500:=by have:=Z5q (a:=a); rw [hA.tree] at this; have:=HMN.out; omega
   have hmb:b.many≤1500:=by have:=Z5q (a:=b); rw [hG.tree] at this; have:=HMN.out; omega
   have HMA:=lh hma;have HMB:=lh hmb;have hwa:WT a.tree:=by rw [hA.tree]; exact HWT.out
   have hwb:WT b.tree:=by rw [hG.tree]; exact HWT.out
   have HWA:=lh (Zlq a hwa);have HWB:=lh hwb;have HFB:=lh (show FT b.tree∧b.kind=1 from by
    have h:=HFT.out;rw [← hG.tree] at h;exact ⟨h.1,by obtain ⟨bb,v,k,tt,n,ks⟩:=b; exact h.2⟩)
   have HO1:=lh (Zlp w1 _ a hA.at' HWA.out hA.apart (by omega));obtain ⟨U,hU⟩:=zX (ofF a)
   have HU2:=lh (show ofF b=U from by rw [hU]; exact (Zjg (hA.tree.trans hG.tree.symm) hA.apart hG.apart).symm);have HUL:=lh (show U.length≤a.many from by rw [hU]; exact Zkg a);obtain ⟨eb,heb⟩:=zX (Z5w a)
   have HE2:=lh (show rEv b=eb from by rw [heb,Z7k]; exact (Zbn _ _ HTE.out).symm);have HEB:=lh heb;rw [← hU] at HO1;unfold ATree.ptr at HO1 ⊢;clear hb hA hG HB hma hmb hwa hwb hU heb;go_wp2_with fail
   refine HO1.out.mono ?_;rintro e w2 ⟨v2,rfl,hr2,hb2⟩;obtain ⟨p2,c2,rfl,hge2,hmx2,hp2⟩:=Zcw hr2;have A2:=lh (A1.out.belowG hb2);have G2:=lh (G1.out.belowG hb2);have B2:=lh (B1.out.trans (hb2.mono B1.out.size));have R2:=lh hr2;have HO2:=lh (Zg2 w2 _ b G2.out.at' HWB.out HFB.out.1 HFB.out.2 G2.out.apart HMB.out);rw [HU2.out] at HO2;unfold ATree.ptr at HO2;clear hr2 hb2 HO1;go_wp2_with fail
   refine HO2.out.mono ?_;rintro e w3 ⟨v3,rfl,hr3,hb3⟩;obtain ⟨p3,c3,rfl,hge3,hmx3,hp3⟩:=Zcw hr3;have A3:=lh (A2.out.belowG hb3);have G3:=lh (G2.out.belowG hb3);have B3:=lh (B2.out.trans (hb3.mono B2.out.size));have R23:=lh (Zb R2.out fun k hk=>hb3.block k (Yh R2.out k hk).2);have R3:=lh hr3;have HEA:=lh (Zcy w3 _ a A3.out.at' HWA.out.call);rw [← HEB.out] at HEA;unfold ATree.ptr at HEA;obtain ⟨n,hn⟩:=zX U.length
   have HN:=lh hn;rw [← hn] at R23 R3 hge2 hge3 hp2 hp3 ⊢;have hnm:n≤1500:=by have h1:=HUL.out; have h2:=HMA.out; omega
   have HP2:=lh hp2;have HP3:=lh hp3;clear hr3 hb3 HO2 R2 hn hp2 hp3;go_wp2_with fail
   refine HEA.out.mono ?_;rintro e w4 ⟨rfl,hb4⟩;have G4:=lh (G3.out.belowG hb4);have B4:=lh (B3.out.trans (hb4.mono B3.out.size));have HEC:=lh (Zb3 _ b (Y5 _) HWB.out w4 _ G4.out.at');rw [HE2.out] at HEC;unfold ATree.ptr at HEC;have R4:=lh (Zb R23.out fun k hk=>hb4.block k (Yh R23.out k hk).2);have S4:=lh (Zb R3.out fun k hk=>hb4.block k (Yh R3.out k hk).2);clear hb4 HEA R23 R3;go_wp2_with fail
   refine HEC.out.mono ?_;rintro e w5 ⟨rfl,hb5⟩;have B5:=lh (B4.out.trans (hb5.mono B4.out.size));have R5:=lh (Zb R4.out fun k hk=>hb5.block k (Yh R4.out k hk).2);have S5:=lh (Zb S4.out fun k hk=>hb5.block k (Yh S4.out k hk).2);have hee:(eb != eb)=false:=by simp
   have HN5:=lh (Zkt w5);clear hb5 HEC R4 S4;go_wp2_with fail
   refine HN5.out.mono ?_;rintro e w6 ⟨rfl,hw6⟩;rw [hw6];clear hw6 w6 HN5;have HN6:=lh (Zfv w5);go_wp2_with fail
   refine HN6.out.mono ?_;rintro e w7 ⟨rfl,hb7⟩;have B7:=lh (B5.out.trans (hb7.mono B5.out.size));have R7:=lh (Zb R5.out fun k hk=>hb7.block k (Yh R5.out k hk).2);have S7:=lh (Zb S5.out fun k hk=>hb7.block k (Yh S5.out k hk).2);clear hb7 HN6 R5 S5;go_wp2_with fail
   go_loopw [8] (fun i wr=>∃ k:Nat,k≤n∧i=.int .i64 k∧Hid (Below w7.heap.size w7 wr)) (fun i _=>n - (intOf i).toNat)
   case atStart=>exact ⟨0,Yp _,rfl,lh (Y8 _ _)⟩
   case round=>
    obtain ⟨k,hk,rfl,HBR⟩:=hrel;by_cases hkn:k < n
    ·obtain ⟨u, hu⟩ : ∃ u, U[k]? = some u := ⟨_, Yd (by rw [← HN.out]; exact hkn)⟩
     obtain ⟨g2,rfl⟩:=HP2.out (by omega);obtain ⟨g3,rfl⟩:=HP3.out (by omega);obtain ⟨x0,x1,x2⟩:=Zau (Zb R7.out fun k hk=>HBR.out.block k (Yh R7.out k hk).2) hu;obtain ⟨y0,y1,y2⟩:=Zau (Zb S7.out fun k hk=>HBR.out.block k (Yh S7.out k hk).2) hu;obtain ⟨ua,⟨ub,uc⟩⟩:=u;dsimp only at x0 x1 x2 y0 y1 y2
     clear hu;have huc:(uc != uc)=false:=by simp
     go_wp2_with fail
     refine Z1 [(true,0),(true,1),(true,2),(true,3),(true,4),(true,5),(true,6),(true,7),(true,8),(true,9),(true,10),(true,11),(true,12),(true,13),(true,14),(true,15),(true,16),(true,17),(true,18),(true,19),(true,20),(true,21),(true,22),(true,23),(true,24),(true,25),(true,26),(true,27),(true,28),(true,29),(true,30),(true,31),(true,32),(true,33),(true,34)] [35,36] (fun W=>W.cell? ⟨g2,k * 3,none⟩=some (.int .i64 ua)∧W.cell? ⟨g2,k * 3 + 1,none⟩=some (.int .i64 ub)∧W.cell? ⟨g2,k * 3 + 2,none⟩=some (.bool uc)∧W.cell? ⟨g3,k * 3,none⟩=some (.int .i64 ua)∧W.cell? ⟨g3,k * 3 + 1,none⟩=some (.int .i64 ub)∧W.cell? ⟨g3,k * 3 + 2,none⟩=some (.bool uc)) (by kernel_rfl) (by kernel_rfl) (fun _ _ d _ _ h=>by cases d <;> exact h) ⟨x0,x1,x2,y0,y1,y2⟩ (fun hS0=>?_)
     simp only [Zh,zD,zE,zF,zG,zH,zI]
     iterate 35
      first
       | (refine Z2 ?_ (by rfl) (fun w' hS'=>?_) ?_; rotate_left; (obtain ⟨s0,s1,s2,s3,s4,s5⟩:=hS'; go_simp; first | done | with_reducible rfl); simp only [Act.put,zA,zB,zC])
       | (refine Z3 (by rfl) ?_; simp only [Act.put,zA,zB,zC])
     refine Z6 ?_;go_wp2;go_roundw
     case rel=>exact ⟨k + 1,by omega,by go_num,lh HBR.out.drew⟩
     case measure=>simp [intOf]; omega
    ·have hk2 : k = n := by omega
     subst hk2;go_wp2;go_ret;exact ⟨rfl,B7.out.trans (HBR.out.mono B7.out.size)⟩
end Go.Proofs.YtfilfhpfndaniaaGreatDoor
namespace Go.Proofs.YtfilfhpfndaniaaGreatDoor
open Go Go.RowKit
set_option maxRecDepth 100000
set_option maxHeartbeats 20000000
theorem Za4 {H:Type} {enc:TypeId×Value→H} {P:Program} {w:World} {base:Nat} {sp:Nat→Bool} {held:Bool} {fuel:Nat} {t e:TypeId} {n:Nat} {cs:List Value} {l:List (List UInt8)} {p:List MemPlace}
 (ht:P.underlying t=some (.array n e)) (he:P.underlying e=some .string) (hce:P.cellsOf e=1) (hct:P.cellsOf t=n)
 (h:DataW.trod enc P w base sp held fuel t cs=some (.agg (l.map fun b=>.lit (.string b)),p)):cs=l.map fun b=>Value.string ⟨b.toArray⟩:=by
 cases fuel with
 | zero=>simp [DataW.trod] at h
 | succ fuel =>
   simp only [DataW.trod,ht,hce,hct,Nat.mul_one] at h;split at h
   ·rename_i hl;obtain ⟨xs,hm,hx⟩:=Option.map_eq_some_iff.1 h;have hxs:xs.map (·.1)=l.map fun b=>(DataW.lit (.string b):DataW H):=by
     have:=congrArg Prod.fst hx;simpa using this
    have hxl:xs.length=n:=by simpa using Lib.mapM_length hm
    have hzl:l.length=n:=by
     have:=congrArg List.length hxs;simp at this;omega
    apply List.ext_getElem?;intro i;by_cases hi:i < n
    ·obtain ⟨b,hb,hf⟩:=Lib.mapM_at hm i i (by simp [hi]);obtain ⟨s,hc,rfl,_⟩:=DataW.trod_string he hf;have h1:cs[i]?=some (.string s):=by
      have:=congrArg (·[0]?) hc;simpa [List.getElem?_take,List.getElem?_drop] using this
     have h2:(xs.map (·.1))[i]?=some (DataW.lit (.string s.data.toList):DataW H):=by simp [hb]
     rw [hxs] at h2;simp only [List.getElem?_map,Option.map_eq_some_iff,DataW.lit.injEq,Lit.string.injEq] at h2;obtain ⟨z',hz',hzz⟩:=h2;simp only [h1,List.getElem?_map,hz',Option.map_some,hzz]
    ·rw [List.getElem?_eq_none (by omega),List.getElem?_eq_none (by simp; omega)]
   ·cases h
theorem Zgl {H:Type} {enc:TypeId×Value→H} {P:Program} {w:World} {base:Nat} {sp:Nat→Bool} {held:Bool} {fuel:Nat} {e:TypeId} {v:Value} {b:List UInt8} {q:List MemPlace} (he:P.underlying e=some .string)
 (h:DataW.trod enc P w base sp held fuel e [v]=some (.lit (.string b),q)):v=.string ⟨b.toArray⟩:=by
 obtain ⟨s,hc,hx,_⟩:=DataW.trod_string he h;simp only [List.cons.injEq,and_true] at hc;simp only [Prod.mk.injEq,DataW.lit.injEq,Lit.string.injEq] at hx;rw [hc,hx.1]
theorem Zba {P:Program} {W:World} {name:String} {d:DataW Unit} {rest:List (String×DataW Unit)} {g:Nat} {t e:TypeId} {n:Nat} {l:List (List UInt8)}
 (hg:P.globalNamed name=some g) (hty:(P.globals[g]?).map (·.type)=some t) (ht:P.underlying t=some (.array n e)) (he:P.underlying e=some .string) (hce:P.cellsOf e=1) (hct:P.cellsOf t=n)
 (hd:d=.agg (l.map fun b=>.lit (.string b))) (h:laidMet P ((name,d) :: rest) W) (i:Nat) (b:List UInt8) (hi:l[i]?=some b):W.cell? ⟨g,i,none⟩=some (.string ⟨b.toArray⟩):=by
 obtain ⟨ps,⟨g',t',cs,fuel,p,q,hg',ht',hvar,hd',_,_⟩,_⟩:=h;obtain rfl:=Yk (hg.symm.trans hg');obtain rfl:=Yk (hty.symm.trans ht');rw [hd] at hd';have hc:=Za4 ht he hce hct hd';have:=World.var?_cell hg hvar i;rw [this];have hx:cs=(l.map fun b=>Value.string ⟨b.toArray⟩).toArray:=by rw [← hc]
 rw [hx];simp [hi]
theorem Zdu {P:Program} {W:World} {name:String} {d:DataW Unit} {rest:List (String×DataW Unit)} {g:Nat} {t e:TypeId} {l:List (List UInt8)}
 (hg:P.globalNamed name=some g) (hty:(P.globals[g]?).map (·.type)=some t) (ht:P.underlying t=some (.slice e)) (he:P.underlying e=some .string) (hce:P.cellsOf e=1)
 (hd:d=.slice (l.map fun b=>.lit (.string b)) []) (hl:0 < l.length) (h:laidMet P ((name,d) :: rest) W) :
 ∃ b off cap,W.cell? ⟨g,0,none⟩=some (.slice (some ⟨b,off,none⟩) l.length cap)∧l.length≤cap∧∀ i x,l[i]?=some x→W.cell? ⟨b,off + i,none⟩=some (.string ⟨x.toArray⟩):=by
 obtain ⟨ps,⟨g',t',cs,fuel,p,q,hg',ht',hvar,hd',_,_⟩,_⟩:=h;obtain rfl:=Yk (hg.symm.trans hg');obtain rfl:=Yk (hty.symm.trans ht');rw [hd] at hd';obtain ⟨a,cap,hcs,hcap,hel⟩:=open_row ht hce hd';rw [Yx] at hcs hcap;obtain ⟨b,off,spot⟩:=a;have hspot:spot=none:=by
  obtain ⟨x,hx⟩:∃ x,l[0]?=some x:=⟨l[0],Yd hl⟩
  obtain ⟨v,n,q,hc,_⟩:=hel 0 _ (by rw [Yo,hx]; rfl);simpa [Addr.add] using World.cell?_spot hc
 subst hspot;refine ⟨b,off,cap,?_,hcap,fun i x hx=>?_⟩
 ·have:=World.var?_cell hg hvar 0;rw [Array.eq_one_of_toList hcs] at this;simpa using this
 ·obtain ⟨v,n,q,hc,hr⟩:=hel i _ (by rw [Yo,hx]; rfl);rw [Zgl he hr] at hc;rwa [show ((⟨b,off,none⟩:Addr).add i)=⟨b,off + i,none⟩ by unfold Addr.add; split <;> simp_all] at hc
theorem Zld {H:Type} {enc:TypeId×Value→H} {P:Program} {w:World} {base:Nat} {sp:Nat→Bool} {held:Bool} {fuel:Nat} {t e:TypeId} {n:Nat} {cs:List Value} {l:List (DataW H)} {p:List MemPlace}
 (ht:P.underlying t=some (.array n e)) (hce:P.cellsOf e=1) (hct:P.cellsOf t=n)
 (h:DataW.trod enc P w base sp held fuel t cs=some (.agg l,p)) (i:Nat) (r:DataW H) (hi:l[i]?=some r) :
 ∃ fuel' q,DataW.trod enc P w base sp held fuel' e ((cs.drop i).take 1)=some (r,q):=by
 cases fuel with
 | zero=>simp [DataW.trod] at h
 | succ fuel =>
   simp only [DataW.trod,ht,hce,hct,Nat.mul_one] at h;split at h
   ·rename_i hl;obtain ⟨xs,hm,hx⟩:=Option.map_eq_some_iff.1 h;have hxs:xs.map (·.1)=l:=by
     have:=congrArg Prod.fst hx;simpa using this
    have hxl:xs.length=n:=by simpa using Lib.mapM_length hm
    have hin:i < n:=by
     have h1:=(List.getElem?_eq_some_iff.1 hi).1;rw [← hxs,Yx] at h1;omega
    obtain ⟨b,hb,hf⟩:=Lib.mapM_at hm i i (by simp [hin]);have h2:(xs.map (·.1))[i]?=some b.1:=by simp [hb]
    rw [hxs,hi] at h2;exact ⟨fuel,b.2,by rw [Yk h2]; exact hf⟩
   ·cases h
theorem Za3 {P:Program} {W:World} {n1 name:String} {d1 d:DataW Unit} {rest:List (String×DataW Unit)} {g:Nat} {t e f:TypeId} {n:Nat} {l:List (List (List UInt8))}
 (hg:P.globalNamed name=some g) (hty:(P.globals[g]?).map (·.type)=some t) (ht:P.underlying t=some (.array n e)) (he:P.underlying e=some (.slice f)) (hf:P.underlying f=some .string)
 (hce:P.cellsOf e=1) (hcf:P.cellsOf f=1) (hct:P.cellsOf t=n)
 (hd:d=.agg (l.map fun r=>.slice (r.map fun b=>.lit (.string b)) [])) (h:laidMet P ((n1,d1) :: (name,d) :: rest) W) (i:Nat) (r:List (List UInt8)) (hi:l[i]?=some r) (hr:0 < r.length) :
 ∃ b off cap,W.cell? ⟨g,i,none⟩=some (.slice (some ⟨b,off,none⟩) r.length cap)∧r.length≤cap∧∀ j x,r[j]?=some x→W.cell? ⟨b,off + j,none⟩=some (.string ⟨x.toArray⟩):=by
 obtain ⟨ps,⟨_,_,_,_,_,_,_,_,_,_,h2,_⟩,_⟩:=h;obtain ⟨g',t',cs,fuel,p,q,hg',ht',hvar,hd',_,_⟩:=h2;obtain rfl:=Yk (hg.symm.trans hg');obtain rfl:=Yk (hty.symm.trans ht');rw [hd] at hd';obtain ⟨fuel',q',hrow⟩:=Zld ht hce hct hd' i (.slice (r.map fun b=>.lit (.string b)) []) (by rw [Yo,hi]; rfl);obtain ⟨a,cap,hcs,hcap,hel⟩:=open_row he hcf hrow;rw [Yx] at hcs hcap;have hcell:W.cell? ⟨g,i,none⟩=some (.slice (some a) r.length cap):=by
  rw [World.var?_cell hg hvar i];have:=congrArg (·[0]?) hcs;simpa [List.getElem?_take,List.getElem?_drop] using this
 obtain ⟨b,off,spot⟩:=a;have hspot:spot=none:=by
  obtain ⟨x,hx⟩:∃ x,r[0]?=some x:=⟨r[0],Yd hr⟩
  obtain ⟨v,n,q,hc,_⟩:=hel 0 _ (by rw [Yo,hx]; rfl);simpa [Addr.add] using World.cell?_spot hc
 subst hspot;refine ⟨b,off,cap,hcell,hcap,fun j x hx=>?_⟩;obtain ⟨v,n,q,hc,hr⟩:=hel j _ (by rw [Yo,hx]; rfl);rw [Zgl hf hr] at hc;rwa [show ((⟨b,off,none⟩:Addr).add j)=⟨b,off + j,none⟩ by unfold Addr.add; split <;> simp_all] at hc
end Go.Proofs.YtfilfhpfndaniaaGreatDoor
