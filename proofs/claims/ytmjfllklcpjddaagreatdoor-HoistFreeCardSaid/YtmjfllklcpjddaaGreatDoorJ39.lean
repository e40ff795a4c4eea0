/- The document's parser: a statement; all of the reader, by the fuel. -/
import Derived.Test.YtmjfllklcpjddaaGreatDoorJ29
import Derived.Test.YtmjfllklcpjddaaGreatDoorJ32
import Derived.Test.YtmjfllklcpjddaaGreatDoorJ33
import Derived.Test.YtmjfllklcpjddaaGreatDoorJ35
import Derived.Test.YtmjfllklcpjddaaGreatDoorJ38
import Derived.OwnWalk
import Derived.Lib.LaidTab
import Derived.LaidMore
import Derived.Stop.Joined
namespace Go.Proofs.YtmjfllklcpjddaaGreatDoor
open Go Go.RowKit
set_option maxRecDepth 100000
set_option maxHeartbeats 20000000
set_option linter.unusedVariables false
theorem Zkz (f:Nat) (hBr:Z14 47 (Zaq false) (.braces false) f) (hFn:∀ s,Z14 50 (fArg 5 s) (.func 5 s) f) (hH:Z14 51 qd .head f) (hS2:Z14 52 qd .stmt2 f) (hV:Z14 54 qd .value f):Z14 21 qd .stmt (f + 1):=by
 intro w C B d σ t σ' hQ hr hB hdf hp;rw [refF] at hp;by_cases c:30 < d
 ·rw [Yb c] at hp;obtain ⟨rfl, rfl⟩ : gT = t ∧ Z30 4 σ = σ' := by simpa using hp
  exact Zgb w C B d σ hQ hr hB c (by omega)
 rw [Y9 c] at hp;have hd:d≤30:=by omega
 by_cases n1:Zd Zb σ=true
 ·rw [Yb n1] at hp;exact Zcg f hBr w C B d σ t σ' hQ hr hB hd hdf n1 hp
 rw [Y9 n1] at hp;by_cases n2:Zd Zg σ=true
 ·rw [Yb n2] at hp;obtain ⟨rfl, rfl⟩ : Tree.mk 16 ByteArray.empty 0 [] = t ∧ advR σ = σ' := by simpa using hp
  exact Zhp w C B d σ hQ hr hB hd n2
 rw [Y9 n2] at hp;by_cases n3:Zd Z9 σ=true
 ·rw [Yb n3] at hp;exact Zap f hFn w C B d σ t σ' hQ hr hB hd hdf (fun s h=>Z2d n3 (Ne.symm h)) n3 hp
 rw [Y9 n3] at hp;by_cases n4:Zd s_if σ=true
 ·rw [Yb n4] at hp;obtain ⟨x, σ1, hx, hp⟩ := Ze hp;obtain ⟨y, σ2, hy, hp⟩ := Ze hp;by_cases n5 : Zd Z58 σ2 = true
  ·rw [Yb n5] at hp;obtain ⟨z, σ3, hz, hp⟩ := Ze hp;obtain ⟨rfl, rfl⟩ : Tree.mk 7 ByteArray.empty 0 [x, y, z] = t ∧ σ3 = σ' := by simpa using hp
   exact Zcr f hH hS2 x y z σ1 σ2 w C B d σ _ _ hQ hr hB hd hdf (fun s h=>Z2d n4 (Ne.symm h)) n4 rfl n5 hx hy hz
  ·rw [Y9 n5] at hp;obtain ⟨rfl, rfl⟩ : Tree.mk 7 ByteArray.empty 0 [x, y] = t ∧ σ2 = σ' := by simpa using hp
   exact Zjr f hH hS2 x y σ1 w C B d σ _ _ hQ hr hB hd hdf (fun s h=>Z2d n4 (Ne.symm h)) n4 rfl (by simpa using n5) hx hy
 rw [Y9 n4] at hp;by_cases n5:(Zd Zv σ || Zd Z04 σ)=true
 ·rw [Yb n5] at hp;obtain ⟨x, σ1, hx, hp⟩ := Ze hp;obtain ⟨y, σ2, hy, hp⟩ := Ze hp;by_cases n6 : Zd Z04 σ = true
  ·rw [Yb n6] at hp;obtain ⟨rfl, rfl⟩ : Tree.mk 9 ByteArray.empty 0 [x, y] = t ∧ σ2 = σ' := by simpa using hp
   exact Zgq f hH hS2 x y σ1 w C B d σ _ _ hQ hr hB hd hdf (fun s h=>Z2d n6 (Ne.symm h)) n6 rfl hx hy
  ·rw [Y9 n6] at hp;obtain ⟨rfl, rfl⟩ : Tree.mk 8 ByteArray.empty 0 [x, y] = t ∧ σ2 = σ' := by simpa using hp
   have n7:Zd Zv σ=true:=by
    simp only [Bool.or_eq_true] at n5;exact n5.resolve_right n6
   exact Zef f hH hS2 x y σ1 w C B d σ _ _ hQ hr hB hd hdf (fun s h=>Z2d n7 (Ne.symm h)) n7 rfl hx hy
 rw [Y9 n5] at hp;simp only [Bool.or_eq_true,not_or] at n5;by_cases n7:Zd Z23 σ=true
 ·rw [Yb n7] at hp;have hsee : ∀ s : ByteArray, s ≠ Z23 → Zd s σ = false := fun s h => Z2d n7 (Ne.symm h);obtain ⟨b, σ1, hb, hp⟩ := Ze hp;by_cases m1 : Zd Z2a σ1 = true
  ·simp only [if_pos m1] at hp;obtain ⟨c', σ2, hc, hp⟩ := Ze hp;by_cases m2 : Zd Zy σ2 = true
   ·simp only [if_pos m2] at hp;obtain ⟨e', σ3, he, hp⟩ := Ze hp;obtain ⟨rfl, rfl⟩ : Tree.mk 12 ByteArray.empty 0 [b, .mk 13 (Zj (Z09 Z08 (advR σ1))).1 0 [c'], .mk 14 ByteArray.empty 0 [e']] = t ∧ σ3 = σ' := by simpa [tryF] using hp
    exact Z86 f hBr b σ1 w C B d σ _ _ hQ hr hB hd hdf hsee n7 hb (.inr (.inr (.inr ⟨c',e',σ2,m1,m2,rfl,hc,he⟩)))
   ·simp only [if_neg m2] at hp;obtain ⟨rfl, rfl⟩ : Tree.mk 12 ByteArray.empty 0 [b, .mk 13 (Zj (Z09 Z08 (advR σ1))).1 0 [c']] = t ∧ σ2 = σ' := by simpa [tryF] using hp
    exact Z86 f hBr b σ1 w C B d σ _ _ hQ hr hB hd hdf hsee n7 hb (.inr (.inr (.inl ⟨c',m1,by simpa using m2,rfl,hc⟩)))
  ·simp only [if_neg m1] at hp;by_cases m2 : Zd Zy σ1 = true
   ·simp only [if_pos m2] at hp;obtain ⟨e', σ3, he, hp⟩ := Ze hp;obtain ⟨rfl, rfl⟩ : Tree.mk 12 ByteArray.empty 0 [b, .mk 14 ByteArray.empty 0 [e']] = t ∧ σ3 = σ' := by simpa [tryF] using hp
    exact Z86 f hBr b σ1 w C B d σ _ _ hQ hr hB hd hdf hsee n7 hb (.inr (.inl ⟨e',by simpa using m1,m2,rfl,he⟩))
   ·simp only [if_neg m2] at hp;obtain ⟨rfl, rfl⟩ : Tree.mk 12 ByteArray.empty 0 [b] = t ∧ Z30 3 σ1 = σ' := by simpa [tryF] using hp
    exact Z86 f hBr b σ1 w C B d σ _ _ hQ hr hB hd hdf hsee n7 hb (.inl ⟨by simpa using m1,by simpa using m2,rfl,rfl⟩)
 rw [Y9 n7] at hp;by_cases n8:Zd Z19 σ=true
 ·have hdk : Z3s σ = 2 := by simp [Z3s, n8]
  have hsee:∀ s:ByteArray,s≠Z19→Zd s σ=false:=fun s h=>Z2d n8 (Ne.symm h);rw [hdk,Yb (by decide)] at hp;have hmq:Z1o 2 (Zj (advR σ)).2=(Zj (advR σ)).2:=by simp [Z1o]
  rw [hmq] at hp;exact Zij f hV w C B d σ t σ' hQ hr hB hd hdf hsee n8 hp
 by_cases n9:Zd Z1a σ=true
 ·have hdk : Z3s σ = 3 := by simp [Z3s, n8, n9]
  have hsee:∀ s:ByteArray,s≠Z1a→Zd s σ=false:=fun s h=>Z2d n9 (Ne.symm h);rw [hdk,Yb (by decide)] at hp;have hmq:Z1o 3 (Zj (advR σ)).2=(Zj (advR σ)).2:=by simp [Z1o]
  rw [hmq] at hp;exact Zhz f hV w C B d σ t σ' hQ hr hB hd hdf hsee n9 hp
 by_cases n10:Zd Z02 σ=true
 ·have hdk : Z3s σ = 4 := by simp [Z3s, n8, n9, n10]
  have hsee:∀ s:ByteArray,s≠Z02→Zd s σ=false:=fun s h=>Z2d n10 (Ne.symm h);rw [hdk,Yb (by decide)] at hp;exact Ze1 f hV w C B d σ t σ' hQ hr hB hd hdf hsee n10 hp
 by_cases n11:Zd Z0d σ=true
 ·have hdk : ¬ Z3s σ ≠ 0 := by simp [Z3s, n8, n9, n10]
  rw [Y9 hdk,Yb n11] at hp;have hsee:∀ s:ByteArray,s≠Z0d→Zd s σ=false:=fun s h=>Z2d n11 (Ne.symm h);by_cases m1:Zd Zg (advR σ)=true
  ·rw [Yb m1] at hp;obtain ⟨rfl, rfl⟩ : Tree.mk 10 ByteArray.empty 0 [] = t ∧ Z09 Zg (advR σ) = σ' := by simpa using hp
   exact Zb6 f w C B d σ _ _ hQ hr hB hd hdf hsee n11 rfl rfl m1
  ·rw [Y9 m1] at hp;obtain ⟨x, σ1, hx, hp⟩ := Ze hp;obtain ⟨rfl, rfl⟩ : Tree.mk 10 ByteArray.empty 0 [x] = t ∧ Z09 Zg σ1 = σ' := by simpa using hp
   exact Zbv f hV x σ1 w C B d σ _ _ hQ hr hB hd hdf hsee n11 rfl rfl (by simpa using m1) hx
 have hdk:¬ Z3s σ≠0:=by simp [Z3s,n8,n9,n10]
 rw [Y9 hdk,Y9 n11] at hp;by_cases n12:Zd Z1h σ=true
 ·rw [Yb n12] at hp;obtain ⟨x, σ1, hx, hp⟩ := Ze hp;obtain ⟨rfl, rfl⟩ : Tree.mk 11 ByteArray.empty 0 [x] = t ∧ Z09 Zg σ1 = σ' := by simpa using hp
  exact Zew f hV x σ1 w C B d σ _ _ hQ hr hB hd hdf (fun s h=>Z2d n12 (Ne.symm h)) n12 rfl rfl hx
 rw [Y9 n12] at hp;obtain ⟨x,σ1,hx,hp⟩:=Ze hp;obtain ⟨rfl,rfl⟩:Tree.mk 15 ByteArray.empty 0 [x]=t∧Z09 Zg σ1=σ':=by simpa using hp
 refine Zh6 f hV x σ1 w C B d σ _ _ hQ hr hB hd hdf (fun s h=>?_) rfl rfl hx;simp only [List.mem_cons,List.not_mem_nil,or_false] at h;rcases h with rfl | rfl | rfl | rfl | rfl | rfl | rfl | rfl | rfl | rfl | rfl | rfl;·simpa using n1
 ·simpa using n2
 ·simpa using n3
 ·simpa using n4
 ·simpa using n5.1
 ·simpa using n5.2
 ·simpa using n7
 ·simpa using n8
 ·simpa using n9
 ·simpa using n10
 ·simpa using n11
 ·simpa using n12
structure AllQ (f:Nat):Prop where
 br:∀ b,Z14 47 (Zaq b) (.braces b) f
 st:Z14 21 qd .stmt f
 st2:Z14 52 qd .stmt2 f
 hd:Z14 51 qd .head f
 fn:∀ k s,Z14 50 (fArg k s) (.func k s) f
 va:Z14 54 qd .value f
 si:Z14 116 qd .single f
 fi:Z14 126 qd .first f
theorem Z14.zero (F:FuncId) (args:Nat→Nat→Array Value) (job:RJob):Z14 F args job 0:=by
 intro w C B d σ t σ' _ _ _ _ hp;rw [refF] at hp;cases hp
theorem Zl5 (f:Nat):AllQ f:=by
 induction f using Nat.strongRecOn with
 | _ f ih=>
 cases f with
 | zero=>exact ⟨fun b=>.zero _ _ _,.zero _ _ _,.zero _ _ _,.zero _ _ _,fun k s=>.zero _ _ _,.zero _ _ _,.zero _ _ _,.zero _ _ _⟩
 | succ f =>
   have h:=ih f (by omega);refine ⟨fun b=>?_,Zkz f (h.br false) (fun s=>h.fn 5 s) h.hd h.st2 h.va,Zk4 f h.st,Zkj f h.va,fun k s=>Zks f k s (h.br true),?_,?_,?_⟩
   ·cases b with
    | false=>exact Z9m f fun g hg=>(ih g (by omega)).st
    | true=>exact Zb1 f fun g hg=>(ih g (by omega)).st
   ·exact Zk1 f (Zg9 f (fun g hg=>(ih g (by omega)).si) 0 (by omega) f (by omega)) h.va
   ·exact Ziv f h.si h.fi fun g hg=>(ih g (by omega)).va
   ·exact Zjq f h.hd (fun g hg=>(ih g (by omega)).va) fun s=>h.fn 37 s
theorem Zd8 (text:ByteArray) (j:Nat) (e:Int×Nat) (h:Z11 text j=.error e):e.1≠0:=by
 unfold Z11 at h;simp only at h;split at h
 ·split at h;·cases h
  ·split at h;·cases h; simp
   ·cases h
 ·split at h
  ·split at h;·cases h; simp
   ·split at h;·cases h; simp
    ·cases h
  ·split at h
   ·split at h;·cases h; simp
    ·split at h;·cases h; simp
     ·cases h
   ·split at h;·cases h; simp
    ·cases h
theorem Zf5 (text:ByteArray):∀ (f i:Nat) (acc:List Tok) (e:Int×Nat),lexF text f i acc=.error e→e.1≠0:=by
 intro f;induction f with
 | zero=>intro i acc e h; simp [lexF] at h
 | succ f ih =>
   intro i acc e h;simp only [lexF] at h;split at h;·cases h
   ·split at h
    ·rename_i e' ht;cases h;exact Zd8 text _ _ ht
    ·exact ih _ _ _ h
theorem Zc1 (w:World) (text:ByteArray) (hm:3000 < text.size) :
 Calls Tryz.prog 19 #[.string text] w fun e w'=>e=.returned (.tuple #[.slice none 0 0,.agg #[.int .i64 4,.int .i64 (-1)]])∧Below w.heap.size w w':=by
 have hmI:(3000:Int) < (text.size:Int):=by omega
 have hst:RMid w (w.alloc (.cells #[.int .i64 0,.int .i64 0] 31)) (.slice none 0 0) []:=⟨(Go.MapKept.heap_alloc w _).1,(Y8 _ _).alloc (Y5 _) _,World.ownsRow_nil _ _ _ _⟩
 have ST:=lh hst;have HB:=lh (Zbf (w.alloc (.cells #[.int .i64 0,.int .i64 0] 31)) 4);clear hst hm;go_enter Tryz.func19,Tryz.ntmps19
 go_wp2_with fail
 refine HB.out.mono ?_;rintro e w1 ⟨rfl,hb⟩;have HM:=lh (ST.out.on hb);have z0:w1.cell? ⟨w.heap.size,0,none⟩=some (.int .i64 0):=by simp [World.cell?,HM.out.blk]
 have z1:w1.cell? ⟨w.heap.size,1,none⟩=some (.int .i64 0):=by simp [World.cell?,HM.out.blk]
 have y0:w1.frozen? ⟨w.heap.size,0,none⟩=false:=by simp [World.frozen?,HM.out.blk]
 have y1:w1.frozen? ⟨w.heap.size,1,none⟩=false:=by simp [World.frozen?,HM.out.blk]
 have EP:=lh (HM.out.put (.int .i64 4) (.int .i64 (-1)));have EF:=lh (HM.out.fin (.int .i64 4) (.int .i64 (-1)));clear hb HB;go_wp2;refine bodyPost_ret (rres (cb:=w.heap.size) rfl rfl EP.out.1 EP.out.2) rfl ?_;exact ⟨rfl,EF.out.2⟩
theorem Z9t (w:World) (text:ByteArray) (c p:Int) (hc:c≠0)
 (HC:∀ w0,Below w.heap.size w w0→Calls Tryz.prog 19 #[.string text] w0 fun e w'=>e=.returned (.tuple #[.slice none 0 0,.agg #[.int .i64 c,.int .i64 p]])∧Below w0.heap.size w0 w') :
 Calls Tryz.prog 8 #[.string text] w (Z7m w (.error (c,p))):=by
 obtain ⟨w0,hw0⟩:=zX (w.alloc (.cells #[.int .i64 0,.int .i64 0] 31))
 have hal:Below w.heap.size w w0:=by rw [hw0]; exact (Y8 _ _).alloc (Y5 _) _
 have hs0:w0.heap.size=w.heap.size + 1:=by rw [hw0]; simp
 have hA0:w0.heap[w.heap.size]?=some (.cells #[.int .i64 0,.int .i64 0] 31 (0,0)):=by rw [hw0]; exact heap_alloc_new _ _
 have HT:=lh (HC w0 hal);have nc:(c != 0)=true:=by simpa using hc
 have HCC:=lh hc;have HAL:=lh hal;have HS0:=lh hs0;have HA0:=lh hA0;have HW0:=lh hw0;clear hw0 hal hs0 hA0 HC hc;go_enter Tryz.func8,Tryz.ntmps8
 go_wp2_with fail
 rw [← HW0.out];refine HT.out.mono ?_;rintro e w1 ⟨rfl,hB⟩;obtain ⟨ab,hab⟩:=zX w.heap.size
 have hA1:w1.heap[ab]?=some (.cells #[.int .i64 0,.int .i64 0] 31 (0,0)):=by rw [hab]; exact (hB.block w.heap.size (by rw [HS0.out]; omega)).trans HA0.out
 obtain ⟨w2,hw2⟩:=zX (w1.alloc (.cells #[.int .i64 c,.int .i64 p] 31))
 have h12:Below w1.heap.size w1 w2:=by rw [hw2]; exact (Y8 _ _).alloc (Y5 _) _
 have hf2:w2.heap[w1.heap.size]?=some (.cells #[.int .i64 c,.int .i64 p] 31 (0,0)):=by rw [hw2]; exact heap_alloc_new _ _
 have hA2:w2.heap[ab]?=some (.cells #[.int .i64 0,.int .i64 0] 31 (0,0)):=(h12.block ab (Y6.1 hA1).1).trans hA1;have f0:w2.cell? ⟨w1.heap.size,0,none⟩=some (.int .i64 c):=by simp [World.cell?,hf2]
 have f1:w2.cell? ⟨w1.heap.size,1,none⟩=some (.int .i64 p):=by simp [World.cell?,hf2]
 have x0:w2.cell? ⟨ab,0,none⟩=some (.int .i64 0):=by simp [World.cell?,hA2]
 have x1:w2.cell? ⟨ab,1,none⟩=some (.int .i64 0):=by simp [World.cell?,hA2]
 have xz0:w2.frozen? ⟨ab,0,none⟩=false:=by simp [World.frozen?,hA2]
 have xz1:w2.frozen? ⟨ab,1,none⟩=false:=by simp [World.frozen?,hA2]
 have HA2:=lh hA2;have HW2:=lh hw2;have HAB:=lh hab;have BEL:=lh ((HAL.out.trans (hB.mono HAL.out.size)).trans (h12.mono (by have:=HS0.out; have:=hB.size; omega)));clear hB hA1 hw2 h12 hf2 hA2 hab HT;go_wp2_with fail
 rw [← HW2.out,← HAB.out];refine Z1 [(true,0),(true,1)] [2] (fun W=>W.cell? ⟨w1.heap.size,0,none⟩=some (.int .i64 c)∧W.cell? ⟨w1.heap.size,1,none⟩=some (.int .i64 p)) (by kernel_rfl) (by kernel_rfl) (fun _ _ d _ _ h=>by cases d <;> exact h) ⟨f0,f1⟩ (fun hS0=>?_);simp only [Zf,zD,zE,zF,zG,zH,zI]
 iterate 2
  first
   | (refine Z2 ?_ (by rfl) (fun w' hS'=>?_) ?_; rotate_left; (obtain ⟨s0,s1⟩:=hS'; go_simp; first | done | with_reducible rfl); simp only [Act.put,zA,zB,zC])
   | (refine Z3 (by rfl) ?_; simp only [Act.put,zA,zB,zC])
 refine Z6 ?_;go_wp2;have hput:=put2 HA2.out (.int .i64 c) (.int .i64 p);refine bodyPost_ret (Ziy (cb:=ab) (v:=.pointer none) rfl rfl hput.1 hput.2) rfl ?_;have h1:=(BEL.out.setCell (p:=⟨ab,0,none⟩) (by rw [HAB.out]; exact Y5 _) (.int .i64 c)).setCell (p:=⟨ab,1,none⟩) (by rw [HAB.out]; exact Y5 _) (.int .i64 p);exact ⟨by first | exact h1 | exact h1.drew,HCC.out,rfl⟩
theorem Zeg (w:World) (text:ByteArray) (hW:Z6a w) (hF:Z69 w) :
 Calls Tryz.prog 8 #[.string text] w (Z7m w (Z0c text)):=by
 by_cases hm:3000 < text.size
 ·have e : Z0c text = .error (4, -1) := by unfold Z0c; rw [Yb hm]
  rw [e];exact Z9t w text 4 (-1) (by decide) fun w0 _=>Zc1 w0 text hm
 ·cases ht : Z5x text with
  | ok ts=>exact Zco (fun g=>(Zl5 g).st) w text (by omega) hW hF ts ht
  | error x =>
    obtain ⟨c,p⟩:=x;have e:Z0c text=.error (c,(p:Int)):=by unfold Z0c; rw [Y9 hm,ht]
    rw [e];refine Z9t w text c p (Zf5 text _ _ _ (c,p) ht) fun w0 hb=>?_;have HC:=Z9f w0 text (by omega) (hW.below hb) (hF.below hb);rw [ht] at HC;exact HC
theorem Z73 {text:ByteArray} {t:Tree} (h:Z0c text=.ok t):t.many≤1500:=by
 unfold Z0c at h;split at h;·cases h
 ·split at h;·cases h
  ·split at h;·cases h
   ·cases h
   ·split at h;·cases h
    ·have e := by simpa using h
     subst e;omega
theorem Got.belowG {w0 w w':World} {B:Nat} {a:ATree} {t:Tree} (G:Got w0 B w a t) (h:Below w.heap.size w w'):Got w0 B w' a t:=
 ⟨G.tree,G.at'.bel h,G.nodup,fun x hx=>⟨(G.new x hx).1,Ye (G.new x hx).2 h.size⟩⟩
theorem Got.preG {w0 w1 w:World} {B B':Nat} {a:ATree} {t:Tree} (G:Got w1 B w a t) (h:w0.heap.size≤w1.heap.size) (hB:B'≤B):Got w0 B' w a t:=
 ⟨G.tree,G.at'.base hB,G.nodup,fun x hx=>⟨Ya h (G.new x hx).1,(G.new x hx).2⟩⟩
theorem Z3e.belowL {w w':World} (h:Z3e w w.heap.size) (hB:Below w.heap.size w w'):Z3e w' w'.heap.size:=
 Z3e.mono (h.keep (w':=w') fun k hk=>hB.block k hk) hB.size
def Zi7 (w:World) (r:Except (Int×Int) Tree) (e:Ending) (w':World):Prop:=
 Below w.heap.size w w'∧match r with
 | .ok t=>∃ a b,e=.returned (.tuple #[a.ptr,b.ptr,.bool true])∧Got w w.heap.size w' a t∧Got w w.heap.size w' b t
 | .error _=>e=.returned (.tuple #[.pointer none,.pointer none,.bool false])
theorem Zih (w:World) (text:ByteArray) (hW:Words w) (hL:Z3e w w.heap.size) (hR:Z6a w) (hF:Z69 w) :
 Calls Tryz.prog 4 #[.string text] w (Zi7 w (Z0c text)):=by
 by_cases hm:3000 < text.size
 ·have e : Z0c text = .error (4, -1) := by unfold Z0c; rw [Yb hm]
  rw [e];have hmI:decide ((text.size:Int) > 3000)=true:=by simp; omega
  clear e hm hW hL hR hF;go_enter Tryz.func4,Tryz.ntmps4
  go_wp2;go_ret3
  exact ⟨Y8 _ _,rfl⟩
 have hmI:decide ((text.size:Int) > 3000)=false:=by simp; omega
 have HR:=Zeg w text hR hF;cases hr:Z0c text with
 | error x =>
   obtain ⟨c,p⟩:=x;rw [hr] at HR;have HR:=lh HR;clear hm hW hL hR hF hr;go_enter Tryz.func4,Tryz.ntmps4
   go_wp2_with fail
   refine HR.out.mono ?_;rintro e w1 ⟨hb,hc,rfl⟩;have nc:(c != 0)=true:=by simpa using hc
   have BEL:=lh (hb.trans (((Y8 w1.heap.size w1).alloc (Y5 _) (.cells #[.int .i64 c,.int .i64 p] 31)).mono hb.size));clear hb hc HR;go_wp2;go_ret3
   exact ⟨BEL.out,rfl⟩
 | ok t =>
   rw [hr] at HR;have hmn:=Z73 hr;have HP:=lh (fun (w1:World) (hb:Below w.heap.size w w1)=>Zfq w1 text (hW.below hb) (hL.belowL hb));rw [hr] at HP;have HR:=lh HR;have HMN:=lh hmn;clear hm hW hL hR hF hr hmn;go_enter Tryz.func4,Tryz.ntmps4
   go_wp2_with fail
   refine HR.out.mono ?_;rintro e w1 ⟨hb,b,rfl,hG⟩;have hal:=(Y8 w1.heap.size w1).alloc (Y5 _) (.cells #[.int .i64 0,.int .i64 (-1)] 31);obtain ⟨w2,hw2⟩:=zX (w1.alloc (.cells #[.int .i64 0,.int .i64 (-1)] 31))
   rw [← hw2] at hal;have G2:=lh (hG.belowG hal);have B2:=lh (hb.trans (hal.mono hb.size));have HPA:=lh (HP.out w2 B2.out);have HW2:=lh hw2;unfold ATree.ptr;clear hb hG hal hw2 HR HP;go_wp2_with fail
   rw [← HW2.out];refine HPA.out.mono ?_;rintro e w3 ⟨hb3,a,rfl,hA⟩;have G3:=lh (G2.out.belowG hb3);have A3:=lh (hA.preG (w0:=w) (B':=w.heap.size) B2.out.size B2.out.size);have B3:=lh (B2.out.trans (hb3.mono B2.out.size));have hma:a.many=t.many:=by rw [← Z4y,hA.tree]
   have HS:=lh (Ziz _ a b (Y5 _) (by have:=HMN.out; omega) (hA.tree.trans G2.out.tree.symm) w3 _ _ A3.out.at' G3.out.at');unfold ATree.ptr at HS;clear hb3 hA hma HPA;go_wp2_with fail
   refine HS.out.mono ?_;rintro e w4 ⟨rfl,hb4⟩;have G4:=lh (G3.out.belowG hb4);have A4:=lh (A3.out.belowG hb4);have B4:=lh (B3.out.trans (hb4.mono B3.out.size));clear hb4 HS;go_wp2;go_ret3
   exact ⟨B4.out,a,b,rfl,A4.out,G4.out⟩
theorem Zau (w:World) (B1 B2:Nat) (v1 v2:Value) (l:List ByteArray) (h1:Zp w B1 v1 l) (h2:Zp w B2 v2 l) :
 Calls Tryz.prog 5 #[v1,v2] w fun e w'=>e=.returned (.bool true)∧Below w.heap.size w w':=by
 obtain ⟨p,cp,rfl,hge,hgm⟩:=h1.parts;obtain ⟨q,cq,rfl,hhe,hhm⟩:=h2.parts;obtain ⟨n,hn⟩:=zX l.length
 have H1:=lh h1;have H2:=lh h2;rw [← hn] at hge hhe H1 H2 ⊢;have HN:=lh hn;have hnn:((n:Int) != (n:Int))=false:=by simp
 clear h1 h2 hn;go_enter Tryz.func5,Tryz.ntmps5
 go_wp2_with fail
 go_loopw [5] (fun i wr=>∃ k:Nat,k≤n∧i=.int .i64 k∧Hid (Below w.heap.size w wr)) (fun i _=>n - (intOf i).toNat)
 case atStart=>exact ⟨0,Yp _,rfl,lh (Y8 _ _)⟩
 case round=>
  obtain ⟨k,hk,rfl,HB⟩:=hrel;by_cases hkn:k < n
  ·obtain ⟨x, hx⟩ : ∃ x, l[k]? = some x := ⟨_, Yd (by rw [← HN.out]; exact hkn)⟩
   obtain ⟨g0,hp⟩:∃ g,p=some ⟨g,0,none⟩:=by
    rcases H1.out.form with ⟨_,h2⟩ | ⟨g,cap,h1,_⟩;·rw [h2] at hx; simp at hx
    ·simp only [Value.slice.injEq] at h1; exact ⟨g,h1.1⟩
   subst hp;obtain ⟨g1,hq⟩:∃ g,q=some ⟨g,0,none⟩:=by
    rcases H2.out.form with ⟨_,h2⟩ | ⟨g,cap,h1,_⟩;·rw [h2] at hx; simp at hx
    ·simp only [Value.slice.injEq] at h1; exact ⟨g,h1.1⟩
   subst hq;have cx:=(H1.out.bel HB.out).cells rfl hx;have cy:=(H2.out.bel HB.out).cells rfl hx;have hb:(x.toList != x.toList)=false:=by simp
   clear hx;go_wp2_with fail
   refine Z1 [(true,0),(true,1),(true,2),(true,3),(true,4),(true,5),(true,6),(true,7)] [8] (fun W=>W.cell? ⟨g0,k,none⟩=some (.string x)∧W.cell? ⟨g1,k,none⟩=some (.string x)) (by kernel_rfl) (by kernel_rfl) (fun _ _ d _ _ h=>by cases d <;> exact h) ⟨cx,cy⟩ (fun hS0=>?_);simp only [Zf,zD,zE,zF,zG,zH,zI]
   iterate 8
    first
     | (refine Z2 ?_ (by rfl) (fun w' hS'=>?_) ?_; rotate_left; (obtain ⟨s0,s1⟩:=hS'; go_simp; first | done | with_reducible rfl); simp only [Act.put,zA,zB,zC])
     | (refine Z3 (by rfl) ?_; simp only [Act.put,zA,zB,zC])
   refine Z6 ?_;go_wp2;go_roundw
   case rel=>exact ⟨k + 1,by omega,by go_num,lh HB.out.drew⟩
   case measure=>simp [intOf]; omega
  ·have hk2 : k = n := by omega
   subst hk2;go_wp2;go_ret;exact ⟨rfl,HB.out⟩
theorem Z9k {text:ByteArray} {t:Tree} (h:Z0c text=.ok t):WT t:=by
 unfold Z0c at h;split at h;·cases h
 ·split at h;·cases h
  ·rename_i ts _;split at h;·cases h
   ·cases h
   ·rename_i t' ts' hp;split at h;·cases h
    ·have e : t' = t := by simpa using h
     subst e;exact Zce _ _ _ _ (show Job.good (.stmts 1 []) from ⟨.inl rfl,trivial⟩) _ _ hp
theorem Zdq:∀ l:List ATree,(Z0r l).length=l.length
 | []=>rfl
 | a :: l=>by simp only [Z0r,List.length_cons,Zdq l]
theorem Zf8 {α:Type} {l:List α} (h:l.length=2):∃ p q,l=[p,q]:=by
 match l,h with
 | [p,q],_=>exact ⟨p,q,rfl⟩
theorem WT.two {x:ATree} (h:WT x.tree) (hk:x.kind=5∨x.kind=37):∃ p q,x.kids=[p,q]:=by
 obtain ⟨b,v,k,t,n,ks⟩:=x;simp only [ATree.tree] at h;have h1:=h.1.two (by simp only [ATree.kind] at hk; omega);exact Zf8 (by rw [← h1,Zdq]; rfl)
theorem Zec {L M:List ByteArray} (h:L.Perm M):Z5o L=Z5o M:=by
 unfold Z5o;congr 1
 have ht:∀ a b c:List UInt8,decide (a≤b)=true→decide (b≤c)=true→decide (a≤c)=true:=by
  intro a b c h1 h2;exact decide_eq_true (List.le_trans (of_decide_eq_true h1) (of_decide_eq_true h2))
 have hto:∀ a b:List UInt8,(decide (a≤b) || decide (b≤a))=true:=by
  intro a b;rcases List.le_total a b with h1 | h1;·rw [decide_eq_true h1]; rfl
  ·rw [decide_eq_true h1,Bool.or_true]
 refine List.Perm.eq_of_pairwise (le:=fun a b=>decide (a≤b)=true) ?_ (List.pairwise_mergeSort ht hto _) (List.pairwise_mergeSort ht hto _) ?_
 ·intro a b _ _ h1 h2;exact List.le_antisymm (of_decide_eq_true h1) (of_decide_eq_true h2)
 ·exact (List.mergeSort_perm _ _).trans ((h.map _).trans (List.mergeSort_perm _ _).symm)
theorem Z84 (l:List ByteArray):∀ L:List ByteArray,L.Nodup→(l.foldl addL L).Nodup:=by
 induction l with
 | nil=>intro L h; exact h
 | cons s l ih=>intro L h; exact ih _ (Zah h)
theorem Z9q (l:List ByteArray):∀ (L:List ByteArray) (x:ByteArray),x∈l.foldl addL L↔x∈L∨x∈l:=by
 induction l with
 | nil=>intro L x; simp
 | cons s l ih =>
   intro L x;simp only [List.foldl_cons,List.mem_cons];rw [ih];constructor
   ·rintro (h | h)
    ·rcases Zal h with h | h;·exact .inl h
     ·exact .inr (.inl h)
    ·exact .inr (.inr h)
   ·rintro (h | rfl | h);·exact .inl (Z9e h)
    ·exact .inl (Z8w _ _)
    ·exact .inr h
theorem Zcm {F M:List ByteArray} (hM:M.Nodup) (hm:∀ s,s∈M↔s∈F):Z5o M=Z5o (F.foldl addL []):=by
 refine Zec ((List.perm_ext_iff_of_nodup hM (Z84 F [] List.nodup_nil)).2 fun s=>?_);rw [hm,Z9q];simp
theorem Zaz (w:World) (text:ByteArray) (hW:Words w) (hL:Z3e w w.heap.size) (hR:Z6a w) (hF:Z69 w) :
 Calls Tryz.prog 3 #[.string text] w fun e w'=>e=.returned (.bool true)∧Below w.heap.size w w':=by
 have HB:=Zih w text hW hL hR hF;cases hr:Z0c text with
 | error x =>
   rw [hr] at HB;have HB:=lh HB;clear hr hW hL hR hF;go_enter Tryz.func3,Tryz.ntmps3
   go_wp2_with fail
   refine HB.out.mono ?_;rintro e w1 ⟨hb,rfl⟩;have BEL:=lh hb;clear hb HB;go_wp2;go_ret;exact ⟨rfl,BEL.out⟩
 | ok t =>
   rw [hr] at HB;have HMN:=lh (Z73 hr);have HWT:=lh (Z9k hr);have HFT:=lh (Z9h hr);have HNT:=lh (Z9n hr);have HB:=lh HB;clear hr hW hL hR hF;go_enter Tryz.func3,Tryz.ntmps3
   go_wp2_with fail
   refine HB.out.mono ?_;rintro e w1 ⟨hb,a,b,rfl,hA,hG⟩;have G1:=lh hG;have B1:=lh hb;have hma:a.many≤100000:=by have:=Z4y (a:=a); rw [hA.tree] at this; have:=HMN.out; omega
   have hmb:b.many≤100000:=by have:=Z4y (a:=b); rw [hG.tree] at this; have:=HMN.out; omega
   have HMB:=lh hmb;have hwa:WT a.tree:=by rw [hA.tree]; exact HWT.out
   have HWB:=lh (Zjn b (show WT b.tree by rw [hG.tree]; exact HWT.out));have hk1:a.kind=1:=by
    have h:=HFT.out.2;rw [← hA.tree] at h;obtain ⟨bb,v,k,tt,n,ks⟩:=a;exact h
   have HEQ:=lh (Zgg (hA.tree.trans hG.tree.symm) hk1 (by rw [hA.tree]; exact HNT.out.1) (by rw [hA.tree]; exact HFT.out.1));have HCH:=lh (Zhg w1 _ a hA.at' (Zjn a hwa) hma);rw [HEQ.out] at HCH;obtain ⟨F,hFF⟩:=zX (Z2h b [])
   rw [← hFF] at HCH;have HFF:=lh hFF;unfold ATree.ptr at HCH ⊢;clear hb hA hG HB hma hmb hwa hk1 hFF HEQ;go_wp2_with fail
   refine HCH.out.mono ?_;rintro e w2 ⟨v2,rfl,ht2,hb2⟩;have G2:=lh (G1.out.belowG hb2);have B2:=lh (B1.out.trans (hb2.mono B1.out.size));have T2:=lh ht2;have HO2:=lh (Zgk w2 _ b G2.out.at' HWB.out HMB.out);rw [← HFF.out] at HO2;unfold ATree.ptr at HO2;clear ht2 hb2 HCH;go_wp2_with fail
   refine HO2.out.mono ?_;rintro e w3 ⟨v3,M,rfl,ht3,hM,hm,hb3⟩;have B3:=lh (B2.out.trans (hb3.mono B2.out.size));rw [Zcm hM hm] at ht3;have HST:=lh (Zau w3 _ _ v2 v3 _ (T2.out.bel hb3) ht3);clear ht3 hM hm hb3 HO2;go_wp2_with fail
   refine HST.out.mono ?_;rintro e w4 ⟨rfl,hb4⟩;have B4:=lh (B3.out.trans (hb4.mono B3.out.size));clear hb4;go_wp2;go_ret;exact ⟨rfl,B4.out⟩
end Go.Proofs.YtmjfllklcpjddaaGreatDoor
namespace Go.Proofs.YtmjfllklcpjddaaGreatDoor
open Go Go.RowKit
set_option maxRecDepth 100000
set_option maxHeartbeats 20000000
theorem Z9o {H:Type} {enc:TypeId×Value→H} {P:Program} {w:World} {base:Nat} {sp:Nat→Bool} {held:Bool} {fuel:Nat} {t e:TypeId} {n:Nat} {cs:List Value} {l:List (List UInt8)} {p:List MemPlace}
 (ht:P.underlying t=some (.array n e)) (he:P.underlying e=some .string) (hce:P.cellsOf e=1) (hct:P.cellsOf t=n)
 (h:DataW.trod enc P w base sp held fuel t cs=some (.agg (l.map fun b=>.lit (.string b)),p)):cs=l.map fun b=>Value.string ⟨b.toArray⟩:=by
 cases fuel with
 | zero=>simp [DataW.trod] at h
 | succ fuel =>
   simp only [DataW.trod,ht,hce,hct,Nat.mul_one] at h;split at h
   ·rename_i hl;obtain ⟨xs,hm,hx⟩:=Option.map_eq_some_iff.1 h;have hxs:xs.map (·.1)=l.map fun b=>(DataW.lit (.string b):DataW H):=by
     have:=congrArg Prod.fst hx;simpa using this
    have hxl:xs.length=n:=by simpa using Lib.mapM_length hm
    have hzl:l.length=n:=by
     have:=congrArg List.length hxs;simp at this;omega
    apply List.ext_getElem?;intro i;by_cases hi:i < n
    ·obtain ⟨b,hb,hf⟩:=Lib.mapM_at hm i i (by simp [hi]);obtain ⟨s,hc,rfl,_⟩:=DataW.trod_string he hf;have h1:cs[i]?=some (.string s):=by
      have:=congrArg (·[0]?) hc;simpa [List.getElem?_take,List.getElem?_drop] using this
     have h2:(xs.map (·.1))[i]?=some (DataW.lit (.string s.data.toList):DataW H):=by simp [hb]
     rw [hxs] at h2;simp only [List.getElem?_map,Option.map_eq_some_iff,DataW.lit.injEq,Lit.string.injEq] at h2;obtain ⟨z',hz',hzz⟩:=h2;simp only [h1,List.getElem?_map,hz',Option.map_some,hzz]
    ·rw [List.getElem?_eq_none (by omega),List.getElem?_eq_none (by simp; omega)]
   ·cases h
theorem Zfv {H:Type} {enc:TypeId×Value→H} {P:Program} {w:World} {base:Nat} {sp:Nat→Bool} {held:Bool} {fuel:Nat} {e:TypeId} {v:Value} {b:List UInt8} {q:List MemPlace} (he:P.underlying e=some .string)
 (h:DataW.trod enc P w base sp held fuel e [v]=some (.lit (.string b),q)):v=.string ⟨b.toArray⟩:=by
 obtain ⟨s,hc,hx,_⟩:=DataW.trod_string he h;simp only [List.cons.injEq,and_true] at hc;simp only [Prod.mk.injEq,DataW.lit.injEq,Lit.string.injEq] at hx;rw [hc,hx.1]
theorem Zaj {P:Program} {W:World} {name:String} {d:DataW Unit} {rest:List (String×DataW Unit)} {g:Nat} {t e:TypeId} {n:Nat} {l:List (List UInt8)}
 (hg:P.globalNamed name=some g) (hty:(P.globals[g]?).map (·.type)=some t) (ht:P.underlying t=some (.array n e)) (he:P.underlying e=some .string) (hce:P.cellsOf e=1) (hct:P.cellsOf t=n)
 (hd:d=.agg (l.map fun b=>.lit (.string b))) (h:laidMet P ((name,d) :: rest) W) (i:Nat) (b:List UInt8) (hi:l[i]?=some b):W.cell? ⟨g,i,none⟩=some (.string ⟨b.toArray⟩):=by
 obtain ⟨ps,⟨g',t',cs,fuel,p,q,hg',ht',hvar,hd',_,_⟩,_⟩:=h;obtain rfl:=Yk (hg.symm.trans hg');obtain rfl:=Yk (hty.symm.trans ht');rw [hd] at hd';have hc:=Z9o ht he hce hct hd';have:=World.var?_cell hg hvar i;rw [this];have hx:cs=(l.map fun b=>Value.string ⟨b.toArray⟩).toArray:=by rw [← hc]
 rw [hx];simp [hi]
theorem Zcc {P:Program} {W:World} {name:String} {d:DataW Unit} {rest:List (String×DataW Unit)} {g:Nat} {t e:TypeId} {l:List (List UInt8)}
 (hg:P.globalNamed name=some g) (hty:(P.globals[g]?).map (·.type)=some t) (ht:P.underlying t=some (.slice e)) (he:P.underlying e=some .string) (hce:P.cellsOf e=1)
 (hd:d=.slice (l.map fun b=>.lit (.string b)) []) (hl:0 < l.length) (h:laidMet P ((name,d) :: rest) W) :
 ∃ b off cap,W.cell? ⟨g,0,none⟩=some (.slice (some ⟨b,off,none⟩) l.length cap)∧l.length≤cap∧∀ i x,l[i]?=some x→W.cell? ⟨b,off + i,none⟩=some (.string ⟨x.toArray⟩):=by
 obtain ⟨ps,⟨g',t',cs,fuel,p,q,hg',ht',hvar,hd',_,_⟩,_⟩:=h;obtain rfl:=Yk (hg.symm.trans hg');obtain rfl:=Yk (hty.symm.trans ht');rw [hd] at hd';obtain ⟨a,cap,hcs,hcap,hel⟩:=open_row ht hce hd';rw [Yv] at hcs hcap;obtain ⟨b,off,spot⟩:=a;have hspot:spot=none:=by
  obtain ⟨x,hx⟩:∃ x,l[0]?=some x:=⟨l[0],Yd hl⟩
  obtain ⟨v,n,q,hc,_⟩:=hel 0 _ (by rw [Yo,hx]; rfl);simpa [Addr.add] using World.cell?_spot hc
 subst hspot;refine ⟨b,off,cap,?_,hcap,fun i x hx=>?_⟩
 ·have:=World.var?_cell hg hvar 0;rw [Array.eq_one_of_toList hcs] at this;simpa using this
 ·obtain ⟨v,n,q,hc,hr⟩:=hel i _ (by rw [Yo,hx]; rfl);rw [Zfv he hr] at hc;rwa [show ((⟨b,off,none⟩:Addr).add i)=⟨b,off + i,none⟩ by unfold Addr.add; split <;> simp_all] at hc
theorem Zjy {H:Type} {enc:TypeId×Value→H} {P:Program} {w:World} {base:Nat} {sp:Nat→Bool} {held:Bool} {fuel:Nat} {t e:TypeId} {n:Nat} {cs:List Value} {l:List (DataW H)} {p:List MemPlace}
 (ht:P.underlying t=some (.array n e)) (hce:P.cellsOf e=1) (hct:P.cellsOf t=n)
 (h:DataW.trod enc P w base sp held fuel t cs=some (.agg l,p)) (i:Nat) (r:DataW H) (hi:l[i]?=some r) :
 ∃ fuel' q,DataW.trod enc P w base sp held fuel' e ((cs.drop i).take 1)=some (r,q):=by
 cases fuel with
 | zero=>simp [DataW.trod] at h
 | succ fuel =>
   simp only [DataW.trod,ht,hce,hct,Nat.mul_one] at h;split at h
   ·rename_i hl;obtain ⟨xs,hm,hx⟩:=Option.map_eq_some_iff.1 h;have hxs:xs.map (·.1)=l:=by
     have:=congrArg Prod.fst hx;simpa using this
    have hxl:xs.length=n:=by simpa using Lib.mapM_length hm
    have hin:i < n:=by
     have h1:=(List.getElem?_eq_some_iff.1 hi).1;rw [← hxs,Yv] at h1;omega
    obtain ⟨b,hb,hf⟩:=Lib.mapM_at hm i i (by simp [hin]);have h2:(xs.map (·.1))[i]?=some b.1:=by simp [hb]
    rw [hxs,hi] at h2;exact ⟨fuel,b.2,by rw [Yk h2]; exact hf⟩
   ·cases h
theorem Z9j {P:Program} {W:World} {n1 name:String} {d1 d:DataW Unit} {rest:List (String×DataW Unit)} {g:Nat} {t e f:TypeId} {n:Nat} {l:List (List (List UInt8))}
 (hg:P.globalNamed name=some g) (hty:(P.globals[g]?).map (·.type)=some t) (ht:P.underlying t=some (.array n e)) (he:P.underlying e=some (.slice f)) (hf:P.underlying f=some .string)
 (hce:P.cellsOf e=1) (hcf:P.cellsOf f=1) (hct:P.cellsOf t=n)
 (hd:d=.agg (l.map fun r=>.slice (r.map fun b=>.lit (.string b)) [])) (h:laidMet P ((n1,d1) :: (name,d) :: rest) W) (i:Nat) (r:List (List UInt8)) (hi:l[i]?=some r) (hr:0 < r.length) :
 ∃ b off cap,W.cell? ⟨g,i,none⟩=some (.slice (some ⟨b,off,none⟩) r.length cap)∧r.length≤cap∧∀ j x,r[j]?=some x→W.cell? ⟨b,off + j,none⟩=some (.string ⟨x.toArray⟩):=by
 obtain ⟨ps,⟨_,_,_,_,_,_,_,_,_,_,h2,_⟩,_⟩:=h;obtain ⟨g',t',cs,fuel,p,q,hg',ht',hvar,hd',_,_⟩:=h2;obtain rfl:=Yk (hg.symm.trans hg');obtain rfl:=Yk (hty.symm.trans ht');rw [hd] at hd';obtain ⟨fuel',q',hrow⟩:=Zjy ht hce hct hd' i (.slice (r.map fun b=>.lit (.string b)) []) (by rw [Yo,hi]; rfl);obtain ⟨a,cap,hcs,hcap,hel⟩:=open_row he hcf hrow;rw [Yv] at hcs hcap;have hcell:W.cell? ⟨g,i,none⟩=some (.slice (some a) r.length cap):=by
  rw [World.var?_cell hg hvar i];have:=congrArg (·[0]?) hcs;simpa [List.getElem?_take,List.getElem?_drop] using this
 obtain ⟨b,off,spot⟩:=a;have hspot:spot=none:=by
  obtain ⟨x,hx⟩:∃ x,r[0]?=some x:=⟨r[0],Yd hr⟩
  obtain ⟨v,n,q,hc,_⟩:=hel 0 _ (by rw [Yo,hx]; rfl);simpa [Addr.add] using World.cell?_spot hc
 subst hspot;refine ⟨b,off,cap,hcell,hcap,fun j x hx=>?_⟩;obtain ⟨v,n,q,hc,hr⟩:=hel j _ (by rw [Yo,hx]; rfl);rw [Zfv hf hr] at hc;rwa [show ((⟨b,off,none⟩:Addr).add j)=⟨b,off + j,none⟩ by unfold Addr.add; split <;> simp_all] at hc
end Go.Proofs.YtmjfllklcpjddaaGreatDoor
