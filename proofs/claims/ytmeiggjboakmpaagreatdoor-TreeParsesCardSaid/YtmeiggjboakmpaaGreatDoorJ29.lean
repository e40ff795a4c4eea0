/- The document's parser: a statement; all of the reader, by the fuel. -/
import Derived.Test.YtmeiggjboakmpaaGreatDoorJ23
import Derived.Test.YtmeiggjboakmpaaGreatDoorJ25
import Derived.Test.YtmeiggjboakmpaaGreatDoorJ28
import Derived.RowKitTokens
import Derived.Lib.LaidTab
import Derived.LaidMore
import Derived.Stop.Joined
namespace Go.Proofs.YtmeiggjboakmpaaGreatDoor
open Go Go.RowKit
set_option maxRecDepth 100000
set_option maxHeartbeats 20000000
set_option linter.unusedVariables false
theorem Zmr (f:Nat) (hBr:Z1s 34 (Zaa false) (.braces false) f) (hFn:∀ s,Z1s 37 (fArg 5 s) (.func 5 s) f) (hH:Z1s 38 qd .head f) (hS2:Z1s 39 qd .stmt2 f) (hV:Z1s 41 qd .value f):Z1s 13 qd .stmt (f + 1):=by
 intro w C B d σ t σ' hQ hr hB hdf hp;rw [refF] at hp;by_cases c:30 < d
 ·rw [Yb c] at hp;obtain ⟨rfl, rfl⟩ : gT = t ∧ Z39 4 σ = σ' := by simpa using hp
  exact Zhr w C B d σ hQ hr hB c (by omega)
 rw [Y9 c] at hp;have hd:d≤30:=by omega
 by_cases n1:Zl Zi σ=true
 ·rw [Yb n1] at hp;exact Zd9 f hBr w C B d σ t σ' hQ hr hB hd hdf n1 hp
 rw [Y9 n1] at hp;by_cases n2:Zl Zs σ=true
 ·rw [Yb n2] at hp;obtain ⟨rfl, rfl⟩ : Tree.mk 16 ByteArray.empty 0 [] = t ∧ advR σ = σ' := by simpa using hp
  exact Zhn w C B d σ hQ hr hB hd n2
 rw [Y9 n2] at hp;by_cases n3:Zl Ze σ=true
 ·rw [Yb n3] at hp;exact Zar f hFn w C B d σ t σ' hQ hr hB hd hdf (fun s h=>Z2n n3 (Ne.symm h)) n3 hp
 rw [Y9 n3] at hp;by_cases n4:Zl s_if σ=true
 ·rw [Yb n4] at hp;obtain ⟨x, σ1, hx, hp⟩ := Zn hp;obtain ⟨y, σ2, hy, hp⟩ := Zn hp;by_cases n5 : Zl Z1y σ2 = true
  ·rw [Yb n5] at hp;obtain ⟨z, σ3, hz, hp⟩ := Zn hp;obtain ⟨rfl, rfl⟩ : Tree.mk 7 ByteArray.empty 0 [x, y, z] = t ∧ σ3 = σ' := by simpa using hp
   exact Zd3 f hH hS2 x y z σ1 σ2 w C B d σ _ _ hQ hr hB hd hdf (fun s h=>Z2n n4 (Ne.symm h)) n4 rfl n5 hx hy hz
  ·rw [Y9 n5] at hp;obtain ⟨rfl, rfl⟩ : Tree.mk 7 ByteArray.empty 0 [x, y] = t ∧ σ2 = σ' := by simpa using hp
   exact Zke f hH hS2 x y σ1 w C B d σ _ _ hQ hr hB hd hdf (fun s h=>Z2n n4 (Ne.symm h)) n4 rfl (by simpa using n5) hx hy
 rw [Y9 n4] at hp;by_cases n5:(Zl Zz σ || Zl Z0d σ)=true
 ·rw [Yb n5] at hp;obtain ⟨x, σ1, hx, hp⟩ := Zn hp;obtain ⟨y, σ2, hy, hp⟩ := Zn hp;by_cases n6 : Zl Z0d σ = true
  ·rw [Yb n6] at hp;obtain ⟨rfl, rfl⟩ : Tree.mk 9 ByteArray.empty 0 [x, y] = t ∧ σ2 = σ' := by simpa using hp
   exact Zgu f hH hS2 x y σ1 w C B d σ _ _ hQ hr hB hd hdf (fun s h=>Z2n n6 (Ne.symm h)) n6 rfl hx hy
  ·rw [Y9 n6] at hp;obtain ⟨rfl, rfl⟩ : Tree.mk 8 ByteArray.empty 0 [x, y] = t ∧ σ2 = σ' := by simpa using hp
   have n7:Zl Zz σ=true:=by
    simp only [Bool.or_eq_true] at n5;exact n5.resolve_right n6
   exact Zfd f hH hS2 x y σ1 w C B d σ _ _ hQ hr hB hd hdf (fun s h=>Z2n n7 (Ne.symm h)) n7 rfl hx hy
 rw [Y9 n5] at hp;simp only [Bool.or_eq_true,not_or] at n5;by_cases n7:Zl Z1j σ=true
 ·rw [Yb n7] at hp;have hsee : ∀ s : ByteArray, s ≠ Z1j → Zl s σ = false := fun s h => Z2n n7 (Ne.symm h);obtain ⟨b, σ1, hb, hp⟩ := Zn hp;by_cases m1 : Zl Z0r σ1 = true
  ·simp only [if_pos m1] at hp;obtain ⟨c', σ2, hc, hp⟩ := Zn hp;by_cases m2 : Zl Zt σ2 = true
   ·simp only [if_pos m2] at hp;obtain ⟨e', σ3, he, hp⟩ := Zn hp;obtain ⟨rfl, rfl⟩ : Tree.mk 12 ByteArray.empty 0 [b, .mk 13 (Zw (Z0y Z0u (advR σ1))).1 0 [c'], .mk 14 ByteArray.empty 0 [e']] = t ∧ σ3 = σ' := by simpa [tryF] using hp
    exact Z8g f hBr b σ1 w C B d σ _ _ hQ hr hB hd hdf hsee n7 hb (.inr (.inr (.inr ⟨c',e',σ2,m1,m2,rfl,hc,he⟩)))
   ·simp only [if_neg m2] at hp;obtain ⟨rfl, rfl⟩ : Tree.mk 12 ByteArray.empty 0 [b, .mk 13 (Zw (Z0y Z0u (advR σ1))).1 0 [c']] = t ∧ σ2 = σ' := by simpa [tryF] using hp
    exact Z8g f hBr b σ1 w C B d σ _ _ hQ hr hB hd hdf hsee n7 hb (.inr (.inr (.inl ⟨c',m1,by simpa using m2,rfl,hc⟩)))
  ·simp only [if_neg m1] at hp;by_cases m2 : Zl Zt σ1 = true
   ·simp only [if_pos m2] at hp;obtain ⟨e', σ3, he, hp⟩ := Zn hp;obtain ⟨rfl, rfl⟩ : Tree.mk 12 ByteArray.empty 0 [b, .mk 14 ByteArray.empty 0 [e']] = t ∧ σ3 = σ' := by simpa [tryF] using hp
    exact Z8g f hBr b σ1 w C B d σ _ _ hQ hr hB hd hdf hsee n7 hb (.inr (.inl ⟨e',by simpa using m1,m2,rfl,he⟩))
   ·simp only [if_neg m2] at hp;obtain ⟨rfl, rfl⟩ : Tree.mk 12 ByteArray.empty 0 [b] = t ∧ Z39 3 σ1 = σ' := by simpa [tryF] using hp
    exact Z8g f hBr b σ1 w C B d σ _ _ hQ hr hB hd hdf hsee n7 hb (.inl ⟨by simpa using m1,by simpa using m2,rfl,rfl⟩)
 rw [Y9 n7] at hp;by_cases n8:Zl Z18 σ=true
 ·have hdk : Z45 σ = 2 := by simp [Z45, n8]
  have hsee:∀ s:ByteArray,s≠Z18→Zl s σ=false:=fun s h=>Z2n n8 (Ne.symm h);rw [hdk,Yb (by decide)] at hp;have hmq:Z28 2 (Zw (advR σ)).2=(Zw (advR σ)).2:=by simp [Z28]
  rw [hmq] at hp;exact Zjl f hV w C B d σ t σ' hQ hr hB hd hdf hsee n8 hp
 by_cases n9:Zl Z1c σ=true
 ·have hdk : Z45 σ = 3 := by simp [Z45, n8, n9]
  have hsee:∀ s:ByteArray,s≠Z1c→Zl s σ=false:=fun s h=>Z2n n9 (Ne.symm h);rw [hdk,Yb (by decide)] at hp;have hmq:Z28 3 (Zw (advR σ)).2=(Zw (advR σ)).2:=by simp [Z28]
  rw [hmq] at hp;exact Zji f hV w C B d σ t σ' hQ hr hB hd hdf hsee n9 hp
 by_cases n10:Zl Z06 σ=true
 ·have hdk : Z45 σ = 4 := by simp [Z45, n8, n9, n10]
  have hsee:∀ s:ByteArray,s≠Z06→Zl s σ=false:=fun s h=>Z2n n10 (Ne.symm h);rw [hdk,Yb (by decide)] at hp;exact Zex f hV w C B d σ t σ' hQ hr hB hd hdf hsee n10 hp
 by_cases n11:Zl Z08 σ=true
 ·have hdk : ¬ Z45 σ ≠ 0 := by simp [Z45, n8, n9, n10]
  rw [Y9 hdk,Yb n11] at hp;have hsee:∀ s:ByteArray,s≠Z08→Zl s σ=false:=fun s h=>Z2n n11 (Ne.symm h);by_cases m1:Zl Zs (advR σ)=true
  ·rw [Yb m1] at hp;obtain ⟨rfl, rfl⟩ : Tree.mk 10 ByteArray.empty 0 [] = t ∧ Z0y Zs (advR σ) = σ' := by simpa using hp
   exact Zbj f w C B d σ _ _ hQ hr hB hd hdf hsee n11 rfl rfl m1
  ·rw [Y9 m1] at hp;obtain ⟨x, σ1, hx, hp⟩ := Zn hp;obtain ⟨rfl, rfl⟩ : Tree.mk 10 ByteArray.empty 0 [x] = t ∧ Z0y Zs σ1 = σ' := by simpa using hp
   exact Zbm f hV x σ1 w C B d σ _ _ hQ hr hB hd hdf hsee n11 rfl rfl (by simpa using m1) hx
 have hdk:¬ Z45 σ≠0:=by simp [Z45,n8,n9,n10]
 rw [Y9 hdk,Y9 n11] at hp;by_cases n12:Zl Z0s σ=true
 ·rw [Yb n12] at hp;obtain ⟨x, σ1, hx, hp⟩ := Zn hp;obtain ⟨rfl, rfl⟩ : Tree.mk 11 ByteArray.empty 0 [x] = t ∧ Z0y Zs σ1 = σ' := by simpa using hp
  exact Zf8 f hV x σ1 w C B d σ _ _ hQ hr hB hd hdf (fun s h=>Z2n n12 (Ne.symm h)) n12 rfl rfl hx
 rw [Y9 n12] at hp;obtain ⟨x,σ1,hx,hp⟩:=Zn hp;obtain ⟨rfl,rfl⟩:Tree.mk 15 ByteArray.empty 0 [x]=t∧Z0y Zs σ1=σ':=by simpa using hp
 refine Zhf f hV x σ1 w C B d σ _ _ hQ hr hB hd hdf (fun s h=>?_) rfl rfl hx;simp only [List.mem_cons,List.not_mem_nil,or_false] at h;rcases h with rfl | rfl | rfl | rfl | rfl | rfl | rfl | rfl | rfl | rfl | rfl | rfl;·simpa using n1
 ·simpa using n2
 ·simpa using n3
 ·simpa using n4
 ·simpa using n5.1
 ·simpa using n5.2
 ·simpa using n7
 ·simpa using n8
 ·simpa using n9
 ·simpa using n10
 ·simpa using n11
 ·simpa using n12
structure AllQ (f:Nat):Prop where
 br:∀ b,Z1s 34 (Zaa b) (.braces b) f
 st:Z1s 13 qd .stmt f
 st2:Z1s 39 qd .stmt2 f
 hd:Z1s 38 qd .head f
 fn:∀ k s,Z1s 37 (fArg k s) (.func k s) f
 va:Z1s 41 qd .value f
 si:Z1s 97 qd .single f
 fi:Z1s 113 qd .first f
theorem Z1s.zero (F:FuncId) (args:Nat→Nat→Array Value) (job:RJob):Z1s F args job 0:=by
 intro w C B d σ t σ' _ _ _ _ hp;rw [refF] at hp;cases hp
theorem Zmt (f:Nat):AllQ f:=by
 induction f using Nat.strongRecOn with
 | _ f ih=>
 cases f with
 | zero=>exact ⟨fun b=>.zero _ _ _,.zero _ _ _,.zero _ _ _,.zero _ _ _,fun k s=>.zero _ _ _,.zero _ _ _,.zero _ _ _,.zero _ _ _⟩
 | succ f =>
   have h:=ih f (by omega);refine ⟨fun b=>?_,Zmr f (h.br false) (fun s=>h.fn 5 s) h.hd h.st2 h.va,Zlr f h.st,Zm2 f h.va,fun k s=>Zms f k s (h.br true),?_,?_,?_⟩
   ·cases b with
    | false=>exact Z9m f fun g hg=>(ih g (by omega)).st
    | true=>exact Zat f fun g hg=>(ih g (by omega)).st
   ·exact Zkt f (Zgk f (fun g hg=>(ih g (by omega)).si) 0 (by omega) f (by omega)) h.va
   ·exact Zhz f h.si h.fi fun g hg=>(ih g (by omega)).va
   ·exact Zka f h.hd (fun g hg=>(ih g (by omega)).va) fun s=>h.fn 37 s
theorem Zdb (text:ByteArray) (j:Nat) (e:Int×Nat) (h:Z1f text j=.error e):e.1≠0:=by
 unfold Z1f at h;simp only at h;split at h
 ·split at h;·cases h
  ·split at h;·cases h; simp
   ·cases h
 ·split at h
  ·split at h;·cases h; simp
   ·split at h;·cases h; simp
    ·cases h
  ·split at h
   ·split at h;·cases h; simp
    ·split at h;·cases h; simp
     ·cases h
   ·split at h;·cases h; simp
    ·cases h
theorem Zfb (text:ByteArray):∀ (f i:Nat) (acc:List Tok) (e:Int×Nat),lexF text f i acc=.error e→e.1≠0:=by
 intro f;induction f with
 | zero=>intro i acc e h; simp [lexF] at h
 | succ f ih =>
   intro i acc e h;simp only [lexF] at h;split at h;·cases h
   ·split at h
    ·rename_i e' ht;cases h;exact Zdb text _ _ ht
    ·exact ih _ _ _ h
theorem Zay (w:World) (text:ByteArray) (hm:3000 < text.size) :
 Calls Tryz.prog 11 #[.string text] w fun e w'=>e=.returned (.tuple #[.slice none 0 0,.agg #[.int .i64 4,.int .i64 (-1)]])∧Below w.heap.size w w':=by
 have hmI:(3000:Int) < (text.size:Int):=by omega
 have hst:RMid w (w.alloc (.cells #[.int .i64 0,.int .i64 0] 25)) (.slice none 0 0) []:=⟨(Go.MapKept.heap_alloc w _).1,(Y8 _ _).alloc (Y5 _) _,World.ownsRow_nil _ _ _ _⟩
 have ST:=lh hst;have HB:=lh (Zbh (w.alloc (.cells #[.int .i64 0,.int .i64 0] 25)) 4);clear hst hm;go_enter Tryz.func11,Tryz.ntmps11
 go_wp2_with fail
 refine HB.out.mono ?_;rintro e w1 ⟨rfl,hb⟩;have HM:=lh (ST.out.on hb);have z0:w1.cell? ⟨w.heap.size,0,none⟩=some (.int .i64 0):=by simp [World.cell?,HM.out.blk]
 have z1:w1.cell? ⟨w.heap.size,1,none⟩=some (.int .i64 0):=by simp [World.cell?,HM.out.blk]
 have y0:w1.frozen? ⟨w.heap.size,0,none⟩=false:=by simp [World.frozen?,HM.out.blk]
 have y1:w1.frozen? ⟨w.heap.size,1,none⟩=false:=by simp [World.frozen?,HM.out.blk]
 have EP:=lh (HM.out.put (.int .i64 4) (.int .i64 (-1)));have EF:=lh (HM.out.fin (.int .i64 4) (.int .i64 (-1)));clear hb HB;go_wp2;refine bodyPost_ret (rres (cb:=w.heap.size) rfl rfl EP.out.1 EP.out.2) rfl ?_;exact ⟨rfl,EF.out.2⟩
theorem Z9v (w:World) (text:ByteArray) (c p:Int) (hc:c≠0)
 (HC:∀ w0,Below w.heap.size w w0→Calls Tryz.prog 11 #[.string text] w0 fun e w'=>e=.returned (.tuple #[.slice none 0 0,.agg #[.int .i64 c,.int .i64 p]])∧Below w0.heap.size w0 w') :
 Calls Tryz.prog 4 #[.string text] w (Z6i w (.error (c,p))):=by
 obtain ⟨w0,hw0⟩:=zX (w.alloc (.cells #[.int .i64 0,.int .i64 0] 25))
 have hal:Below w.heap.size w w0:=by rw [hw0]; exact (Y8 _ _).alloc (Y5 _) _
 have hs0:w0.heap.size=w.heap.size + 1:=by rw [hw0]; simp
 have hA0:w0.heap[w.heap.size]?=some (.cells #[.int .i64 0,.int .i64 0] 25 (0,0)):=by rw [hw0]; exact heap_alloc_new _ _
 have HT:=lh (HC w0 hal);have nc:(c != 0)=true:=by simpa using hc
 have HCC:=lh hc;have HAL:=lh hal;have HS0:=lh hs0;have HA0:=lh hA0;have HW0:=lh hw0;clear hw0 hal hs0 hA0 HC hc;go_enter Tryz.func4,Tryz.ntmps4
 go_wp2_with fail
 rw [← HW0.out];refine HT.out.mono ?_;rintro e w1 ⟨rfl,hB⟩;obtain ⟨ab,hab⟩:=zX w.heap.size
 have hA1:w1.heap[ab]?=some (.cells #[.int .i64 0,.int .i64 0] 25 (0,0)):=by rw [hab]; exact (hB.block w.heap.size (by rw [HS0.out]; omega)).trans HA0.out
 obtain ⟨w2,hw2⟩:=zX (w1.alloc (.cells #[.int .i64 c,.int .i64 p] 25))
 have h12:Below w1.heap.size w1 w2:=by rw [hw2]; exact (Y8 _ _).alloc (Y5 _) _
 have hf2:w2.heap[w1.heap.size]?=some (.cells #[.int .i64 c,.int .i64 p] 25 (0,0)):=by rw [hw2]; exact heap_alloc_new _ _
 have hA2:w2.heap[ab]?=some (.cells #[.int .i64 0,.int .i64 0] 25 (0,0)):=(h12.block ab (Y6.1 hA1).1).trans hA1;have f0:w2.cell? ⟨w1.heap.size,0,none⟩=some (.int .i64 c):=by simp [World.cell?,hf2]
 have f1:w2.cell? ⟨w1.heap.size,1,none⟩=some (.int .i64 p):=by simp [World.cell?,hf2]
 have x0:w2.cell? ⟨ab,0,none⟩=some (.int .i64 0):=by simp [World.cell?,hA2]
 have x1:w2.cell? ⟨ab,1,none⟩=some (.int .i64 0):=by simp [World.cell?,hA2]
 have xz0:w2.frozen? ⟨ab,0,none⟩=false:=by simp [World.frozen?,hA2]
 have xz1:w2.frozen? ⟨ab,1,none⟩=false:=by simp [World.frozen?,hA2]
 have HA2:=lh hA2;have HW2:=lh hw2;have HAB:=lh hab;have BEL:=lh ((HAL.out.trans (hB.mono HAL.out.size)).trans (h12.mono (by have:=HS0.out; have:=hB.size; omega)));clear hB hA1 hw2 h12 hf2 hA2 hab HT;go_wp2_with fail
 rw [← HW2.out,← HAB.out];refine Zf [0,2] [2] (fun W=>W.cell? ⟨w1.heap.size,0,none⟩=some (.int .i64 c)∧W.cell? ⟨w1.heap.size,1,none⟩=some (.int .i64 p)) ⟨f0,f1⟩ fun _=>?_;simp only [Zh,pD,zD,zE,zF,zG,zH,zI,zJ,zK]
 iterate 2
  first | refine Za _ ?_ | refine Zb ?_
  simp only [Act.put,zA,zB,zC]
 refine Z6 ?_;go_wp2;have hput:=put2 HA2.out (.int .i64 c) (.int .i64 p);refine bodyPost_ret (Zi1 (cb:=ab) (v:=.pointer none) rfl rfl hput.1 hput.2) rfl ?_;have h1:=(BEL.out.setCell (p:=⟨ab,0,none⟩) (by rw [HAB.out]; exact Y5 _) (.int .i64 c)).setCell (p:=⟨ab,1,none⟩) (by rw [HAB.out]; exact Y5 _) (.int .i64 p);exact ⟨by first | exact h1 | exact h1.drew,HCC.out,rfl⟩
theorem Zei (w:World) (text:ByteArray) (hW:Z7k w) (hF:Z7e w) :
 Calls Tryz.prog 4 #[.string text] w (Z6i w (Z1o text)):=by
 by_cases hm:3000 < text.size
 ·have e : Z1o text = .error (4, -1) := by unfold Z1o; rw [Yb hm]
  rw [e];exact Z9v w text 4 (-1) (by decide) fun w0 _=>Zay w0 text hm
 ·cases ht : Z6h text with
  | ok ts=>exact Zd8 (fun g=>(Zmt g).st) w text (by omega) hW hF ts ht
  | error x =>
    obtain ⟨c,p⟩:=x;have e:Z1o text=.error (c,(p:Int)):=by unfold Z1o; rw [Y9 hm,ht]
    rw [e];refine Z9v w text c p (Zfb text _ _ _ (c,p) ht) fun w0 hb=>?_;have HC:=Z8s w0 text (by omega) (hW.below hb) (hF.below hb);rw [ht] at HC;exact HC
theorem Zew {a b:ATree} (h:a.tree=b.tree):a.kind=b.kind∧a.text=b.text∧a.n=b.n∧Zr a.kids=Zr b.kids:=by
 cases a; cases b;simp only [ATree.tree,Tree.mk.injEq] at h;exact h
theorem Zgc {l m:List ATree} (h:Zr l=Zr m):l.length=m.length:=by
 have:=congrArg List.length h;rwa [Z26,Z26,Yv,Yv] at this
theorem Zj2 {l m:List ATree} {k:Nat} {x y:ATree} (h:Zr l=Zr m) (hx:l[k]?=some x) (hy:m[k]?=some y):x.tree=y.tree:=by
 rw [Z26,Z26] at h;have:=congrArg (fun r=>r[k]?) h;simp only [List.getElem?_map,hx,hy,Option.map_some,Option.some.injEq] at this;exact this
theorem Zj1 (n0:Nat):∀ (a b:ATree),a.many≤n0→a.many≤100000→a.tree=b.tree→∀ (w:World) (B1 B2:Nat),TreeAt w B1 a→TreeAt w B2 b →
 Calls Tryz.prog 7 #[a.ptr,b.ptr] w fun e w'=>e=.returned (.bool true)∧Below w.heap.size w w':=by
 induction n0 with
 | zero=>intro a b h; cases a; simp [ATree.many] at h
 | succ n0 ih=>
 intro a b hn hmx hab w B1 B2 hT1 hT2;have HIH:=lh ih;obtain ⟨e1,e2,e3,e4⟩:=Zew hab;have e5:=Zgc e4;obtain ⟨p,cp,hv,hge,hgm⟩:=hT1.vOf;obtain ⟨q,cq,hw,hhe,hhm⟩:=hT2.vOf;have a0:=hT1.c0;have a1:=hT1.c1;have a3:=hT1.c3;have b0:=hT2.c0;have b1:=hT2.c1;have b3:=hT2.c3;have a2:w.cell? ⟨a.b,2,none⟩=some (.int .i64 a.n):=by simp [World.cell?,hT1.blkOf]
 have b2:w.cell? ⟨b.b,2,none⟩=some (.int .i64 b.n):=by simp [World.cell?,hT2.blkOf]
 rw [← e1] at b0;rw [← e2] at b1;rw [← e3] at b2;rw [hv] at a3;rw [hw,← e5] at b3;rw [← e5] at hhe;have hkm:=Zb7 a;have hlen:a.kids.length≤100000:=by omega
 have HT1:=lh hT1;have HT2:=lh hT2;have HV:=lh hv;have HW:=lh hw;have HE4:=lh e4;have HNN:=lh hn;have HMX:=lh hmx;unfold ATree.ptr;obtain ⟨n,hnn⟩:=zX a.kids.length
 rw [← hnn] at a3 b3 hge hhe hlen e5;have HN:=lh hnn;have HN2:=lh e5;obtain ⟨kd,hkd⟩:=zX a.kind
 obtain ⟨tx,htx⟩:=zX a.text
 obtain ⟨nn,hnv⟩:=zX a.n
 rw [← hkd] at a0 b0;rw [← htx] at a1 b1;rw [← hnv] at a2 b2;have hkk:(kd == kd)=true:=beq_self_eq_true _;have htt:(tx.toList == tx.toList)=true:=beq_self_eq_true _;have hvv:(nn == nn)=true:=beq_self_eq_true _;have hll:((n:Int) == (n:Int))=true:=beq_self_eq_true _;clear hab hn hmx e1 e2 e3 e4 e5 hv hw hkm hnn hkd htx hnv hT1 hT2 ih;go_enter Tryz.func7,Tryz.ntmps7
 go_wp2_with fail
 refine Zf [0,2,4,6,8,10,12,14,16,18,20,22,24,26,28,30,32,34,36,38,40,42,44,46,48,50,52,54,56,58,60,62,64,66,68,70,72,74,76,78,80,82] [42,43] (fun W=>W.cell? ⟨a.b,0,none⟩=some (.int .i64 kd)∧W.cell? ⟨b.b,0,none⟩=some (.int .i64 kd)∧W.cell? ⟨a.b,1,none⟩=some (.string tx)∧W.cell? ⟨b.b,1,none⟩=some (.string tx)∧W.cell? ⟨a.b,2,none⟩=some (.int .i64 nn)∧W.cell? ⟨b.b,2,none⟩=some (.int .i64 nn)∧W.cell? ⟨a.b,3,none⟩=some (.slice p n cp)∧W.cell? ⟨b.b,3,none⟩=some (.slice q n cq)) ⟨a0,b0,a1,b1,a2,b2,a3,b3⟩ fun _=>?_
 simp only [Zh,pD,zD,zE,zF,zG,zH,zI,zJ,zK]
 iterate 42
  first | refine Za _ ?_ | refine Zb ?_
  simp only [Act.put,zA,zB,zC]
 refine Z6 ?_;go_wp2_with fail
 go_loopw [64] (fun i wr=>∃ (k:Nat),k≤n∧i=.int .i64 k∧Hid (Below w.heap.size w wr)) (fun i _=>n - (intOf i).toNat)
 case atStart=>exact ⟨0,Yp _,rfl,lh (by repeat (first | exact Y8 _ _ | refine Below.drew ?_))⟩
 case round=>
  obtain ⟨k,hk,rfl,HB⟩:=hrel;by_cases hkn:k < n
  ·obtain ⟨x, hx⟩ : ∃ x, a.kids[k]? = some x := ⟨_, Yd (by rw [← HN.out]; exact hkn)⟩
   obtain ⟨y,hy⟩:∃ y,b.kids[k]?=some y:=⟨_,Yd (by rw [← HN2.out]; exact hkn)⟩
   have hTa:=HT1.out.bel HB.out;have hTb:=HT2.out.bel HB.out;have hra:=hTa.rowOf;have hrb:=hTb.rowOf;rcases Zp hra with ⟨_,h2⟩ | ⟨g0,cap0,hv0,_⟩;·rw [← HN.out] at h2; omega
   rcases Zp hrb with ⟨_,h2⟩ | ⟨g1,cap1,hv1,_⟩;·rw [← HN2.out] at h2; omega
   have hp:p=some ⟨g0,0,none⟩:=by
    have:=HV.out.symm.trans hv0;simp only [Value.slice.injEq] at this;exact this.1
   have hq:q=some ⟨g1,0,none⟩:=by
    have:=HW.out.symm.trans hv1;simp only [Value.slice.injEq] at this;exact this.1
   subst hp hq;have cx:=Z17 hra (g:=g0) (by rw [hv0]; rfl) (i:=k) (x:=x.ptr) (by rw [Yo,hx]; rfl);have cy:=Z17 hrb (g:=g1) (by rw [hv1]; rfl) (i:=k) (x:=y.ptr) (by rw [Yo,hy]; rfl);unfold ATree.ptr at cx cy;have j3:wr.cell? ⟨a.b,3,none⟩=some (.slice (some ⟨g0,0,none⟩) n cp):=(Yj (HB.out.block a.b HT1.out.lt)).trans a3;have l3:wr.cell? ⟨b.b,3,none⟩=some (.slice (some ⟨g1,0,none⟩) n cq):=(Yj (HB.out.block b.b HT2.out.lt)).trans b3;have hxm:=Zam (Yl hx)
   have HC:=lh (fun (W:World) (hW:Below wr.heap.size wr W)=>HIH.out x y (by have:=HNN.out; omega) (by have:=HMX.out; omega) (Zj2 HE4.out hx hy) W B1 B2 ((hTa.kid (Yl hx)).bel hW) ((hTb.kid (Yl hy)).bel hW));unfold ATree.ptr at HC;clear hTa hTb hra hrb hv0 hv1 hx hy hxm a0 a1 a2 a3 b0 b1 b2 b3;go_wp2_with fail
   refine Zf [0,2,4,6,8,10,12,14,16,18,20,22,24,26] [14,15] (fun W=>W.cell? ⟨a.b,3,none⟩=some (.slice (some ⟨g0,0,none⟩) n cp)∧W.cell? ⟨b.b,3,none⟩=some (.slice (some ⟨g1,0,none⟩) n cq)∧W.cell? ⟨g0,k,none⟩=some (.pointer (some ⟨x.b,0,none⟩))∧W.cell? ⟨g1,k,none⟩=some (.pointer (some ⟨y.b,0,none⟩))) ⟨j3,l3,cx,cy⟩ fun _=>?_;simp only [Zh,pD,zD,zE,zF,zG,zH,zI,zJ,zK]
   iterate 14
    first | refine Za _ ?_ | refine Zb ?_
    simp only [Act.put,zA,zB,zC]
   refine Z6 ?_;go_wp2_with fail
   refine (HC.out _ (by repeat (first | exact Y8 _ _ | refine Below.drew ?_))).mono ?_;rintro e w1 ⟨rfl,hb1⟩;have HB1:=lh (show Below w.heap.size w w1 from HB.out.trans (Below.mono (show Below wr.heap.size wr w1 from ((Y8 wr.heap.size wr).drew).trans hb1) HB.out.size));clear hb1 HC;go_wp2;go_roundw
   case rel=>exact ⟨k + 1,by omega,by go_num,HB1⟩
   case measure=>simp [intOf]; omega
  ·have hk2 : k = n := by omega
   subst hk2;go_wp2;go_ret;exact ⟨rfl,HB.out⟩
end Go.Proofs.YtmeiggjboakmpaaGreatDoor
namespace Go.Proofs.YtmeiggjboakmpaaGreatDoor
open Go.RowKit Go.Extern.Stop Go.Stop Go.Extern
set_option maxRecDepth 100000
set_option maxHeartbeats 20000000
set_option linter.unusedVariables false
theorem Tryz.valueOf27 (t:Addr) (w:World):(ReflectliteValue.unpack (.iface 116 (.pointer (some t)))).run Tryz.prog w
 = .ok (.agg #[.pointer (some ⟨13,116,none⟩),.pointer (some ⟨w.heap.size,0,none⟩),.int .u64 150]) (w.alloc (.cells #[.pointer (some t)] 116)):=by kernel_rfl
theorem Tryz.type27 (a : Addr) (w : World) : (ReflectliteValue.methodAny (ReflectliteValue.valueError "reflectlite.Value.Type" 0) (fun t _ _ _ => ReflectliteType.toType t) #[.agg #[.pointer (some ⟨13, 116, none⟩), .pointer (some a), .int .u64 150]]).run Tryz.prog w
 = .ok (.iface 155 (.agg #[.pointer (some ⟨13,116,none⟩)])) w:=by kernel_rfl
theorem Tryz.methodKind (h : Value) (w : World) : (Go.method 389 155 (.agg #[h]) "Kind").run Tryz.prog w = .ok (187, h) w := by kernel_rfl
theorem Tryz.kind27 (w:World):((ReflectliteType.abiMethod fun t=>(fun a:Nat=>Value.int IntKind.u8 (a:Int)) <$> Rtype.kind t) #[.pointer (some ⟨13,116,none⟩)]).run Tryz.prog w=.ok (.int .u8 22) w:=by kernel_rfl
theorem Tryz.kind25 (w:World):((ReflectliteType.abiMethod fun t=>(fun a:Nat=>Value.int IntKind.u8 (a:Int)) <$> Rtype.kind t) #[.pointer (some ⟨13,23,none⟩)]).run Tryz.prog w=.ok (.int .u8 2) w:=by kernel_rfl
theorem rlm (z:Sem Value) (f:TypeId→Addr→Nat→Nat→Sem Value) (v:Value) :
 ReflectliteValue.method z f #[v]=(do match ← ReflectliteValue.parts v with | none=>z | some (t,a,fl)=>f t a fl (fl % 32)):=rfl
theorem Tryz.parts27 (a:Addr) (w:World):(ReflectliteValue.parts (.agg #[.pointer (some ⟨13,116,none⟩),.pointer (some a),.int .u64 150])).run Tryz.prog w=.ok (some (116,a,150)) w:=by kernel_rfl
theorem Tryz.isNil27 (a p:Addr) (W:World) (ha:W.cell? a=some (.pointer (some p))) :
 (ReflectliteValue.method (ReflectliteValue.valueError "reflectlite.Value.IsNil" 0) ReflectliteValue.isNil #[.agg #[.pointer (some ⟨13, 116, none⟩), .pointer (some a), .int .u64 150]]).run Tryz.prog W = .ok (.bool false) W := by
 rw [rlm];simp only [Sem.run_bind,Tryz.parts27,Result.andThen];simp [ReflectliteValue.isNil,loadVar,isAgg,underlying,Tryz.underlying116,ha,Result.andThen]
theorem Tryz.methodElem (h : Value) (w : World) : (Go.method 389 155 (.agg #[h]) "Elem").run Tryz.prog w = .ok (203, .agg #[h]) w := by kernel_rfl
theorem Tryz.methodImplements (h : Value) (w : World) : (Go.method 389 155 (.agg #[h]) "Implements").run Tryz.prog w = .ok (204, .agg #[h]) w := by kernel_rfl
theorem Tryz.methodAssignableTo (h : Value) (w : World) : (Go.method 389 155 (.agg #[h]) "AssignableTo").run Tryz.prog w = .ok (201, .agg #[h]) w := by kernel_rfl
theorem Tryz.elem27 (w:World):(ReflectliteType.method ReflectliteType.elem #[.agg #[.pointer (some ⟨13,116,none⟩)]]).run Tryz.prog w=.ok (.iface 155 (.agg #[.pointer (some ⟨13,23,none⟩)])) w:=by kernel_rfl
theorem Tryz.implements25 (w : World) : (ReflectliteType.relation "Implements" ReflectliteType.implements_ #[.agg #[.pointer (some ⟨13, 23, none⟩)], .iface 155 (.agg #[.pointer (some ⟨13, 29, none⟩)])]).run Tryz.prog w = .ok (.bool true) w := by kernel_rfl
theorem Tryz.typeOf25 (v:Value) (w:World):(ReflectliteType.typeOf #[.iface 23 v]).run Tryz.prog w=.ok (.iface 155 (.agg #[.pointer (some ⟨13,23,none⟩)])) w:=by kernel_rfl
theorem Tryz.assignable25 (w : World) : (ReflectliteType.relation "AssignableTo" ReflectliteType.assignableTo #[.agg #[.pointer (some ⟨13, 23, none⟩)], .iface 155 (.agg #[.pointer (some ⟨13, 23, none⟩)])]).run Tryz.prog w = .ok (.bool true) w := by kernel_rfl
theorem Tryz.valueOf25 (e:Int) (w:World):(ReflectliteValue.unpack (.iface 23 (.int .i64 e))).run Tryz.prog w
 = .ok (.agg #[.pointer (some ⟨13,23,none⟩),.pointer (some ⟨w.heap.size,0,none⟩),.int .u64 130]) (w.alloc (.cells #[.int .i64 e] 23)):=by kernel_rfl
theorem Tryz.elemOf27 (w:World):(Rtype.elem? 116).run Tryz.prog w=.ok (some 23) w:=by kernel_rfl
theorem Tryz.mk25 (p:Addr) (w:World):(ReflectliteValue.mk 23 p ReflectliteValue.flagAddr).run Tryz.prog w=.ok (.agg #[.pointer (some ⟨13,23,none⟩),.pointer (some p),.int .u64 386]) w:=by kernel_rfl
theorem Tryz.elemV27 (a p:Addr) (W:World) (ha:W.cell? a=some (.pointer (some p))) :
 (ReflectliteValue.method (ReflectliteValue.valueError "reflectlite.Value.Elem" 0) ReflectliteValue.elem #[.agg #[.pointer (some ⟨13, 116, none⟩), .pointer (some a), .int .u64 150]]).run Tryz.prog W
  = .ok (.agg #[.pointer (some ⟨13,23,none⟩),.pointer (some p),.int .u64 386]) W:=by
 rw [rlm];simp only [Sem.run_bind,Tryz.parts27,Result.andThen];simp [ReflectliteValue.elem,loadVar,isAgg,underlying,Tryz.underlying116,ha,Result.andThen,Tryz.elemOf27,Tryz.mk25]
theorem rls (v x:Value):ReflectliteValue.set #[v,x]=(do
 let (some (dst,a,fl),some (src,b,_)):=(← ReflectliteValue.parts v,← ReflectliteValue.parts x)
  | unsupported (.noEntry "extern/(internal/reflectlite.Value).Set.zeroValue")
 if fl / ReflectliteValue.flagAddr % 2 == 0 then unsupported (.noEntry "extern/(internal/reflectlite.Value).Set.unaddressable")
 let val ← loadVar src b
 if ← Rtype.directlyAssignable dst src then storeVar dst a val
 else if ← Rtype.implements dst src then
  if (← Rtype.kind src) == 20 then
   match val with
   | .nilIface => unsupported (.noEntry "extern/reflectlite: a nil value of one interface type handed on as a value of another")
   | _=>storeVar dst a val
  else storeVar dst a (.iface src val)
 else panicString ("reflectlite.Set: value of type " ++ (← Rtype.spelt src) ++ " is not assignable to type " ++ (← Rtype.spelt dst))
 pure (.tuple #[])):=rfl
theorem Tryz.parts25a (a:Addr) (w:World):(ReflectliteValue.parts (.agg #[.pointer (some ⟨13,23,none⟩),.pointer (some a),.int .u64 386])).run Tryz.prog w=.ok (some (23,a,386)) w:=by kernel_rfl
theorem Tryz.parts25 (a:Addr) (w:World):(ReflectliteValue.parts (.agg #[.pointer (some ⟨13,23,none⟩),.pointer (some a),.int .u64 130])).run Tryz.prog w=.ok (some (23,a,130)) w:=by kernel_rfl
theorem Tryz.direct25 (w:World):(Rtype.directlyAssignable 23 23).run Tryz.prog w=.ok true w:=by kernel_rfl
theorem Tryz.set25 (ta b:Addr) (e:Int) (old:Value) (W:World) (hb:W.cell? b=some (.int .i64 e)) (ht:W.cell? ta=some old) (hf:W.frozen? ta=false) :
 (ReflectliteValue.set #[.agg #[.pointer (some ⟨13, 23, none⟩), .pointer (some ta), .int .u64 386], .agg #[.pointer (some ⟨13, 23, none⟩), .pointer (some b), .int .u64 130]]).run Tryz.prog W
  = .ok (.tuple #[]) (W.setCell ta (.int .i64 e)):=by
 rw [rls];simp only [Sem.run_bind,Tryz.parts25a,Tryz.parts25,Result.andThen];simp [ReflectliteValue.flagAddr,loadVar,isAgg,underlying,Tryz.underlying23,hb,Result.andThen,Tryz.direct25,storeVar,Value.cells,storeCells,Addr.add];rw [run_store Tryz.prog W ta _ _ (by rfl)];simp [ht,hf]
theorem Zmb (e:Int) (t:Addr) (old:Value) (w:World) (hg:w.cell? ⟨5,0,none⟩=some (.iface 155 (.agg #[.pointer (some ⟨13,29,none⟩)]))) (ht0:w.cell? t=some old) (hf0:w.frozen? t=false) :
 Calls Tryz.prog 82 #[.iface 23 (.int .i64 e),.iface 116 (.pointer (some t))] w fun ev w'=>ev=.returned (.bool true)∧w'=((((w.alloc (.cells #[.pointer (some t)] 116)).alloc (.cells #[.pointer (some ⟨13,116,none⟩),.pointer (some ⟨w.heap.size,0,none⟩),.int .u64 150] 134)).alloc (.cells #[.pointer (some ⟨13,116,none⟩),.pointer (some ⟨w.heap.size,0,none⟩),.int .u64 150] 134)).alloc (.cells #[.int .i64 e] 23)).setCell t (.int .i64 e):=by
 have h6 := @run_callFunc_extern Tryz.prog 102 _ (fun args => ReflectliteValue.unpack (args.getD 0 (.tuple #[]))) Tryz.func102 (by kernel_rfl) (by kernel_rfl) (by kernel_rfl) (by kernel_rfl);have h7 := @run_callFunc_extern Tryz.prog 103 _ (ReflectliteValue.methodAny (ReflectliteValue.valueError "reflectlite.Value.Type" 0) (fun t _ _ _ => ReflectliteType.toType t)) Tryz.func103 (by kernel_rfl) (by kernel_rfl) (by kernel_rfl) (by kernel_rfl)
 have h8 := @run_callFunc_extern Tryz.prog 104 _ (ReflectliteValue.method (ReflectliteValue.valueError "reflectlite.Value.IsNil" 0) ReflectliteValue.isNil) Tryz.func104 (by kernel_rfl) (by kernel_rfl) (by kernel_rfl) (by kernel_rfl)
 have h27 := @run_callFunc_extern Tryz.prog 187 _ (ReflectliteType.abiMethod fun t => do pure (.int .u8 (← Rtype.kind t))) Tryz.func187 (by kernel_rfl) (by kernel_rfl) (by kernel_rfl) (by kernel_rfl);have h37 := @run_callFunc_extern Tryz.prog 203 _ (ReflectliteType.method ReflectliteType.elem) Tryz.func203 (by kernel_rfl) (by kernel_rfl) (by kernel_rfl) (by kernel_rfl);have h38 := @run_callFunc_extern Tryz.prog 204 _ (ReflectliteType.relation "Implements" ReflectliteType.implements_) Tryz.func204 (by kernel_rfl) (by kernel_rfl) (by kernel_rfl) (by kernel_rfl)
 have h10 := @run_callFunc_extern Tryz.prog 116 _ ReflectliteType.typeOf Tryz.func116 (by kernel_rfl) (by kernel_rfl) (by kernel_rfl) (by kernel_rfl);have h35 := @run_callFunc_extern Tryz.prog 201 _ (ReflectliteType.relation "AssignableTo" ReflectliteType.assignableTo) Tryz.func201 (by kernel_rfl) (by kernel_rfl) (by kernel_rfl) (by kernel_rfl)
 have h11 := @run_callFunc_extern Tryz.prog 117 _ (ReflectliteValue.method (ReflectliteValue.valueError "reflectlite.Value.Elem" 0) ReflectliteValue.elem) Tryz.func117 (by kernel_rfl) (by kernel_rfl) (by kernel_rfl) (by kernel_rfl)
 have h12:=@run_callFunc_extern Tryz.prog 118 _ ReflectliteValue.set Tryz.func118 (by kernel_rfl) (by kernel_rfl) (by kernel_rfl) (by kernel_rfl);have tO:=Tryz.typeOf25;have mA:=Tryz.methodAssignableTo;have a25:=Tryz.assignable25;have v25:=Tryz.valueOf25;have f6:=Tryz.valueOf27;have f7:=Tryz.type27;have mK:=Tryz.methodKind;have mE:=Tryz.methodElem;have mI:=Tryz.methodImplements;have k27:=Tryz.kind27;have k25:=Tryz.kind25;have e27:=Tryz.elem27;have i25:=Tryz.implements25
 have n8:=Tryz.isNil27 ⟨w.heap.size,0,none⟩ t ((w.alloc (.cells #[.pointer (some t)] 116)).alloc (.cells #[.pointer (some ⟨13,116,none⟩),.pointer (some ⟨w.heap.size,0,none⟩),.int .u64 150] 134)) (by simp);have hlt:5 < w.heap.size:=by
  rcases Nat.lt_or_ge 5 w.heap.size with h | h;·exact h
  ·simp [World.cell?,Array.getElem?_eq_none h] at hg
 have hg2:((w.alloc (.cells #[.pointer (some t)] 116)).alloc (.cells #[.pointer (some ⟨13,116,none⟩),.pointer (some ⟨w.heap.size,0,none⟩),.int .u64 150] 134)).cell? ⟨5,0,none⟩=some (.iface 155 (.agg #[.pointer (some ⟨13,29,none⟩)])):=by
  rw [World.cell?_alloc_lt _ _ ⟨5,0,none⟩ (by simp <;> omega),World.cell?_alloc_lt _ _ ⟨5,0,none⟩ hlt]; exact hg
 have htl:t.block < w.heap.size:=by
  rcases Nat.lt_or_ge t.block w.heap.size with h | h;·exact h
  ·simp [World.cell?,Array.getElem?_eq_none h] at ht0
 have el:=Tryz.elemV27 ⟨w.heap.size,0,none⟩ t (((w.alloc (.cells #[.pointer (some t)] 116)).alloc (.cells #[.pointer (some ⟨13,116,none⟩),.pointer (some ⟨w.heap.size,0,none⟩),.int .u64 150] 134)).alloc (.cells #[.pointer (some ⟨13,116,none⟩),.pointer (some ⟨w.heap.size,0,none⟩),.int .u64 150] 134)) (by rw [World.cell?_alloc_lt _ _ ⟨w.heap.size,0,none⟩ (by simp <;> omega)]; simp)
 have st:=Tryz.set25 t ⟨w.heap.size + 1 + 1 + 1,0,none⟩ e old ((((w.alloc (.cells #[.pointer (some t)] 116)).alloc (.cells #[.pointer (some ⟨13,116,none⟩),.pointer (some ⟨w.heap.size,0,none⟩),.int .u64 150] 134)).alloc (.cells #[.pointer (some ⟨13,116,none⟩),.pointer (some ⟨w.heap.size,0,none⟩),.int .u64 150] 134)).alloc (.cells #[.int .i64 e] 23))
  (by rw [World.cell?_alloc_at _ _ _ _ (by simp)]; rfl)
  (by rw [World.cell?_alloc_lt _ _ t (by simp <;> omega),World.cell?_alloc_lt _ _ t (by simp <;> omega),World.cell?_alloc_lt _ _ t (by simp <;> omega),World.cell?_alloc_lt _ _ t htl]; exact ht0)
  (by rw [World.frozen?_alloc_old _ _ t (by simp <;> omega),World.frozen?_alloc_old _ _ t (by simp <;> omega),World.frozen?_alloc_old _ _ t (by simp <;> omega),World.frozen?_alloc_old _ _ t (Nat.ne_of_lt htl)]; exact hf0)
 go_enter Tryz.func82,Tryz.ntmps82
 go_wp2;refine wp_loop_rounds 1 ?_;rw [rounds_succ];go_wp2;go_ret;exact ⟨rfl,rfl⟩
theorem Tryz.typeOfAt (v:Value) (w:World):(ReflectliteType.typeOf #[.iface 88 v]).run Tryz.prog w=.ok (.iface 155 (.agg #[.pointer (some ⟨13,88,none⟩)])) w:=by kernel_rfl
theorem Tryz.assertAt1 (b:Nat) (w:World):(Instr.typeAssert (.iface 88 (.pointer (some ⟨b,0,none⟩))) 29 160 true).run Tryz.prog w=.ok (.tuple #[.nilIface,.bool false]) w:=run_typeAssert_lacksB Tryz.underlying160 (by kernel_rfl) (by kernel_rfl) _ _ w
theorem Tryz.assertAt2 (b:Nat) (w:World):(Instr.typeAssert (.iface 88 (.pointer (some ⟨b,0,none⟩))) 29 98 true).run Tryz.prog w=.ok (.tuple #[.iface 88 (.pointer (some ⟨b,0,none⟩)),.bool true]) w:=run_typeAssert_hasB Tryz.underlying98 (by kernel_rfl) _ _ w
theorem Tryz.methodUnwrap (b : Nat) (w : World) : (Go.method 389 88 (.pointer (some ⟨b, 0, none⟩)) "Unwrap").run Tryz.prog w = .ok (193, .pointer (some ⟨b, 0, none⟩)) w := by kernel_rfl
theorem Tryz.assignableAt (w : World) : (ReflectliteType.relation "AssignableTo" ReflectliteType.assignableTo #[.agg #[.pointer (some ⟨13, 88, none⟩)], .iface 155 (.agg #[.pointer (some ⟨13, 23, none⟩)])]).run Tryz.prog w = .ok (.bool false) w := by kernel_rfl
theorem Zn7 (e p:Int) (b:Nat) (t:Addr) (old:Value) (w:World) (hg:w.cell? ⟨5,0,none⟩=some (.iface 155 (.agg #[.pointer (some ⟨13,29,none⟩)]))) (ht0:w.cell? t=some old) (hf0:w.frozen? t=false) (hbk:w.heap[b]?=some (.cells #[.int .i64 e,.int .i64 p] 89 (0,0))) :
 Calls Tryz.prog 82 #[.iface 88 (.pointer (some ⟨b,0,none⟩)),.iface 116 (.pointer (some t))] w fun ev w'=>ev=.returned (.bool true)∧w'=((((w.alloc (.cells #[.pointer (some t)] 116)).alloc (.cells #[.pointer (some ⟨13,116,none⟩),.pointer (some ⟨w.heap.size,0,none⟩),.int .u64 150] 134)).alloc (.cells #[.pointer (some ⟨13,116,none⟩),.pointer (some ⟨w.heap.size,0,none⟩),.int .u64 150] 134)).alloc (.cells #[.int .i64 e] 23)).setCell t (.int .i64 e):=by
 have h6 := @run_callFunc_extern Tryz.prog 102 _ (fun args => ReflectliteValue.unpack (args.getD 0 (.tuple #[]))) Tryz.func102 (by kernel_rfl) (by kernel_rfl) (by kernel_rfl) (by kernel_rfl);have h7 := @run_callFunc_extern Tryz.prog 103 _ (ReflectliteValue.methodAny (ReflectliteValue.valueError "reflectlite.Value.Type" 0) (fun t _ _ _ => ReflectliteType.toType t)) Tryz.func103 (by kernel_rfl) (by kernel_rfl) (by kernel_rfl) (by kernel_rfl)
 have h8 := @run_callFunc_extern Tryz.prog 104 _ (ReflectliteValue.method (ReflectliteValue.valueError "reflectlite.Value.IsNil" 0) ReflectliteValue.isNil) Tryz.func104 (by kernel_rfl) (by kernel_rfl) (by kernel_rfl) (by kernel_rfl)
 have h27 := @run_callFunc_extern Tryz.prog 187 _ (ReflectliteType.abiMethod fun t => do pure (.int .u8 (← Rtype.kind t))) Tryz.func187 (by kernel_rfl) (by kernel_rfl) (by kernel_rfl) (by kernel_rfl);have h37 := @run_callFunc_extern Tryz.prog 203 _ (ReflectliteType.method ReflectliteType.elem) Tryz.func203 (by kernel_rfl) (by kernel_rfl) (by kernel_rfl) (by kernel_rfl);have h38 := @run_callFunc_extern Tryz.prog 204 _ (ReflectliteType.relation "Implements" ReflectliteType.implements_) Tryz.func204 (by kernel_rfl) (by kernel_rfl) (by kernel_rfl) (by kernel_rfl)
 have h10 := @run_callFunc_extern Tryz.prog 116 _ ReflectliteType.typeOf Tryz.func116 (by kernel_rfl) (by kernel_rfl) (by kernel_rfl) (by kernel_rfl);have h35 := @run_callFunc_extern Tryz.prog 201 _ (ReflectliteType.relation "AssignableTo" ReflectliteType.assignableTo) Tryz.func201 (by kernel_rfl) (by kernel_rfl) (by kernel_rfl) (by kernel_rfl)
 have h11 := @run_callFunc_extern Tryz.prog 117 _ (ReflectliteValue.method (ReflectliteValue.valueError "reflectlite.Value.Elem" 0) ReflectliteValue.elem) Tryz.func117 (by kernel_rfl) (by kernel_rfl) (by kernel_rfl) (by kernel_rfl)
 have h12:=@run_callFunc_extern Tryz.prog 118 _ ReflectliteValue.set Tryz.func118 (by kernel_rfl) (by kernel_rfl) (by kernel_rfl) (by kernel_rfl);have tO:=Tryz.typeOf25;have tOA:=Tryz.typeOfAt;have aA:=Tryz.assignableAt;have t1:=Tryz.assertAt1;have t2:=Tryz.assertAt2;have mU:=Tryz.methodUnwrap;have mA:=Tryz.methodAssignableTo;have a25:=Tryz.assignable25;have v25:=Tryz.valueOf25;have f6:=Tryz.valueOf27;have f7:=Tryz.type27;have mK:=Tryz.methodKind;have mE:=Tryz.methodElem;have mI:=Tryz.methodImplements;have k27:=Tryz.kind27;have k25:=Tryz.kind25
 have e27:=Tryz.elem27;have i25:=Tryz.implements25;have n8:=Tryz.isNil27 ⟨w.heap.size,0,none⟩ t ((w.alloc (.cells #[.pointer (some t)] 116)).alloc (.cells #[.pointer (some ⟨13,116,none⟩),.pointer (some ⟨w.heap.size,0,none⟩),.int .u64 150] 134)) (by simp);have hlt:5 < w.heap.size:=by
  rcases Nat.lt_or_ge 5 w.heap.size with h | h;·exact h
  ·simp [World.cell?,Array.getElem?_eq_none h] at hg
 have hg2:((w.alloc (.cells #[.pointer (some t)] 116)).alloc (.cells #[.pointer (some ⟨13,116,none⟩),.pointer (some ⟨w.heap.size,0,none⟩),.int .u64 150] 134)).cell? ⟨5,0,none⟩=some (.iface 155 (.agg #[.pointer (some ⟨13,29,none⟩)])):=by
  rw [World.cell?_alloc_lt _ _ ⟨5,0,none⟩ (by simp <;> omega),World.cell?_alloc_lt _ _ ⟨5,0,none⟩ hlt]; exact hg
 have htl:t.block < w.heap.size:=by
  rcases Nat.lt_or_ge t.block w.heap.size with h | h;·exact h
  ·simp [World.cell?,Array.getElem?_eq_none h] at ht0
 have el:=Tryz.elemV27 ⟨w.heap.size,0,none⟩ t (((w.alloc (.cells #[.pointer (some t)] 116)).alloc (.cells #[.pointer (some ⟨13,116,none⟩),.pointer (some ⟨w.heap.size,0,none⟩),.int .u64 150] 134)).alloc (.cells #[.pointer (some ⟨13,116,none⟩),.pointer (some ⟨w.heap.size,0,none⟩),.int .u64 150] 134)) (by rw [World.cell?_alloc_lt _ _ ⟨w.heap.size,0,none⟩ (by simp <;> omega)]; simp)
 have st:=Tryz.set25 t ⟨w.heap.size + 1 + 1 + 1,0,none⟩ e old ((((w.alloc (.cells #[.pointer (some t)] 116)).alloc (.cells #[.pointer (some ⟨13,116,none⟩),.pointer (some ⟨w.heap.size,0,none⟩),.int .u64 150] 134)).alloc (.cells #[.pointer (some ⟨13,116,none⟩),.pointer (some ⟨w.heap.size,0,none⟩),.int .u64 150] 134)).alloc (.cells #[.int .i64 e] 23))
  (by rw [World.cell?_alloc_at _ _ _ _ (by simp)]; rfl)
  (by rw [World.cell?_alloc_lt _ _ t (by simp <;> omega),World.cell?_alloc_lt _ _ t (by simp <;> omega),World.cell?_alloc_lt _ _ t (by simp <;> omega),World.cell?_alloc_lt _ _ t htl]; exact ht0)
  (by rw [World.frozen?_alloc_old _ _ t (by simp <;> omega),World.frozen?_alloc_old _ _ t (by simp <;> omega),World.frozen?_alloc_old _ _ t (by simp <;> omega),World.frozen?_alloc_old _ _ t (Nat.ne_of_lt htl)]; exact hf0)
 go_enter Tryz.func82,Tryz.ntmps82
 have cb:∀ o1 o2 o3:Obj,(((w.alloc o1).alloc o2).alloc o3).cell? ⟨b,0,none⟩=some (.int .i64 e):=fun o1 o2 o3=>by
  have hbl:=(Y6.1 hbk).1;rw [World.cell?_alloc_lt _ _ ⟨b,0,none⟩ (by simp <;> omega),World.cell?_alloc_lt _ _ ⟨b,0,none⟩ (by simp <;> omega),World.cell?_alloc_lt _ _ ⟨b,0,none⟩ hbl];simp [World.cell?,hbk]
 go_wp2;refine wp_loop_rounds 2 ?_;rw [rounds_succ];go_wp2;rw [rounds_succ];go_wp2;go_ret;exact ⟨rfl,rfl⟩
end Go.Proofs.YtmeiggjboakmpaaGreatDoor
namespace Go.Proofs.YtmeiggjboakmpaaGreatDoor
open Go Go.RowKit
set_option maxRecDepth 100000
set_option maxHeartbeats 20000000
set_option linter.unusedVariables false
def Z3z (w:World):Prop:=w.cell? ⟨5,0,none⟩=some (.iface 155 (.agg #[.pointer (some ⟨13,29,none⟩)]))
theorem Z3z.lt {w:World} (h:Z3z w):5 < w.heap.size:=by
 rcases Nat.lt_or_ge 5 w.heap.size with h' | h';·exact h'
 ·simp [Z3z,World.cell?,Array.getElem?_eq_none h'] at h
theorem Z3z.below {w w':World} (h:Z3z w) (hB:Below w.heap.size w w'):Z3z w':=(hB.cell (p:=⟨5,0,none⟩) h.lt).trans h
theorem Zj6 (w:World) (c:Int) (hg:Z3z w) :
 Calls Tryz.prog 54 #[errV c] w fun e w'=>e=.returned (.int .i64 c)∧Below w.heap.size w w':=by
 by_cases hc:c=0
 ·subst hc;simp only [errV, if_true];go_enter Tryz.func54, Tryz.ntmps54
  go_wp2;go_ret;exact ⟨rfl,Y8 _ _⟩
 ·simp only [errV, if_neg hc];have hlt := hg.lt;have hit := lh (Zmb c ⟨w.heap.size, 0, none⟩ (.int .i64 0) (w.alloc (.cells #[.int .i64 0] 23)) ((Z8 (p := ⟨5, 0, none⟩) hlt).trans hg) (World.cell?_alloc_new _ _ _ 0) (World.frozen?_alloc_new _ _ _ _));clear hg;go_enter Tryz.func54, Tryz.ntmps54
  go_wp2_with fail
  refine hit.out.mono ?_;rintro e w1 ⟨rfl,hw1⟩;have hB:Below w.heap.size w w1:=by
   rw [hw1];refine Below.setCell ?_ (by simp) _;repeat (refine Below.alloc ?_ (by simp; try omega) _)
   exact Y8 _ _
  have hx:w1.cell? ⟨w.heap.size,0,none⟩=some (.int .i64 c):=by
   rw [hw1];rw [World.cell?_setCell_same'];rw [Z8 (by simp <;> omega),Z8 (by simp <;> omega),Z8 (by simp <;> omega),Z8 (by simp)];rw [World.cell?_alloc_new];rfl
  have HB:=lh hB;clear hB hw1 hit;go_wp2;go_ret;exact ⟨rfl,HB.out⟩
end Go.Proofs.YtmeiggjboakmpaaGreatDoor
namespace Go.Proofs.YtmeiggjboakmpaaGreatDoor
open Go Go.RowKit Go.Extern.Stop Go.Stop Go.Extern
set_option maxRecDepth 100000
set_option maxHeartbeats 20000000
set_option linter.unusedVariables false
theorem Zli (w:World) (c p:Int) (b:Nat) (hg:Z3z w) (hb:w.heap[b]?=some (.cells #[.int .i64 c,.int .i64 p] 89 (0,0))) :
 Calls Tryz.prog 54 #[.iface 88 (.pointer (some ⟨b,0,none⟩))] w fun e w'=>e=.returned (.int .i64 c)∧Below w.heap.size w w':=by
 have hlt:=hg.lt;have hbl:=(Y6.1 hb).1;have hit:=lh (Zn7 c p b ⟨w.heap.size,0,none⟩ (.int .i64 0) (w.alloc (.cells #[.int .i64 0] 23)) ((Z8 (p:=⟨5,0,none⟩) hlt).trans hg) (World.cell?_alloc_new _ _ _ 0) (World.frozen?_alloc_new _ _ _ _) (((Go.MapKept.heap_alloc w _).2 _ hbl).trans hb));clear hg hb;go_enter Tryz.func54,Tryz.ntmps54
 go_wp2_with fail
 refine hit.out.mono ?_;rintro e w1 ⟨rfl,hw1⟩;have hB:Below w.heap.size w w1:=by
  rw [hw1];refine Below.setCell ?_ (by simp) _;repeat (refine Below.alloc ?_ (by simp; try omega) _)
  exact Y8 _ _
 have hx:w1.cell? ⟨w.heap.size,0,none⟩=some (.int .i64 c):=by
  rw [hw1];rw [World.cell?_setCell_same'];rw [Z8 (by simp <;> omega),Z8 (by simp <;> omega),Z8 (by simp <;> omega),Z8 (by simp)];rw [World.cell?_alloc_new];rfl
 have HB:=lh hB;clear hB hw1 hit;go_wp2;go_ret;exact ⟨rfl,HB.out⟩
theorem Tryz.assertPl1 (b:Nat) (w:World):(Instr.typeAssert (.iface 88 (.pointer (some ⟨b,0,none⟩))) 29 88 true).run Tryz.prog w=.ok (.tuple #[.pointer (some ⟨b,0,none⟩),.bool true]) w:=by kernel_rfl
theorem Tryz.assertPl2 (v:Value) (w:World):(Instr.typeAssert (.iface 23 v) 29 88 true).run Tryz.prog w=.ok (.tuple #[.pointer none,.bool false]) w:=by kernel_rfl
theorem Tryz.assertPl3 (v:Value) (w:World):(Instr.typeAssert (.iface 23 v) 29 98 true).run Tryz.prog w=.ok (.tuple #[.nilIface,.bool false]) w:=run_typeAssert_lacksB Tryz.underlying98 (by kernel_rfl) (by kernel_rfl) _ _ w
theorem Zij (w:World) (c p:Int) (b:Nat) (hg:Z3z w) (hb:w.heap[b]?=some (.cells #[.int .i64 c,.int .i64 p] 89 (0,0))) :
 Calls Tryz.prog 22 #[.iface 88 (.pointer (some ⟨b,0,none⟩))] w fun e w'=>e=.returned (.tuple #[.int .i64 c,.int .i64 p])∧Below w.heap.size w w':=by
 have HT:=lh (Zli w c p b hg hb);have a1:=Tryz.assertPl1;have HBK:=lh hb;clear hg hb;go_enter Tryz.func22,Tryz.ntmps22
 go_wp2_with fail
 refine HT.out.mono ?_;rintro e w1 ⟨rfl,hB⟩;have b1:w1.cell? ⟨b,1,none⟩=some (.int .i64 p):=by
  have h:=(hB.block b (Y6.1 HBK.out).1).trans HBK.out;simp [World.cell?,h]
 have HB:=lh hB;clear hB HT;go_wp2_with fail
 refine wp_loop_rounds 1 ?_;rw [rounds_succ];go_wp2_with fail
 refine Zf [0,2,4,6,8,10] [6] (fun W=>W.cell? ⟨b,1,none⟩=some (.int .i64 p)) b1 fun _=>?_;simp only [Zh,pD,zD,zE,zF,zG,zH,zI,zJ,zK]
 iterate 6
  first | refine Za _ ?_ | refine Zb ?_
  simp only [Act.put,zA,zB,zC]
 refine Z6 ?_;go_wp2;go_ret2
 exact ⟨rfl,HB.out.drew⟩
theorem Zc8 (w:World) (c:Int) (hc:c≠0) (hg:Z3z w) :
 Calls Tryz.prog 22 #[.iface 23 (.int .i64 c)] w fun e w'=>e=.returned (.tuple #[.int .i64 c,.int .i64 (-1)])∧Below w.heap.size w w':=by
 have ht:=Zj6 w c hg;rw [show errV c=.iface 23 (.int .i64 c) by unfold errV; rw [Y9 hc]] at ht;have HT:=lh ht;have a2:=Tryz.assertPl2;have a3:=Tryz.assertPl3;clear hg ht hc;go_enter Tryz.func22,Tryz.ntmps22
 go_wp2_with fail
 refine HT.out.mono ?_;rintro e w1 ⟨rfl,hB⟩;have HB:=lh hB;clear hB HT;go_wp2_with fail
 refine wp_loop_rounds 1 ?_;rw [rounds_succ];go_wp2;go_ret2
 exact ⟨rfl,HB.out⟩
theorem Zme (w:World) (v:Value) (c p:Int)
 (HP:Hid (∀ W,Below w.heap.size w W→Calls Tryz.prog 22 #[v] W fun e w'=>e=.returned (.tuple #[.int .i64 c,.int .i64 p])∧Below W.heap.size W w')) :
 Calls Tryz.prog 6 #[v,.agg #[.int .i64 c,.int .i64 p]] w fun e w'=>e=.returned (.bool true)∧Below w.heap.size w w':=by
 have hb:Below w.heap.size w (w.alloc (.cells #[.int .i64 c,.int .i64 p] 25)):=(Y8 _ _).alloc (Y5 _) _;have HB:=lh hb;clear hb;go_enter Tryz.func6,Tryz.ntmps6
 go_wp2_with fail
 refine (HP.out _ HB.out).mono ?_;rintro e w1 ⟨rfl,hB⟩;have hsz:w.heap.size < (w.alloc (.cells #[.int .i64 c,.int .i64 p] 25)).heap.size:=by simp
 have z0:w1.cell? ⟨w.heap.size,0,none⟩=some (.int .i64 c):=(Yj (hB.block w.heap.size hsz)).trans (by simp);have z1:w1.cell? ⟨w.heap.size,1,none⟩=some (.int .i64 p):=(Yj (hB.block w.heap.size hsz)).trans (by simp);have HB1:=zT HB hB;clear hB hsz;go_wp2;go_ret;exact ⟨rfl,HB1.out⟩
end Go.Proofs.YtmeiggjboakmpaaGreatDoor
namespace Go.Proofs.YtmeiggjboakmpaaGreatDoor
open Go Go.RowKit
set_option maxRecDepth 100000
set_option maxHeartbeats 20000000
set_option linter.unusedVariables false
theorem cell_below {w w':World} (hB:Below w.heap.size w w') {p:Addr} {v:Value} (hv:w.cell? p=some v):w'.cell? p=some v:=by
 have hl:p.block < w.heap.size:=by
  unfold World.cell? at hv;split at hv
  ·rename_i hb;exact (Y6.1 hb).1
  ·cases hv
 exact (Yj (hB.block p.block hl)).trans hv
theorem Tabs.below {w w':World} (h:Tabs w) (hB:Below w.heap.size w w'):Tabs w':=
 ⟨h.pow.below hB,fun j s hs=>cell_below hB (h.signs j s hs),fun j s hs=>cell_below hB (h.heads j s hs)⟩
theorem Zdu {text:ByteArray} {t:Tree} (hr:Z1o text=.ok t) {a:ATree} (hg:a.tree=t):Wf .sl (Zr a.kids)∧Zv (Zr a.kids)≤1500∧t=.mk 1 (strT (Zr a.kids)) 0 (Zr a.kids)∧t.many≤1500∧a.many≤1500:=by
 obtain ⟨l,h1,h2,h3⟩:=Z9c hr;rw [h2] at hg;obtain ⟨_,_,_,h4⟩:=Z0p hg;subst h4;have h5:=Z7l a;rw [hg,← h2] at h5;refine ⟨h1,?_,h2,h3,by omega⟩;rw [h2,Tree.many] at h3;omega
structure TpOk (w3:World) (a b:Nat) (T st:ByteArray) (s:Bool):Prop where
 same:∀ W,Below w3.heap.size w3 W→Calls Tryz.prog 7 #[.pointer (some ⟨a,0,none⟩),.pointer (some ⟨b,0,none⟩)] W fun e w'=>e=.returned (.bool true)∧Below W.heap.size W w'
 text:∀ W,Below w3.heap.size w3 W→Calls Tryz.prog 8 #[.pointer (some ⟨a,0,none⟩)] W fun e w'=>e=.returned (.string T)∧Below W.heap.size W w'
 rtext:∀ W,Below w3.heap.size w3 W→Calls Tryz.prog 9 #[.pointer (some ⟨b,0,none⟩)] W fun e w'=>e=.returned (.string T)∧Below W.heap.size W w'
 strict:∀ W,Below w3.heap.size w3 W→Calls Tryz.prog 10 #[.pointer (some ⟨a,0,none⟩)] W fun e w'=>e=.returned (.bool s)∧w'=W
 cell:w3.cell? ⟨b,1,none⟩=some (.string st)
 is:(st=Z1d∧s=true)∨(st=ByteArray.empty∧s=false)
theorem Zm0 (w:World) (text:ByteArray) (hm:4000 < text.size) :
 Calls Tryz.prog 3 #[.string text] w fun e w'=>e=.returned (.bool true)∧Below w.heap.size w w':=by
 have hd:decide ((text.size:Int) > 4000)=true:=by simp; omega
 clear hm;go_enter Tryz.func3,Tryz.ntmps3
 go_wp2;go_ret;exact ⟨rfl,Y8 _ _⟩
theorem Zmg (w:World) (text:ByteArray) (c p:Int) (hm:¬ 4000 < text.size) (hE:Z3z w)
 (HR:Hid (Calls Tryz.prog 4 #[.string text] w (Z6i w (.error (c,p)))))
 (HP:Hid (∀ W,Below w.heap.size w W→Calls Tryz.prog 5 #[.string text] W (Z4z W (.error (c,p))))) :
 Calls Tryz.prog 3 #[.string text] w fun e w'=>e=.returned (.bool true)∧Below w.heap.size w w':=by
 have hd:decide ((text.size:Int) > 4000)=false:=by simp; omega
 have HE:=lh hE;clear hm hE;go_enter Tryz.func3,Tryz.ntmps3
 go_wp2_with fail
 refine HR.out.mono ?_;rintro e w1 ⟨hb,hc,rfl⟩;have nc:(c != 0)=true:=by simpa using hc
 have HNC:=lh hc;clear hc;have hal:=(Y8 w1.heap.size w1).alloc (Y5 _) (.cells #[.int .i64 c,.int .i64 p] 25);obtain ⟨w2,hw2⟩:=zX (w1.alloc (.cells #[.int .i64 c,.int .i64 p] 25))
 have z0:w2.cell? ⟨w1.heap.size,0,none⟩=some (.int .i64 c):=by rw [hw2]; exact World.cell?_alloc_new _ _ _ 0
 have z1:w2.cell? ⟨w1.heap.size,1,none⟩=some (.int .i64 p):=by rw [hw2]; exact World.cell?_alloc_new _ _ _ 1
 rw [← hw2] at hal;have B2:=lh (hb.trans (hal.mono hb.size));have HPA:=lh (HP.out w2 B2.out);have HW2:=lh hw2;clear hb hal hw2 HR HP;go_wp2_with fail
 rw [← HW2.out];refine HPA.out.mono ?_;rintro e w3 ⟨hb3,x,rfl,hx⟩;have B3:=zT B2 hb3;have y0:=ob hb3 z0;have y1:=ob hb3 z1;have hAt:Calls Tryz.prog 6 #[x,.agg #[.int .i64 c,.int .i64 p]] w3 fun e w'=>e=.returned (.bool true)∧Below w3.heap.size w3 w':=by
  refine Zme w3 x c p (lh fun W hB=>?_);have hEW:=HE.out.below (B3.out.trans (hB.mono B3.out.size));rcases hx with ⟨rfl,rfl⟩ | ⟨q,rfl,hq⟩;·exact Zc8 W c HNC.out hEW
  ·obtain ⟨b,rfl,_,hcell⟩:=hq;exact Zij W c q b hEW ((hB.block b (Y6.1 hcell).1).trans hcell)
 have HAT:=lh hAt;clear hb3 hx hAt HPA z0 z1 HW2;go_wp2_with fail
 refine HAT.out.mono ?_;rintro e w4 ⟨rfl,hb4⟩;have B4:=zT B3 hb4;clear hb4 HAT;go_wp2;go_ret;exact ⟨rfl,B4.out⟩
theorem Zmx (w:World) (text T st:ByteArray) (s:Bool) (hm:¬ 4000 < text.size)
 (HR : Hid (Calls Tryz.prog 4 #[.string text] w fun e w1 => ∃ b : Nat, e = .returned (.tuple #[.pointer (some ⟨b, 0, none⟩), .agg #[.int .i64 0, .int .i64 (-1)]]) ∧ Below w.heap.size w w1 ∧
  ∀ W,Below w1.heap.size w1 W→Calls Tryz.prog 5 #[.string text] W fun e w3=>∃ a:Nat,e=.returned (.tuple #[.pointer (some ⟨a,0,none⟩),.nilIface])∧Below W.heap.size W w3∧TpOk w3 a b T st s)) :
 Calls Tryz.prog 3 #[.string text] w fun e w'=>e=.returned (.bool true)∧Below w.heap.size w w':=by
 have hd:decide ((text.size:Int) > 4000)=false:=by simp; omega
 clear hm;go_enter Tryz.func3,Tryz.ntmps3
 go_wp2_with fail
 refine HR.out.mono ?_;rintro e w1 ⟨b,rfl,hb,hP⟩;have hal:=(Y8 w1.heap.size w1).alloc (Y5 _) (.cells #[.int .i64 0,.int .i64 (-1)] 25);obtain ⟨w2,hw2⟩:=zX (w1.alloc (.cells #[.int .i64 0,.int .i64 (-1)] 25))
 have z0:w2.cell? ⟨w1.heap.size,0,none⟩=some (.int .i64 0):=by rw [hw2]; exact World.cell?_alloc_new _ _ _ 0
 rw [← hw2] at hal;have B2:=lh (hb.trans (hal.mono hb.size));have HPA:=lh (hP w2 hal);have HW2:=lh hw2;clear hb hal hw2 HR hP;go_wp2_with fail
 rw [← HW2.out];refine HPA.out.mono ?_;rintro e w3 ⟨a,rfl,hb3,hok⟩;have B3:=zT B2 hb3;have C3:Hid (Below w3.heap.size w3 w3):=lh (Y8 _ _);have y0:=ob hb3 z0;have HO:=lh hok;have x1:=hok.cell;have HX:=lh hok.cell;have hsb:s=(st.toList == Z1d.toList):=by
  rcases hok.is with ⟨h1,h2⟩ | ⟨h1,h2⟩;·rw [h1,h2]; simp
  ·rw [h1,h2]; kernel_rfl
 have hsl:Z1d.toList=[115,116,114,105,99,116]:=by kernel_rfl
 have HBB:Hid ((s == (st.toList == [115,116,114,105,99,116]))=true):=lh (by rw [← hsl,← hsb]; simp);clear hb3 hok HPA z0 HW2 hsb hsl;have hTT:(T.toList == T.toList)=true:=by simp
 go_wp2_with fail
 refine Zf [0,2,4,6,8,10,12,14,16,19,20,22,24,28,27,31,32,34,36,38,42,44,46,48,50,41] [26,27,28] (fun W=>W.cell? ⟨b,1,none⟩=some (.string st)) x1 fun _=>?_;simp only [Zh,pD,zD,zE,zF,zG,zH,zI,zJ,zK]
 iterate 9
  first | refine Za _ ?_ | refine Zb ?_
  simp only [Act.put,zA,zB,zC]
 refine Z5 (fun K hK=>?_);go_simp
 refine (HO.out.same _ C3.out.drew).mono ?_;rintro e w4 ⟨rfl,hb4⟩;have C4:=lh (C3.out.drew.trans (hb4.mono C3.out.drew.size));clear hb4;refine hK _ _ (ob C4.out HX.out) ?_;clear hK K
 iterate 4
  first | refine Za _ ?_ | refine Zb ?_
  simp only [Act.put,zA,zB,zC]
 refine Z5 (fun K hK=>?_);go_simp
 refine (HO.out.text _ C4.out).mono ?_;rintro e w5 ⟨rfl,hb5⟩;have C5:=zT C4 hb5;clear hb5;refine hK _ _ (ob C5.out HX.out) ?_;clear hK K;refine Z5 (fun K hK=>?_);go_simp
 refine (HO.out.rtext _ C5.out).mono ?_;rintro e w6 ⟨rfl,hb6⟩;have C6:=zT C5 hb6;clear hb6;refine hK _ _ (ob C6.out HX.out) ?_;clear hK K
 iterate 9
  first | refine Za _ ?_ | refine Zb ?_
  simp only [Act.put,zA,zB,zC]
 refine Z5 (fun K hK=>?_);go_simp
 refine (HO.out.strict _ C6.out).mono ?_;rintro e w7 ⟨rfl,hw7⟩;rw [hw7];clear hw7 w7;refine hK _ _ (ob C6.out HX.out) ?_;clear hK K;refine Z6 ?_;go_wp2;go_ret;exact ⟨Z7a HBB.out,B3.out.trans (C6.out.mono B3.out.size)⟩
theorem Z9s (w:World) (text:ByteArray) (hW:Words w) (hL:Z52 w w.heap.size) (hR:Z7k w) (hF:Z7e w) (hE:Z3z w) (hT:Tabs w) :
 Calls Tryz.prog 3 #[.string text] w fun e w'=>e=.returned (.bool true)∧Below w.heap.size w w':=by
 by_cases hm:4000 < text.size;·exact Zm0 w text hm
 have hup:∀ W,Below w.heap.size w W→Words W∧Z52 W W.heap.size∧Tabs W:=fun W hB=>⟨hW.below hB,by
  intro lv hl;obtain ⟨b,off,cap,h1,h2,h3,h4,h5⟩:=hL.keep (fun k hk=>hB.block k hk) lv hl;exact ⟨b,off,cap,Ye h1 hB.size,Ye h2 hB.size,h3,h4,h5⟩,hT.below hB⟩
 have HR:=Zei w text hR hF;have HP:=fun W (hB:Below w.heap.size w W)=>Zfw W text (hup W hB).1 (hup W hB).2.1;cases hr:Z1o text with
 | error x =>
   obtain ⟨c,p⟩:=x;rw [hr] at HR;exact Zmg w text c p hm hE (lh HR) (lh fun W hB=>by have:=HP W hB; rwa [hr] at this)
 | ok t =>
   rw [hr] at HR;obtain ⟨l,l1,l2,l3⟩:=Z9c hr;refine Zmx w text (Zgg l) (strT l) (Z1w l) hm (lh (HR.mono fun e w1 h=>?_));obtain ⟨hb,b,rfl,hgb⟩:=h;refine ⟨b.b,rfl,hb,fun W hB=>?_⟩;have hWB:=hb.trans (hB.mono hb.size);have hpa:=HP W hWB;rw [hr] at hpa;refine hpa.mono fun e w3 h=>?_;obtain ⟨hb3,a,rfl,hga⟩:=h;obtain ⟨f1,f2,f3,f4,f5⟩:=Zdu hr hga.tree;obtain ⟨g1,g2,g3,g4,g5⟩:=Zdu hr hgb.tree;have ka:Zr a.kids=l:=by have h:=congrArg Tree.kids f3; rw [l2] at h; exact h.symm
   have kb:Zr b.kids=l:=by have h:=congrArg Tree.kids g3; rw [l2] at h; exact h.symm
   have hab:a.tree=b.tree:=by rw [hga.tree,hgb.tree]
   have hTb:TreeAt w3 w.heap.size b:=hgb.at'.bel (hB.trans (hb3.mono hB.size));obtain ⟨ak,at',_,_⟩:=Z0p (hga.tree.trans l2);obtain ⟨_,bt,_,_⟩:=Z0p (hgb.tree.trans l2);refine ⟨a.b,rfl,hb3,⟨fun W2 hB2=>?_,fun W2 hB2=>?_,fun W2 hB2=>?_,fun W2 hB2=>?_,?_,?_⟩⟩;·exact Zj1 a.many a b (Y5 _) (by omega) hab W2 _ _ (hga.at'.bel hB2) (hTb.bel hB2)
   ·have h:=Zjp W2 (hup W2 (hWB.trans ((hb3.trans (hB2.mono hb3.size)).mono hWB.size))).2.2 _ a (hga.at'.bel hB2) f1 (by omega);rw [ka] at h;exact h
   ·have h:=Zge w3 (hup w3 (hWB.trans (hb3.mono hWB.size))).2.2.pow _ b hTb g1 g2 W2 hB2;rw [kb] at h;exact h
   ·have h:=Zee W2 _ a (hga.at'.bel hB2);have e:Z8k a=Z1w l:=by
     unfold Z8k;rw [ak,at'];unfold strT;cases Z1w l;·kernel_rfl
     ·kernel_rfl
    rw [e] at h;exact h
   ·have h:=hTb.c1;rw [bt] at h;exact h
   ·unfold strT;cases Z1w l;·exact .inr ⟨rfl, rfl⟩
    ·exact .inl ⟨rfl,rfl⟩
theorem Z9q {H:Type} {enc:TypeId×Value→H} {P:Program} {w:World} {base:Nat} {sp:Nat→Bool} {held:Bool} {fuel:Nat} {t e:TypeId} {n:Nat} {cs:List Value} {l:List (List UInt8)} {p:List MemPlace}
 (ht:P.underlying t=some (.array n e)) (he:P.underlying e=some .string) (hce:P.cellsOf e=1) (hct:P.cellsOf t=n)
 (h:DataW.trod enc P w base sp held fuel t cs=some (.agg (l.map fun b=>.lit (.string b)),p)):cs=l.map fun b=>Value.string ⟨b.toArray⟩:=by
 cases fuel with
 | zero=>simp [DataW.trod] at h
 | succ fuel =>
   simp only [DataW.trod,ht,hce,hct,Nat.mul_one] at h;split at h
   ·rename_i hl;obtain ⟨xs,hm,hx⟩:=Option.map_eq_some_iff.1 h;have hxs:xs.map (·.1)=l.map fun b=>(DataW.lit (.string b):DataW H):=by
     have:=congrArg Prod.fst hx;simpa using this
    have hxl:xs.length=n:=by simpa using Lib.mapM_length hm
    have hzl:l.length=n:=by
     have:=congrArg List.length hxs;simp at this;omega
    apply List.ext_getElem?;intro i;by_cases hi:i < n
    ·obtain ⟨b,hb,hf⟩:=Lib.mapM_at hm i i (by simp [hi]);obtain ⟨s,hc,rfl,_⟩:=DataW.trod_string he hf;have h1:cs[i]?=some (.string s):=by
      have:=congrArg (·[0]?) hc;simpa [List.getElem?_take,List.getElem?_drop] using this
     have h2:(xs.map (·.1))[i]?=some (DataW.lit (.string s.data.toList):DataW H):=by simp [hb]
     rw [hxs] at h2;simp only [List.getElem?_map,Option.map_eq_some_iff,DataW.lit.injEq,Lit.string.injEq] at h2;obtain ⟨z',hz',hzz⟩:=h2;simp only [h1,List.getElem?_map,hz',Option.map_some,hzz]
    ·rw [List.getElem?_eq_none (by omega),List.getElem?_eq_none (by simp; omega)]
   ·cases h
theorem Zgz {H:Type} {enc:TypeId×Value→H} {P:Program} {w:World} {base:Nat} {sp:Nat→Bool} {held:Bool} {fuel:Nat} {e:TypeId} {v:Value} {b:List UInt8} {q:List MemPlace} (he:P.underlying e=some .string)
 (h:DataW.trod enc P w base sp held fuel e [v]=some (.lit (.string b),q)):v=.string ⟨b.toArray⟩:=by
 obtain ⟨s,hc,hx,_⟩:=DataW.trod_string he h;simp only [List.cons.injEq,and_true] at hc;simp only [Prod.mk.injEq,DataW.lit.injEq,Lit.string.injEq] at hx;rw [hc,hx.1]
theorem Z5v {P:Program} {W:World} {name:String} {d:DataW Unit} {rest:List (String×DataW Unit)} {g:Nat} {t e:TypeId} {n:Nat} {l:List (List UInt8)}
 (hg:P.globalNamed name=some g) (hty:(P.globals[g]?).map (·.type)=some t) (ht:P.underlying t=some (.array n e)) (he:P.underlying e=some .string) (hce:P.cellsOf e=1) (hct:P.cellsOf t=n)
 (hd:d=.agg (l.map fun b=>.lit (.string b))) (h:laidMet P ((name,d) :: rest) W) (i:Nat) (b:List UInt8) (hi:l[i]?=some b):W.cell? ⟨g,i,none⟩=some (.string ⟨b.toArray⟩):=by
 obtain ⟨ps,⟨g',t',cs,fuel,p,q,hg',ht',hvar,hd',_,_⟩,_⟩:=h;obtain rfl:=Yk (hg.symm.trans hg');obtain rfl:=Yk (hty.symm.trans ht');rw [hd] at hd';have hc:=Z9q ht he hce hct hd';have:=World.var?_cell hg hvar i;rw [this];have hx:cs=(l.map fun b=>Value.string ⟨b.toArray⟩).toArray:=by rw [← hc]
 rw [hx];simp [hi]
theorem Zcr {P:Program} {W:World} {name:String} {d:DataW Unit} {rest:List (String×DataW Unit)} {g:Nat} {t e:TypeId} {l:List (List UInt8)}
 (hg:P.globalNamed name=some g) (hty:(P.globals[g]?).map (·.type)=some t) (ht:P.underlying t=some (.slice e)) (he:P.underlying e=some .string) (hce:P.cellsOf e=1)
 (hd:d=.slice (l.map fun b=>.lit (.string b)) []) (hl:0 < l.length) (h:laidMet P ((name,d) :: rest) W) :
 ∃ b off cap,W.cell? ⟨g,0,none⟩=some (.slice (some ⟨b,off,none⟩) l.length cap)∧l.length≤cap∧∀ i x,l[i]?=some x→W.cell? ⟨b,off + i,none⟩=some (.string ⟨x.toArray⟩):=by
 obtain ⟨ps,⟨g',t',cs,fuel,p,q,hg',ht',hvar,hd',_,_⟩,_⟩:=h;obtain rfl:=Yk (hg.symm.trans hg');obtain rfl:=Yk (hty.symm.trans ht');rw [hd] at hd';obtain ⟨a,cap,hcs,hcap,hel⟩:=open_row ht hce hd';rw [Yv] at hcs hcap;obtain ⟨b,off,spot⟩:=a;have hspot:spot=none:=by
  obtain ⟨x,hx⟩:∃ x,l[0]?=some x:=⟨l[0],Yd hl⟩
  obtain ⟨v,n,q,hc,_⟩:=hel 0 _ (by rw [Yo,hx]; rfl);simpa [Addr.add] using World.cell?_spot hc
 subst hspot;refine ⟨b,off,cap,?_,hcap,fun i x hx=>?_⟩
 ·have:=World.var?_cell hg hvar 0;rw [Array.eq_one_of_toList hcs] at this;simpa using this
 ·obtain ⟨v,n,q,hc,hr⟩:=hel i _ (by rw [Yo,hx]; rfl);rw [Zgz he hr] at hc;rwa [show ((⟨b,off,none⟩:Addr).add i)=⟨b,off + i,none⟩ by unfold Addr.add; split <;> simp_all] at hc
theorem Zk2 {H:Type} {enc:TypeId×Value→H} {P:Program} {w:World} {base:Nat} {sp:Nat→Bool} {held:Bool} {fuel:Nat} {t e:TypeId} {n:Nat} {cs:List Value} {l:List (DataW H)} {p:List MemPlace}
 (ht:P.underlying t=some (.array n e)) (hce:P.cellsOf e=1) (hct:P.cellsOf t=n)
 (h:DataW.trod enc P w base sp held fuel t cs=some (.agg l,p)) (i:Nat) (r:DataW H) (hi:l[i]?=some r) :
 ∃ fuel' q,DataW.trod enc P w base sp held fuel' e ((cs.drop i).take 1)=some (r,q):=by
 cases fuel with
 | zero=>simp [DataW.trod] at h
 | succ fuel =>
   simp only [DataW.trod,ht,hce,hct,Nat.mul_one] at h;split at h
   ·rename_i hl;obtain ⟨xs,hm,hx⟩:=Option.map_eq_some_iff.1 h;have hxs:xs.map (·.1)=l:=by
     have:=congrArg Prod.fst hx;simpa using this
    have hxl:xs.length=n:=by simpa using Lib.mapM_length hm
    have hin:i < n:=by
     have h1:=(List.getElem?_eq_some_iff.1 hi).1;rw [← hxs,Yv] at h1;omega
    obtain ⟨b,hb,hf⟩:=Lib.mapM_at hm i i (by simp [hin]);have h2:(xs.map (·.1))[i]?=some b.1:=by simp [hb]
    rw [hxs,hi] at h2;exact ⟨fuel,b.2,by rw [Yk h2]; exact hf⟩
   ·cases h
theorem Z9n {P:Program} {W:World} {n1 name:String} {d1 d:DataW Unit} {rest:List (String×DataW Unit)} {g:Nat} {t e f:TypeId} {n:Nat} {l:List (List (List UInt8))}
 (hg:P.globalNamed name=some g) (hty:(P.globals[g]?).map (·.type)=some t) (ht:P.underlying t=some (.array n e)) (he:P.underlying e=some (.slice f)) (hf:P.underlying f=some .string)
 (hce:P.cellsOf e=1) (hcf:P.cellsOf f=1) (hct:P.cellsOf t=n)
 (hd:d=.agg (l.map fun r=>.slice (r.map fun b=>.lit (.string b)) [])) (h:laidMet P ((n1,d1) :: (name,d) :: rest) W) (i:Nat) (r:List (List UInt8)) (hi:l[i]?=some r) (hr:0 < r.length) :
 ∃ b off cap,W.cell? ⟨g,i,none⟩=some (.slice (some ⟨b,off,none⟩) r.length cap)∧r.length≤cap∧∀ j x,r[j]?=some x→W.cell? ⟨b,off + j,none⟩=some (.string ⟨x.toArray⟩):=by
 obtain ⟨ps,⟨_,_,_,_,_,_,_,_,_,_,h2,_⟩,_⟩:=h;obtain ⟨g',t',cs,fuel,p,q,hg',ht',hvar,hd',_,_⟩:=h2;obtain rfl:=Yk (hg.symm.trans hg');obtain rfl:=Yk (hty.symm.trans ht');rw [hd] at hd';obtain ⟨fuel',q',hrow⟩:=Zk2 ht hce hct hd' i (.slice (r.map fun b=>.lit (.string b)) []) (by rw [Yo,hi]; rfl);obtain ⟨a,cap,hcs,hcap,hel⟩:=open_row he hcf hrow;rw [Yv] at hcs hcap;have hcell:W.cell? ⟨g,i,none⟩=some (.slice (some a) r.length cap):=by
  rw [World.var?_cell hg hvar i];have:=congrArg (·[0]?) hcs;simpa [List.getElem?_take,List.getElem?_drop] using this
 obtain ⟨b,off,spot⟩:=a;have hspot:spot=none:=by
  obtain ⟨x,hx⟩:∃ x,r[0]?=some x:=⟨r[0],Yd hr⟩
  obtain ⟨v,n,q,hc,_⟩:=hel 0 _ (by rw [Yo,hx]; rfl);simpa [Addr.add] using World.cell?_spot hc
 subst hspot;refine ⟨b,off,cap,hcell,hcap,fun j x hx=>?_⟩;obtain ⟨v,n,q,hc,hr⟩:=hel j _ (by rw [Yo,hx]; rfl);rw [Zgz hf hr] at hc;rwa [show ((⟨b,off,none⟩:Addr).add j)=⟨b,off + j,none⟩ by unfold Addr.add; split <;> simp_all] at hc
end Go.Proofs.YtmeiggjboakmpaaGreatDoor
