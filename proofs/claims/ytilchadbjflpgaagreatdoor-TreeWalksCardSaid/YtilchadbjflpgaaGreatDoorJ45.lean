/- The library's contracts that are cited, laid by the shelf's own tools: Tryz.strings_Join, Tryz.strings_Join_none. The library's contracts that are cited, laid by the shelf's own tools: Tryz.strconv_Itoa_small. The law TreeWalks, walked. The law TreeWalks, walked: the law. What a listed variable gives a walk: rows of texts. What a listed variable gives a walk: an array of rows of texts, second on the list. -/
import Derived.Test.YtilchadbjflpgaaGreatDoorJ01
import Derived.Shelf.Strings.OnBuilder
import Derived.Shelf.LaysM
import Derived.Test.YtilchadbjflpgaaGreatDoorProg
import Derived.Shelf.Strconv.Itoa3
import Derived.Test.YtilchadbjflpgaaGreatDoorJ44
import Derived.Laws.EntriesVeiled
import Derived.Lib.LaidTab
import Derived.LaidMore
import Derived.Stop.Joined
import Derived.WalkKit
namespace Go.Proofs
def Tryz.lays156_ren : Go.Shelf.Ren := ⟨fun | 156 => 13 | 165 => 25 | 166 => 26 | 169 => 27 | 240 => 56 | 241 => 57 | 276 => 83 | 277 => 84 | n => n, fun | 31 => 44 | 9 => 9 | 3 => 3 | 4 => 4 | 0 => 0 | 20 => 20 | 72 => 73 | 76 => 75 | 70 => 70 | 37 => 71 | 75 => 40 | 127 => 100 | 164 => 117 | 5 => 5 | 80 => 77 | n => n, fun | n => n⟩
theorem Tryz.lays156 : Go.Proofs.Lays.n156 Tryz.prog Tryz.lays156_ren := {
 mixed := by kernel_rfl
 f156 := Tryz.func13.trans (congrArg some (by kernel_rfl))
 f165 := Tryz.func25.trans (congrArg some (by kernel_rfl))
 f166 := Tryz.func26.trans (congrArg some (by kernel_rfl))
 f169 := Tryz.func27.trans (congrArg some (by kernel_rfl))
 f240 := Tryz.func56.trans (congrArg some (by kernel_rfl))
 f241 := Tryz.func57.trans (congrArg some (by kernel_rfl))
 f276 := Tryz.func83.trans (congrArg some (by kernel_rfl))
 f277 := Tryz.func84.trans (congrArg some (by kernel_rfl))
 t0 := Tryz.underlying0
 a0 := Tryz.isAgg0
 z0 := Tryz.sizeOf0
 v0 := Tryz.zeroValue0
 t3 := Tryz.underlying3
 a3 := Tryz.isAgg3
 z3 := Tryz.sizeOf3
 v3 := Tryz.zeroValue3
 t4 := Tryz.underlying4
 a4 := Tryz.isAgg4
 z4 := Tryz.sizeOf4
 v4 := Tryz.zeroValue4
 t9 := Tryz.underlying9
 a9 := Tryz.isAgg9
 z9 := Tryz.sizeOf9
 v9 := Tryz.zeroValue9
 t20 := Tryz.underlying20
 a20 := Tryz.isAgg20
 z20 := Tryz.sizeOf20
 v20 := Tryz.zeroValue20
 t31 := Tryz.underlying44
 a31 := Tryz.isAgg44
 z31 := Tryz.sizeOf44
 v31 := Tryz.zeroValue44
 t37 := Tryz.underlying71
 a37 := Tryz.isAgg71
 z37 := Tryz.sizeOf71
 v37 := Tryz.zeroValue71
 t70 := Tryz.underlying70
 a70 := Tryz.isAgg70
 z70 := Tryz.sizeOf70
 v70 := Tryz.zeroValue70
 t72 := Tryz.underlying73
 a72 := Tryz.isAgg73
 z72 := Tryz.sizeOf73
 v72 := Tryz.zeroValue73
 t75 := Tryz.underlying40
 a75 := Tryz.isAgg40
 z75 := Tryz.sizeOf40
 v75 := Tryz.zeroValue40
 t76 := Tryz.underlying75
 a76 := Tryz.isAgg75
 z76 := Tryz.sizeOf75
 v76 := Tryz.zeroValue75
 t127 := Tryz.underlying100
 a127 := Tryz.isAgg100
 z127 := Tryz.sizeOf100
 v127 := Tryz.zeroValue100
 t164 := Tryz.underlying117
 a164 := Tryz.isAgg117
 z164 := Tryz.sizeOf117
 v164 := Tryz.zeroValue117 }
theorem Tryz.Builder_Extra_156 : Builder.Extra Tryz.prog Tryz.lays156_ren := {
 sizeBuilder := by kernel_rfl
 liesBuilder := by kernel_rfl
 t5 := Tryz.underlying5
 a5 := Tryz.isAgg5
 z5 := Tryz.sizeOf5
 v5 := Tryz.zeroValue5
 infoByte := by kernel_rfl
 cellsByte := by kernel_rfl
 sizeByte := by kernel_rfl
 neB5 := by decide }
open Go.RowKit in
theorem Tryz.strings_Join_none (a : Option Addr) (c : Nat) (sep : ByteArray) (w : World) :
 Calls Tryz.prog 13 #[.slice a 0 c, .string sep] w fun e w' => e = .returned (.string ⟨#[]⟩) ∧ w' = w := Any.strings_Join_none Tryz.lays156 Tryz.Builder_Extra_156 a c sep w
open Go.RowKit in
theorem Tryz.strings_Join (bk o c : Nat) (xs : List ByteArray) (sep : ByteArray) (w : World) (hcells : ∀ (j : Nat) x, xs[j]? = some x → w.cell? ⟨bk, o + j, none⟩ = some (.string x)) (hbk : bk < w.heap.size) (hN : xs.length ≤ 140737488355328) (hcap : xs.length ≤ c) (hlen : (Lib.join (xs.map (·.data.toList)) sep.data.toList).length ≤ 140737488355328) :
 Calls Tryz.prog 13 #[.slice (some ⟨bk, o, none⟩) xs.length c, .string sep] w fun e w' => e = .returned (.string ⟨(Lib.join (xs.map (·.data.toList)) sep.data.toList).toArray⟩) ∧ Below w.heap.size w w' := Any.strings_Join Tryz.lays156 Tryz.Builder_Extra_156 bk o c xs sep w hcells hbk hN hcap hlen
end Go.Proofs
namespace Go.Proofs
def Tryz.lays171_ren : Go.Shelf.Ren := ⟨fun | 171 => 12 | 243 => 24 | 246 => 55 | 283 => 79 | 284 => 80 | 285 => 81 | 286 => 82 | 129 => 96 | 317 => 95 | 318 => 97 | 319 => 98 | 320 => 99 | 337 => 106 | 338 => 107 | n => n, fun | 3 => 3 | 9 => 9 | 2 => 2 | 4 => 4 | 171 => 111 | 0 => 0 | 53 => 112 | 37 => 71 | 5 => 5 | 173 => 115 | 212 => 129 | 51 => 130 | 20 => 20 | 213 => 131 | 46 => 133 | 232 => 148 | 233 => 149 | n => n, fun | 17 => 3 | 18 => 8 | 19 => 9 | n => n⟩
theorem Tryz.lays171 : Go.Proofs.Lays.n171 Tryz.prog Tryz.lays171_ren := {
 mixed := by kernel_rfl
 f129 := Tryz.func96.trans (congrArg some (by kernel_rfl))
 f171 := Tryz.func12.trans (congrArg some (by kernel_rfl))
 f243 := Tryz.func24.trans (congrArg some (by kernel_rfl))
 f246 := Tryz.func55.trans (congrArg some (by kernel_rfl))
 f283 := Tryz.func79.trans (congrArg some (by kernel_rfl))
 f284 := Tryz.func80.trans (congrArg some (by kernel_rfl))
 f285 := Tryz.func81.trans (congrArg some (by kernel_rfl))
 f286 := Tryz.func82.trans (congrArg some (by kernel_rfl))
 f317 := Tryz.func95.trans (congrArg some (by kernel_rfl))
 f318 := Tryz.func97.trans (congrArg some (by kernel_rfl))
 f319 := Tryz.func98.trans (congrArg some (by kernel_rfl))
 f320 := Tryz.func99.trans (congrArg some (by kernel_rfl))
 f337 := Tryz.func106.trans (congrArg some (by kernel_rfl))
 f338 := Tryz.func107.trans (congrArg some (by kernel_rfl))
 t0 := Tryz.underlying0
 a0 := Tryz.isAgg0
 z0 := Tryz.sizeOf0
 v0 := Tryz.zeroValue0
 t2 := Tryz.underlying2
 a2 := Tryz.isAgg2
 z2 := Tryz.sizeOf2
 v2 := Tryz.zeroValue2
 t3 := Tryz.underlying3
 a3 := Tryz.isAgg3
 z3 := Tryz.sizeOf3
 v3 := Tryz.zeroValue3
 t4 := Tryz.underlying4
 a4 := Tryz.isAgg4
 z4 := Tryz.sizeOf4
 v4 := Tryz.zeroValue4
 t5 := Tryz.underlying5
 a5 := Tryz.isAgg5
 z5 := Tryz.sizeOf5
 v5 := Tryz.zeroValue5
 t9 := Tryz.underlying9
 a9 := Tryz.isAgg9
 z9 := Tryz.sizeOf9
 v9 := Tryz.zeroValue9
 t20 := Tryz.underlying20
 a20 := Tryz.isAgg20
 z20 := Tryz.sizeOf20
 v20 := Tryz.zeroValue20
 t37 := Tryz.underlying71
 a37 := Tryz.isAgg71
 z37 := Tryz.sizeOf71
 v37 := Tryz.zeroValue71
 t46 := Tryz.underlying133
 a46 := Tryz.isAgg133
 z46 := Tryz.sizeOf133
 v46 := Tryz.zeroValue133
 t51 := Tryz.underlying130
 a51 := Tryz.isAgg130
 z51 := Tryz.sizeOf130
 v51 := Tryz.zeroValue130
 t53 := Tryz.underlying112
 a53 := Tryz.isAgg112
 z53 := Tryz.sizeOf112
 v53 := Tryz.zeroValue112
 t171 := Tryz.underlying111
 a171 := Tryz.isAgg111
 z171 := Tryz.sizeOf111
 v171 := Tryz.zeroValue111
 t173 := Tryz.underlying115
 a173 := Tryz.isAgg115
 z173 := Tryz.sizeOf115
 v173 := Tryz.zeroValue115
 t212 := Tryz.underlying129
 a212 := Tryz.isAgg129
 z212 := Tryz.sizeOf129
 v212 := Tryz.zeroValue129
 t213 := Tryz.underlying131
 a213 := Tryz.isAgg131
 z213 := Tryz.sizeOf131
 t232 := Tryz.underlying148
 a232 := Tryz.isAgg148
 z232 := Tryz.sizeOf148
 v232 := Tryz.zeroValue148
 t233 := Tryz.underlying149
 a233 := Tryz.isAgg149
 z233 := Tryz.sizeOf149
 v233 := Tryz.zeroValue149
 g17 := by kernel_rfl
 g18 := by kernel_rfl
 g19 := by kernel_rfl }
open Go.RowKit Go.Sort Go.Lib in
theorem Tryz.strconv_Itoa_small (i : Nat) (hi : i < 100) (w : World) :
 Calls Tryz.prog 12 #[.int .i64 i] w fun e w' => e = .returned (.string ⟨(Lib.decDigits i).toArray⟩) ∧ w' = w := Any.strconv_Itoa_small Tryz.lays171 i hi w
end Go.Proofs
namespace Go.Proofs.YtilchadbjflpgaaGreatDoor
open Go Go.RowKit
set_option maxRecDepth 100000
set_option linter.unusedVariables false
def numT (k : Int) : ByteArray := ⟨(Lib.decDigits k.toNat).toArray⟩
def toldF (l : List Int) : ByteArray := ⟨(Lib.join ((l.map numT).map (·.data.toList)) (⟨#[32]⟩ : ByteArray).data.toList).toArray⟩
theorem dec_len {u : Nat} (h : u < 100) : (Lib.decDigits u).length ≤ 2 := by
 rw [Lib.decDigits]
 split
 ·simp
 ·rw [Lib.decDigits, dif_pos (by omega)]
  simp
theorem told_lens : ∀ m : List Int, (∀ k ∈ m, 0 ≤ k ∧ k < 100) → Lib.lens ((m.map numT).map (·.data.toList)) ≤ 2 * m.length
 | [], _ => by simp [Lib.lens]
 | y :: m, h => by
   have h1 := told_lens m fun k hk => h k (List.mem_cons_of_mem _ hk)
   have h2 := dec_len (u := y.toNat) (by have := h y (by simp); omega)
   have h3 : (numT y).data.toList.length = (Lib.decDigits y.toNat).length := by simp [numT]
   unfold Lib.lens at h1 ⊢
   simp only [List.map_cons, List.sum_cons, List.length_cons] at h1 ⊢
   omega
theorem told_len (l : List Int) (hk : ∀ k ∈ l, 0 ≤ k ∧ k < 100) (hl : l.length ≤ 100000) : (Lib.join ((l.map numT).map (·.data.toList)) (⟨#[32]⟩ : ByteArray).data.toList).length ≤ 140737488355328 := by
 have h5 : (⟨#[32]⟩ : ByteArray).data.toList = [32] := rfl
 rw [h5]
 cases l with
 | nil => simp [Lib.join]
 | cons x r =>
   have h4 := told_lens (x :: r) hk
   simp only [List.map_cons] at h4 ⊢
   rw [Lib.join_length]
   simp only [List.length_cons, List.length_map, List.length_nil] at h4 hl ⊢
   omega
theorem reach_len {stop : Int} {a x : ATree} {s s' : List Int} (h : Reach (twG stop) a s x s') : s'.length + x.many ≤ s.length + a.many := by
 induction h with
 | self a s => exact Nat.le_refl _
 | @kid a k x s s' i ok hk h ih =>
   have h1 := twG_lenL stop (a.kids.take i) (twG stop s a).2
   have h2 := many_take hk
   have h3 : manyLA a.kids < a.many := by obtain ⟨b, v, kk, t, m, ks⟩ := a; simp only [ATree.kids, ATree.many]; omega
   have h4 : (twG stop s a).2.length = s.length + 1 := by simp [twG]
   omega
mutual
theorem twW_tree (stop : Int) : ∀ (a b : ATree), a.tree = b.tree → ∀ l, walkA (twG stop) a l = walkA (twG stop) b l
 | .mk b1 v1 k1 t1 n1 ks1, .mk b2 v2 k2 t2 n2 ks2, h, l => by
   simp only [ATree.tree, Tree.mk.injEq] at h
   obtain ⟨rfl, rfl, _, h⟩ := h
   rw [twW_eq, twW_eq]
   simp only [ATree.kids, ATree.kind]
   rw [twWL_tree stop ks1 ks2 h]
theorem twWL_tree (stop : Int) : ∀ (l1 l2 : List ATree), treeL l1 = treeL l2 → ∀ l, walkL (twG stop) l1 l = walkL (twG stop) l2 l
 | [], [], _, l => rfl
 | [], _ :: _, h, _ => by simp [treeL] at h
 | _ :: _, [], h, _ => by simp [treeL] at h
 | a :: l1, b :: l2, h, l => by
   simp only [treeL, List.cons.injEq] at h
   simp only [walkL]
   rw [twW_tree stop a b h.1, twWL_tree stop l1 l2 h.2]
end
mutual
theorem tw_kinds (stop : Int) : ∀ (a : ATree), KT a.tree → ∀ l : List Int, (∀ k ∈ l, 0 ≤ k ∧ k < 100) → ∀ k ∈ walkA (twG stop) a l, 0 ≤ k ∧ k < 100
 | .mk b v k t n ks, h, l, hl => by
   simp only [ATree.tree] at h
   obtain ⟨h1, h2⟩ := h
   rw [twW_eq]
   simp only [ATree.kids, ATree.kind]
   have hl2 : ∀ x ∈ l ++ [k], 0 ≤ x ∧ x < 100 := fun x hx => by
    rcases List.mem_append.1 hx with hx | hx
    ·exact hl x hx
    ·simp only [List.mem_singleton] at hx; subst hx; exact ⟨h1.lo, h1.hi⟩
   cases (k != stop) with
   | true => exact tw_kindsL stop ks h2 _ hl2
   | false => exact hl2
theorem tw_kindsL (stop : Int) : ∀ (ks : List ATree), KTL (treeL ks) → ∀ l : List Int, (∀ k ∈ l, 0 ≤ k ∧ k < 100) → ∀ k ∈ walkL (twG stop) ks l, 0 ≤ k ∧ k < 100
 | [], _, l, hl => hl
 | a :: ks, h, l, hl => by
   simp only [treeL] at h
   simp only [walkL]
   exact tw_kindsL stop ks h.2 _ (tw_kinds stop a h.1 l hl)
end
theorem Ints.parts {w : World} {B : Nat} {v : Value} {l : List Int} (h : Ints w B v l) : ∃ p cp, v = .slice p l.length cp ∧ l.length ≤ cp ∧ cp ≤ 9223372036854775807 := by
 rcases ownsRow_cases h with ⟨h1, h2⟩ | ⟨g, cap, h1, h2, h3, _⟩
 ·exact ⟨none, 0, by rw [h1, h2], by omega, by omega⟩
 ·unfold maxLen at h3; exact ⟨_, _, h1, h2, by omega⟩
set_option maxHeartbeats 8000000 in
theorem told_list (w : World) (B : Nat) (v : Value) (l : List Int) (hv : Ints w B v l) (hk : ∀ k ∈ l, 0 ≤ k ∧ k < 100) (hl : l.length ≤ 100000) :
 Calls Tryz.prog 8 #[v] w fun e w' => e = .returned (.string (toldF l)) ∧ Below w.heap.size w w' := by
 obtain ⟨i0, hi, hz0, hz1, hz2⟩ := info_parts Tryz.infoStr
 obtain ⟨p, cp, rfl, hge, hgm⟩ := hv.parts
 obtain ⟨n, hn⟩ : ∃ n, n = l.length := ⟨_, rfl⟩
 have HV := lh hv
 rw [← hn] at hge hl HV ⊢
 have HN := lh hn
 have HK := lh hk
 obtain ⟨R, hR⟩ : ∃ R, R = toldF l := ⟨_, rfl⟩
 rw [← hR]
 have HRR := lh hR
 clear hv hn hk hR
 go_enter Tryz.func8, Tryz.ntmps8
 go_wp2_with fail
 go_loopw [3, 8] (fun v i wr => ∃ (k : Nat) (v' : Value), v' = v ∧ k ≤ n ∧ i = .int .i64 k ∧ Hid (Texts wr w.heap.size v' ((l.take k).map numT)) ∧ Hid (Below w.heap.size w wr)) (fun _ i _ => n - (intOf i).toNat)
 case atStart => exact ⟨0, _, rfl, Nat.zero_le _, rfl, lh (Texts.nil _ _), lh (Below.refl _ _)⟩
 case round =>
  obtain ⟨k, v, rfl, hkn', rfl, HR, HB⟩ := hrel
  by_cases hkn : k < n
  ·obtain ⟨x, hx⟩ : ∃ x, l[k]? = some x := ⟨_, List.getElem?_eq_getElem (by rw [← HN.out]; exact hkn)⟩
   rcases ownsRow_cases HV.out with ⟨_, h2⟩ | ⟨g0, cap0, h1, _⟩
   ·rw [← HN.out] at h2; omega
   have hp : p = some ⟨g0, 0, none⟩ := by
    simp only [Value.slice.injEq] at h1
    exact h1.1
   subst hp
   have cx : wr.cell? ⟨g0, k, none⟩ = some (.int .i64 x) := (World.cell?_of_block (HB.out.block g0 (World.ownsRow.lt HV.out g0 rfl).2)).trans (ownsRow_cell1 HV.out (g := g0) rfl (by rw [List.getElem?_map, hx]; rfl))
   have hxr := HK.out x (List.mem_of_getElem? hx)
   obtain ⟨u, hu⟩ : ∃ u : Nat, x = (u : Int) := ⟨x.toNat, by omega⟩
   have HI := lh (Tryz.strconv_Itoa_small u (by omega) wr)
   have HNX := lh (show (l.take (k + 1)).map numT = (l.take k).map numT ++ [⟨(Lib.decDigits u).toArray⟩] from by
    rw [List.take_add_one, hx, List.map_append, hu]
    simp [numT])
   rw [hu] at cx
   obtain ⟨L, hL⟩ : ∃ L, L = (l.take k).map numT := ⟨_, rfl⟩
   have hll : L.length ≤ 100000 := by rw [hL, List.length_map, List.length_take]; omega
   rw [← hL] at HR HNX
   obtain ⟨T, hT⟩ : ∃ T : ByteArray, T = ⟨(Lib.decDigits u).toArray⟩ := ⟨_, rfl⟩
   rw [← hT] at HI HNX
   have hbs := HB.out.size
   have hro := HR.out
   unfold Texts at hro
   have HRO := lh hro
   clear hx h1 hxr hL hT hu hro
   go_wp2_with fail
   refine HI.out.mono ?_
   rintro e w1 ⟨rfl, hw1⟩
   have hw2 := hw1.symm
   subst hw2
   go_wp2_with (at_builtin; go_must (refine wpList_append_lies _ rfl (.tmp 12) (.tmp 15) 44 rfl w.heap.size 9 i0 (.string ByteArray.empty) 1 16 Tryz.underlying44 hi hz0 hz1 hz2 rfl (by decide) v L.length (L.map Value.string) rfl (HRO.out.alloc _) ⟨_, 0, none⟩ 1 1 [.string T] rfl rfl (World.news_of_block (cs := #[.string T]) (t := 9) (fr := (0, 0)) (heap_alloc_new _ _)) (by intro u hu; simp at hu; subst hu; rfl) (by omega) (by unfold maxLen; omega) (by omega) (by simp; omega) _ rfl ?_); intro gg cap w4 hown4 hgrow4 hat4 hgl4; have HG := lh hgrow4; have HW := lh hown4; clear hgrow4 hown4 hat4 hgl4)
   go_roundw
   case rel =>
    refine ⟨k + 1, _, rfl, by omega, by go_num, lh ?_, lh ((HB.out.alloc HB.out.size _).grown HG.out (by simp; omega) fun i hi2 => (World.ownsRow.lt HRO.out i hi2).1)⟩
    rw [HNX.out]
    unfold Texts
    rw [List.length_append, List.map_append]
    exact HW.out
   case measure => simp [intOf]; omega
  ·have hk2 : k = n := by omega
   subst hk2
   have hro := HR.out
   rw [List.take_of_length_le (by rw [← HN.out]; exact Nat.le_refl _)] at hro
   have hj := told_len l HK.out (by rw [← HN.out]; exact hl)
   rcases hro.form with ⟨rfl, h2⟩ | ⟨g, cap, rfl, hle, hm⟩
   ·have hl0 : l = [] := by simpa using h2
    have HJ := lh (Tryz.strings_Join_none none 0 ⟨#[32]⟩ wr)
    have HT0 := lh (show toldF l = ⟨#[]⟩ from by rw [hl0]; simp [toldF, Lib.join])
    clear hro hj h2 hl0
    go_wp2_with fail
    refine HJ.out.mono ?_
    rintro e w5 ⟨rfl, hw5⟩
    have hw6 := hw5.symm
    subst hw6
    go_wp2
    go_ret
    exact ⟨by rw [HRR.out, HT0.out]; rfl, HB.out⟩
   ·have HJ := Tryz.strings_Join g 0 cap (l.map numT) ⟨#[32]⟩ wr (fun j x hx => by
     rw [Nat.zero_add]
     exact hro.cells rfl hx) (World.ownsRow.lt hro g rfl).2 (by rw [List.length_map, ← HN.out]; omega) hle hj
    have hR := HRR.out
    unfold toldF at hR
    rw [← hR, List.length_map] at HJ
    have HJ := lh HJ
    clear hro hj hle hm hR
    go_wp2_with fail
    refine HJ.out.mono ?_
    rintro e w5 ⟨rfl, hb5⟩
    have HB5 := lh (HB.out.trans (hb5.mono HB.out.size))
    clear hb5
    go_wp2
    go_ret
    exact ⟨rfl, HB5.out⟩
theorem IInv.bel2 {w2 w3 w : World} {c : Nat} {l : List Int} (h : IInv w3 c l w) (hb : Below w2.heap.size w2 w3) (hc : w2.heap.size ≤ c) : Below w2.heap.size w2 w :=
 ⟨h.fr.os.trans hb.os, h.fr.tape.trans hb.tape, h.fr.output.trans hb.output, Nat.le_trans hb.size h.fr.size, fun k hk => (h.fr.block k (Nat.lt_of_lt_of_le hk hb.size) (by omega)).trans (hb.block k hk)⟩
theorem IInv.start {w : World} {c : Nat} (h : w.heap[c]? = some (.cells #[.slice none 0 0] 25 (0, 0))) : IInv w c [] w :=
 ⟨⟨_, h, World.ownsRow_nil _ _ _ _⟩, RFr.refl _ _⟩
theorem tw_walk1 (w2 w3 : World) (c sb : Nat) (stop : Int) (B : Nat) (a : ATree) (hT : TreeAt w2 B a) (hb : Below w2.heap.size w2 w3) (hc : w2.heap.size ≤ c) (hc3 : c < w3.heap.size)
 (hsb : w3.heap[sb]? = some (.cells #[.int .i64 stop] 3 (0, 0))) (hne : sb ≠ c) (hm : a.many ≤ 1500) (w : World) (hI : IInv w3 c [] w) :
 Calls Tryz.prog 5 #[a.ptr, .func (.func 6) #[] #[.pointer (some ⟨c, 0, none⟩), .pointer (some ⟨sb, 0, none⟩)]] w fun e w' => e = .returned (.tuple #[]) ∧ IInv w3 c (walkA (twG stop) a []) w' :=
 walk_Tw ⟨c, 0, none⟩ ⟨sb, 0, none⟩ (IInv w3 c) (twG stop) B a.many a (Nat.le_refl _) (fun s w h => hT.bel (h.bel2 hb hc)) []
  (fun x s' hx w h => tw1_any w3 c sb stop hc3 hsb hne B x s' (by have := reach_len hx; simp only [List.length_nil] at this; omega) w h (subs_tree (hT.bel (h.bel2 hb hc)) hx.sub)) w hI
theorem tw_walk2 (w2 w3 : World) (c sb fb : Nat) (stop : Int) (B : Nat) (a : ATree) (hT : TreeAt w2 B a) (hb : Below w2.heap.size w2 w3) (hc : w2.heap.size ≤ c) (hc3 : c < w3.heap.size)
 (hsb : w3.heap[sb]? = some (.cells #[.int .i64 stop] 3 (0, 0))) (hne : sb ≠ c) (hfb : SelfAt w3 fb c sb) (hfc : fb ≠ c) (hm : a.many ≤ 1500) (w : World) (hI : IInv w3 c [] w) :
 Calls Tryz.prog 7 #[a.ptr, .pointer (some ⟨c, 0, none⟩), .pointer (some ⟨sb, 0, none⟩), .pointer (some ⟨fb, 0, none⟩)] w fun e w' => e = .returned (.tuple #[]) ∧ IInv w3 c (walkA (twG stop) a []) w' :=
 tw2_any w3 c sb fb stop hc3 hsb hne hfb hfc B a.many a (Nat.le_refl _) (by omega) (fun l w h => hT.bel (h.bel2 hb hc)) [] (by simp only [List.length_nil]; omega) w hI
theorem Ints.bel {w w' : World} {B : Nat} {v : Value} {l : List Int} (h : Ints w B v l) (hb : Below w.heap.size w w') : Ints w' B v l := ownsRow_block h fun b hb' => hb.block b (World.ownsRow.lt h b hb').2
set_option maxHeartbeats 8000000 in
theorem treewalks_any (w : World) (text : ByteArray) (stop : Int) (hW : Words w) (hL : Levels w w.heap.size) (hR : RWords w) (hF : FineAt w) :
 Calls Tryz.prog 3 #[.string text, .int .i64 stop] w fun e w' => e = .returned (.bool true) ∧ Below w.heap.size w w' := by
 obtain ⟨w1, hw1⟩ : ∃ W, W = w.alloc (.cells #[.int .i64 stop] 3) := ⟨_, rfl⟩
 have hb1 : Below w.heap.size w w1 := by rw [hw1]; exact (Below.refl _ _).alloc (Nat.le_refl _) _
 have hs1 : w1.heap[w.heap.size]? = some (.cells #[.int .i64 stop] 3 (0, 0)) := by rw [hw1]; exact heap_alloc_new _ _
 have hl1 := (Array.getElem?_eq_some_iff.1 hs1).1
 have HB := both_any w1 text (hW.below hb1) (hL.belowL hb1) (hR.below hb1) (hF.below hb1)
 have HW1 := lh hw1
 have B1 := lh hb1
 have S1 := lh hs1
 clear hw1 hb1 hs1 hW hL hR hF
 cases hr : parseAll text with
 | error x =>
   rw [hr] at HB
   have HB := lh HB
   clear hr
   go_enter Tryz.func3, Tryz.ntmps3
   go_wp2_with fail
   rw [← HW1.out]
   refine HB.out.mono ?_
   rintro e w2 ⟨hb, rfl⟩
   have BEL := lh (B1.out.trans (hb.mono B1.out.size))
   clear hb HB
   go_wp2
   go_ret
   exact ⟨rfl, BEL.out⟩
 | ok t =>
   rw [hr] at HB
   have HMN := lh (parseAll_many hr)
   have HKT := lh (parseAll_kinds hr)
   have HB := lh HB
   clear hr
   go_enter Tryz.func3, Tryz.ntmps3
   go_wp2_with fail
   rw [← HW1.out]
   refine HB.out.mono ?_
   rintro e w2 ⟨hb2, a, b, rfl, hA, hG⟩
   have A2 := lh hA
   have G2 := lh hG
   have B2 := lh (B1.out.trans (hb2.mono B1.out.size))
   have HTE := lh (hA.tree.trans hG.tree.symm)
   have hma : a.many ≤ 1500 := by have := many_tree (a := a); rw [hA.tree] at this; have := HMN.out; omega
   have hmb : b.many ≤ 1500 := by have := many_tree (a := b); rw [hG.tree] at this; have := HMN.out; omega
   have hl2 : w.heap.size < w2.heap.size := Nat.lt_of_lt_of_le hl1 hb2.size
   have hs2 := (hb2.block w.heap.size hl1).trans S1.out
   obtain ⟨w3, hw3⟩ : ∃ W, W = (w2.alloc (.cells #[.slice none 0 0] 25)).alloc (.cells #[.slice none 0 0] 25) := ⟨_, rfl⟩
   have hb3 : Below w2.heap.size w2 w3 := by rw [hw3]; exact ((Below.refl _ _).alloc (Nat.le_refl _) _).alloc (by simp) _
   have h83 : w3.heap[w2.heap.size]? = some (.cells #[.slice none 0 0] 25 (0, 0)) := by
    rw [hw3]
    exact ((Go.MapKept.heap_alloc (w2.alloc (.cells #[.slice none 0 0] 25)) (.cells #[.slice none 0 0] 25)).2 _ (by simp)).trans (Go.MapKept.heap_alloc w2 (.cells #[.slice none 0 0] 25)).1
   have h93 : w3.heap[w2.heap.size + 1]? = some (.cells #[.slice none 0 0] 25 (0, 0)) := by
    rw [hw3]
    have := (Go.MapKept.heap_alloc (w2.alloc (.cells #[.slice none 0 0] 25)) (.cells #[.slice none 0 0] 25)).1
    simpa using this
   have hl3 := (Array.getElem?_eq_some_iff.1 h93).1
   have hs3 := (hb3.block w.heap.size hl2).trans hs2
   have W4 := lh (tw_walk1 w2 w3 w2.heap.size w.heap.size stop _ a hA.at' hb3 (Nat.le_refl _) (by omega) hs3 (by omega) hma w3 (IInv.start h83))
   have B3 := lh hb3
   have H9 := lh h93
   have S3 := lh hs3
   have HW3 := lh hw3
   have HMA := lh hma
   have HMB := lh hmb
   unfold ATree.ptr at W4 ⊢
   clear hb2 hA hG HB hma hmb hs2 hb3 h83 h93 hs3 hw3
   go_wp2_with fail
   rw [← HW3.out]
   refine W4.out.mono ?_
   rintro e w4 ⟨rfl, hI4⟩
   have hl4 : w3.heap.size ≤ w4.heap.size := hI4.fr.size
   have I4 := lh hI4
   obtain ⟨w6, hw6⟩ : ∃ W, W = w4.alloc (.cells #[.func (.func 7) #[] #[.pointer (some ⟨w2.heap.size + 1, 0, none⟩), .pointer (some ⟨w.heap.size, 0, none⟩), .pointer (some ⟨w4.heap.size, 0, none⟩)]] 31) := ⟨_, rfl⟩
   have hb6 : Below w4.heap.size w4 w6 := by rw [hw6]; exact (Below.refl _ _).alloc (Nat.le_refl _) _
   have hself : SelfAt w6 w4.heap.size (w2.heap.size + 1) w.heap.size := by rw [hw6]; exact heap_alloc_new _ _
   have hl6 : w4.heap.size < w6.heap.size := (Array.getElem?_eq_some_iff.1 hself).1
   have hb26 : Below w2.heap.size w2 w6 := (hI4.bel2 B3.out (Nat.le_refl _)).trans (hb6.mono (by omega))
   have hs6 := (hb6.block w.heap.size (by omega)).trans ((hI4.fr.block w.heap.size (by omega) (by omega)).trans S3.out)
   have h96 := (hb6.block (w2.heap.size + 1) (by omega)).trans ((hI4.fr.block (w2.heap.size + 1) hl3 (by omega)).trans H9.out)
   have W7 := lh (tw_walk2 w2 w6 (w2.heap.size + 1) w.heap.size w4.heap.size stop _ b G2.out.at' hb26 (by omega) (by omega) hs6 (by omega) hself (by omega) HMB.out w6 (IInv.start h96))
   have HW6 := lh hw6
   have B6 := lh hb6
   have B26 := lh hb26
   unfold ATree.ptr at W7
   clear hI4 W4 hw6 hb6 hself hb26 hs6 h96
   go_wp2_with fail
   rw [← HW6.out]
   refine W7.out.mono ?_
   rintro e w7 ⟨rfl, hI7⟩
   obtain ⟨v8, h8, r8⟩ := I4.out.cell
   obtain ⟨v9, h9, r9⟩ := hI7.cell
   have hl7 : w6.heap.size ≤ w7.heap.size := hI7.fr.size
   have far : ∀ k, k < w4.heap.size → k ≠ w2.heap.size + 1 → w7.heap[k]? = w4.heap[k]? := fun k hk hn => (hI7.fr.block k (by omega) hn).trans (B6.out.block k hk)
   have h87 := (far w2.heap.size (by omega) (by omega)).trans h8
   have r87 : Ints w7 w3.heap.size v8 (walkA (twG stop) a []) := ownsRow_block r8 fun k hk => far k (World.ownsRow.lt r8 k hk).2 (by have := (World.ownsRow.lt r8 k hk).1; omega)
   rw [← twW_tree stop a b HTE.out] at r9
   have hll := twG_len stop a []
   have hkk := tw_kinds stop a (by rw [A2.out.tree]; exact HKT.out) [] (fun _ h => by cases h)
   obtain ⟨L, hL⟩ : ∃ L, L = walkA (twG stop) a [] := ⟨_, rfl⟩
   rw [← hL] at r87 r9 hll hkk
   have hl100 : L.length ≤ 100000 := by have := HMA.out; simp only [List.length_nil] at hll; omega
   have T8 := lh (told_list w7.drew _ v8 L r87 hkk hl100)
   have T9 := lh (fun (W : World) (hb : Below w7.heap.size w7 W) => told_list W _ v9 L (r9.bel hb) hkk hl100)
   have c8 : w7.cell? ⟨w2.heap.size, 0, none⟩ = some v8 := by simp only [World.cell?, h87]; rfl
   have c9 : w7.cell? ⟨w2.heap.size + 1, 0, none⟩ = some v9 := by simp only [World.cell?, h9]; rfl
   have B7 := lh (B2.out.trans ((hI7.bel2 B26.out (by omega)).mono B2.out.size))
   obtain ⟨R, hR⟩ : ∃ R, R = toldF L := ⟨_, rfl⟩
   rw [← hR] at T8 T9
   clear hI7 W7 h8 r8 h9 r9 far h87 r87 hll hkk hL hR hl100
   go_wp2_with fail
   refine wp_region_plan [(true, 0), (true, 1), (true, 2), (true, 3), (true, 5), (false, 4)] [6, 7, 8, 9] (fun W => W.cell? ⟨w2.heap.size, 0, none⟩ = some v8 ∧ W.cell? ⟨w2.heap.size + 1, 0, none⟩ = some v9) (by kernel_rfl) (by kernel_rfl) (fun _ _ d _ _ h => by cases d <;> exact h) ⟨c8, c9⟩ (fun hS0 => ?_)
   simp only [planOps, List.filterMap_cons, List.filterMap_nil, List.getElem?_toArray, List.getElem?_cons_zero, List.getElem?_cons_succ, Option.map_some]
   iterate 5
    first
     | (refine wpPlan_take ?_ (by rfl) (fun w' hS' => ?_) ?_; rotate_left; (obtain ⟨s0, s1⟩ := hS'; go_simp; first | done | with_reducible rfl); simp only [Act.put, zA, zB, zC])
     | (refine wpPlan_skip (by rfl) ?_; simp only [Act.put, zA, zB, zC])
   refine wpPlan_go (fun K hK => ?_)
   go_wp2_with fail
   refine T8.out.mono ?_
   rintro e w8 ⟨rfl, hb8⟩
   have hB8 : Below w7.heap.size w7 w8 := ((Below.refl w7.heap.size w7).drew).trans hb8
   have c88 : w8.cell? ⟨w2.heap.size, 0, none⟩ = some v8 := (World.cell?_of_block (hB8.block w2.heap.size (by omega))).trans c8
   have c98 : w8.cell? ⟨w2.heap.size + 1, 0, none⟩ = some v9 := (World.cell?_of_block (hB8.block (w2.heap.size + 1) (by omega))).trans c9
   have hl8 := hB8.size
   have T9 := lh (T9.out w8 hB8)
   have B8 := lh (B7.out.trans (hB8.mono B7.out.size))
   clear hb8 hB8 T8
   go_simp
   refine hK _ _ ⟨c88, c98⟩ ?_
   clear hK K c8 c9 c88 c98
   refine wpPlan_end ?_
   go_wp2_with fail
   refine T9.out.mono ?_
   rintro e w9 ⟨rfl, hb9⟩
   have B9 := lh (B8.out.trans (hb9.mono B8.out.size))
   clear hb9 T9
   go_wp2
   go_ret
   exact ⟨rfl, B9.out⟩
end Go.Proofs.YtilchadbjflpgaaGreatDoor
namespace Go.Proofs.YtilchadbjflpgaaGreatDoor
open Go Go.RowKit
set_option maxRecDepth 100000
theorem cells_of_texts {H : Type} {enc : TypeId × Value → H} {P : Program} {w : World} {base : Nat} {sp : Nat → Bool} {held : Bool} {fuel : Nat} {t e : TypeId} {n : Nat} {cs : List Value} {l : List (List UInt8)} {p : List MemPlace}
 (ht : P.underlying t = some (.array n e)) (he : P.underlying e = some .string) (hce : P.cellsOf e = 1) (hct : P.cellsOf t = n)
 (h : DataW.trod enc P w base sp held fuel t cs = some (.agg (l.map fun b => .lit (.string b)), p)) : cs = l.map fun b => Value.string ⟨b.toArray⟩ := by
 cases fuel with
 | zero => simp [DataW.trod] at h
 | succ fuel =>
   simp only [DataW.trod, ht, hce, hct, Nat.mul_one] at h
   split at h
   ·rename_i hl
    obtain ⟨xs, hm, hx⟩ := Option.map_eq_some_iff.1 h
    have hxs : xs.map (·.1) = l.map fun b => (DataW.lit (.string b) : DataW H) := by
     have := congrArg Prod.fst hx
     simpa using this
    have hxl : xs.length = n := by simpa using Lib.mapM_length hm
    have hzl : l.length = n := by
     have := congrArg List.length hxs
     simp at this
     omega
    apply List.ext_getElem?
    intro i
    by_cases hi : i < n
    ·obtain ⟨b, hb, hf⟩ := Lib.mapM_at hm i i (by simp [hi])
     obtain ⟨s, hc, rfl, _⟩ := DataW.trod_string he hf
     have h1 : cs[i]? = some (.string s) := by
      have := congrArg (·[0]?) hc
      simpa [List.getElem?_take, List.getElem?_drop] using this
     have h2 : (xs.map (·.1))[i]? = some (DataW.lit (.string s.data.toList) : DataW H) := by simp [hb]
     rw [hxs] at h2
     simp only [List.getElem?_map, Option.map_eq_some_iff, DataW.lit.injEq, Lit.string.injEq] at h2
     obtain ⟨z', hz', hzz⟩ := h2
     simp only [h1, List.getElem?_map, hz', Option.map_some, hzz]
    ·rw [List.getElem?_eq_none (by omega), List.getElem?_eq_none (by simp; omega)]
   ·cases h
theorem text_of {H : Type} {enc : TypeId × Value → H} {P : Program} {w : World} {base : Nat} {sp : Nat → Bool} {held : Bool} {fuel : Nat} {e : TypeId} {v : Value} {b : List UInt8} {q : List MemPlace} (he : P.underlying e = some .string)
 (h : DataW.trod enc P w base sp held fuel e [v] = some (.lit (.string b), q)) : v = .string ⟨b.toArray⟩ := by
 obtain ⟨s, hc, hx, _⟩ := DataW.trod_string he h
 simp only [List.cons.injEq, and_true] at hc
 simp only [Prod.mk.injEq, DataW.lit.injEq, Lit.string.injEq] at hx
 rw [hc, hx.1]
theorem texts_of_head {P : Program} {W : World} {name : String} {d : DataW Unit} {rest : List (String × DataW Unit)} {g : Nat} {t e : TypeId} {n : Nat} {l : List (List UInt8)}
 (hg : P.globalNamed name = some g) (hty : (P.globals[g]?).map (·.type) = some t) (ht : P.underlying t = some (.array n e)) (he : P.underlying e = some .string) (hce : P.cellsOf e = 1) (hct : P.cellsOf t = n)
 (hd : d = .agg (l.map fun b => .lit (.string b))) (h : laidMet P ((name, d) :: rest) W) (i : Nat) (b : List UInt8) (hi : l[i]? = some b) : W.cell? ⟨g, i, none⟩ = some (.string ⟨b.toArray⟩) := by
 obtain ⟨ps, ⟨g', t', cs, fuel, p, q, hg', ht', hvar, hd', _, _⟩, _⟩ := h
 obtain rfl := Option.some.inj (hg.symm.trans hg')
 obtain rfl := Option.some.inj (hty.symm.trans ht')
 rw [hd] at hd'
 have hc := cells_of_texts ht he hce hct hd'
 have := World.var?_cell hg hvar i
 rw [this]
 have hx : cs = (l.map fun b => Value.string ⟨b.toArray⟩).toArray := by rw [← hc]
 rw [hx]
 simp [hi]
theorem row_of_head {P : Program} {W : World} {name : String} {d : DataW Unit} {rest : List (String × DataW Unit)} {g : Nat} {t e : TypeId} {l : List (List UInt8)}
 (hg : P.globalNamed name = some g) (hty : (P.globals[g]?).map (·.type) = some t) (ht : P.underlying t = some (.slice e)) (he : P.underlying e = some .string) (hce : P.cellsOf e = 1)
 (hd : d = .slice (l.map fun b => .lit (.string b)) []) (hl : 0 < l.length) (h : laidMet P ((name, d) :: rest) W) :
 ∃ b off cap, W.cell? ⟨g, 0, none⟩ = some (.slice (some ⟨b, off, none⟩) l.length cap) ∧ l.length ≤ cap ∧ ∀ i x, l[i]? = some x → W.cell? ⟨b, off + i, none⟩ = some (.string ⟨x.toArray⟩) := by
 obtain ⟨ps, ⟨g', t', cs, fuel, p, q, hg', ht', hvar, hd', _, _⟩, _⟩ := h
 obtain rfl := Option.some.inj (hg.symm.trans hg')
 obtain rfl := Option.some.inj (hty.symm.trans ht')
 rw [hd] at hd'
 obtain ⟨a, cap, hcs, hcap, hel⟩ := open_row ht hce hd'
 rw [List.length_map] at hcs hcap
 obtain ⟨b, off, spot⟩ := a
 have hspot : spot = none := by
  obtain ⟨x, hx⟩ : ∃ x, l[0]? = some x := ⟨l[0], List.getElem?_eq_getElem hl⟩
  obtain ⟨v, n, q, hc, _⟩ := hel 0 _ (by rw [List.getElem?_map, hx]; rfl)
  simpa [Addr.add] using World.cell?_spot hc
 subst hspot
 refine ⟨b, off, cap, ?_, hcap, fun i x hx => ?_⟩
 ·have := World.var?_cell hg hvar 0
  rw [Array.eq_one_of_toList hcs] at this
  simpa using this
 ·obtain ⟨v, n, q, hc, hr⟩ := hel i _ (by rw [List.getElem?_map, hx]; rfl)
  rw [text_of he hr] at hc
  rwa [show ((⟨b, off, none⟩ : Addr).add i) = ⟨b, off + i, none⟩ by unfold Addr.add; split <;> simp_all] at hc
theorem rows_at {H : Type} {enc : TypeId × Value → H} {P : Program} {w : World} {base : Nat} {sp : Nat → Bool} {held : Bool} {fuel : Nat} {t e : TypeId} {n : Nat} {cs : List Value} {l : List (DataW H)} {p : List MemPlace}
 (ht : P.underlying t = some (.array n e)) (hce : P.cellsOf e = 1) (hct : P.cellsOf t = n)
 (h : DataW.trod enc P w base sp held fuel t cs = some (.agg l, p)) (i : Nat) (r : DataW H) (hi : l[i]? = some r) :
 ∃ fuel' q, DataW.trod enc P w base sp held fuel' e ((cs.drop i).take 1) = some (r, q) := by
 cases fuel with
 | zero => simp [DataW.trod] at h
 | succ fuel =>
   simp only [DataW.trod, ht, hce, hct, Nat.mul_one] at h
   split at h
   ·rename_i hl
    obtain ⟨xs, hm, hx⟩ := Option.map_eq_some_iff.1 h
    have hxs : xs.map (·.1) = l := by
     have := congrArg Prod.fst hx
     simpa using this
    have hxl : xs.length = n := by simpa using Lib.mapM_length hm
    have hin : i < n := by
     have h1 := (List.getElem?_eq_some_iff.1 hi).1
     rw [← hxs, List.length_map] at h1
     omega
    obtain ⟨b, hb, hf⟩ := Lib.mapM_at hm i i (by simp [hin])
    have h2 : (xs.map (·.1))[i]? = some b.1 := by simp [hb]
    rw [hxs, hi] at h2
    exact ⟨fuel, b.2, by rw [Option.some.inj h2]; exact hf⟩
   ·cases h
theorem rows_of_second {P : Program} {W : World} {n1 name : String} {d1 d : DataW Unit} {rest : List (String × DataW Unit)} {g : Nat} {t e f : TypeId} {n : Nat} {l : List (List (List UInt8))}
 (hg : P.globalNamed name = some g) (hty : (P.globals[g]?).map (·.type) = some t) (ht : P.underlying t = some (.array n e)) (he : P.underlying e = some (.slice f)) (hf : P.underlying f = some .string)
 (hce : P.cellsOf e = 1) (hcf : P.cellsOf f = 1) (hct : P.cellsOf t = n)
 (hd : d = .agg (l.map fun r => .slice (r.map fun b => .lit (.string b)) [])) (h : laidMet P ((n1, d1) :: (name, d) :: rest) W) (i : Nat) (r : List (List UInt8)) (hi : l[i]? = some r) (hr : 0 < r.length) :
 ∃ b off cap, W.cell? ⟨g, i, none⟩ = some (.slice (some ⟨b, off, none⟩) r.length cap) ∧ r.length ≤ cap ∧ ∀ j x, r[j]? = some x → W.cell? ⟨b, off + j, none⟩ = some (.string ⟨x.toArray⟩) := by
 obtain ⟨ps, ⟨_, _, _, _, _, _, _, _, _, _, h2, _⟩, _⟩ := h
 obtain ⟨g', t', cs, fuel, p, q, hg', ht', hvar, hd', _, _⟩ := h2
 obtain rfl := Option.some.inj (hg.symm.trans hg')
 obtain rfl := Option.some.inj (hty.symm.trans ht')
 rw [hd] at hd'
 obtain ⟨fuel', q', hrow⟩ := rows_at ht hce hct hd' i (.slice (r.map fun b => .lit (.string b)) []) (by rw [List.getElem?_map, hi]; rfl)
 obtain ⟨a, cap, hcs, hcap, hel⟩ := open_row he hcf hrow
 rw [List.length_map] at hcs hcap
 have hcell : W.cell? ⟨g, i, none⟩ = some (.slice (some a) r.length cap) := by
  rw [World.var?_cell hg hvar i]
  have := congrArg (·[0]?) hcs
  simpa [List.getElem?_take, List.getElem?_drop] using this
 obtain ⟨b, off, spot⟩ := a
 have hspot : spot = none := by
  obtain ⟨x, hx⟩ : ∃ x, r[0]? = some x := ⟨r[0], List.getElem?_eq_getElem hr⟩
  obtain ⟨v, n, q, hc, _⟩ := hel 0 _ (by rw [List.getElem?_map, hx]; rfl)
  simpa [Addr.add] using World.cell?_spot hc
 subst hspot
 refine ⟨b, off, cap, hcell, hcap, fun j x hx => ?_⟩
 obtain ⟨v, n, q, hc, hr⟩ := hel j _ (by rw [List.getElem?_map, hx]; rfl)
 rw [text_of hf hr] at hc
 rwa [show ((⟨b, off, none⟩ : Addr).add j) = ⟨b, off + j, none⟩ by unfold Addr.add; split <;> simp_all] at hc
end Go.Proofs.YtilchadbjflpgaaGreatDoor
