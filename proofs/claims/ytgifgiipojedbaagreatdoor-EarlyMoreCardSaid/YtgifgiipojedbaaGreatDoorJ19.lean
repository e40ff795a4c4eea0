/- Package tree: block. Package tree: declared. Package tree: assign. Package tree: end. -/
import Derived.Test.YtgifgiipojedbaaGreatDoorJ11
import Derived.Test.YtgifgiipojedbaaGreatDoorJ09
namespace Go.Proofs.YtgifgiipojedbaaGreatDoor
open Go Go.RowKit
set_option maxRecDepth 100000
set_option linter.unusedVariables false

theorem stmts_form : ∀ {f d : Nat} {k : Int} {acc : List Tree} {us ts : List Tok} {t : Tree}, parseF f (.stmts k acc) d us = some (.ok (t, ts)) → ∃ tx l, t = .mk k tx 0 l := by
  intro f
  induction f with
  | zero => intro d k acc us ts t h; cases h
  | succ f ih =>
    intro d k acc us ts t h
    rw [parseF] at h
    generalize (if k = 1 then decide ((hdT us).kind = 6) else isT s_rbrace us) = c at h
    cases c
    · obtain ⟨x, vs, _, h⟩ := bindT_ok h
      exact ih h
    · obtain ⟨rfl, _⟩ := okT_inj h; exact ⟨_, _, rfl⟩

set_option maxHeartbeats 8000000 in
theorem block_says (f : Nat) (body : Bool) (hS : Says 75 (fun rb => #[.pointer (some ⟨rb, 0, none⟩), .int .i64 6, .string s_rbrace]) (.stmts 6 []) f) :
    Says 152 (fun rb => #[.pointer (some ⟨rb, 0, none⟩), .bool body]) (.block body) (f + 1) := by
  intro w rb B d ts r hP hp
  have hw : wantT s_lbrace ts (fun ts => bindT (parseF f (.stmts 6 []) d ts) fun x ts => wantT s_rbrace ts fun ts => okT (if body then x else .mk 6 ByteArray.empty 0 x.kids) ts) = some r := hp
  have HP := Lib.hid hP
  simp only
  rcases wantT_some hw with ⟨hs, h1⟩ | ⟨hs, rfl⟩
  · have HC := Lib.hid (want_yes w rb ts d s_lbrace hP.rd hs)
    have H1 := Lib.hid h1
    clear hP hp hw hs h1
    go_enter Tryz.func152, Tryz.ntmps152
    go_wp2_with fail
    refine HC.out.mono ?_
    rintro e w1 ⟨rfl, hR1, hF1⟩
    have P1 := Lib.hid (HP.out.tail hR1 hF1)
    have F1 := Lib.hid hF1
    clear hR1 hF1 HC
    rcases bindT_some H1.out with ⟨⟨c, p⟩, hv, rfl⟩ | ⟨t, ts2, hv, h2⟩
    · have HV := hS w1 rb B d _ _ P1.out hv
      simp only at HV
      unfold s_rbrace at HV
      have HV := Lib.hid HV
      clear hv
      go_wp2_with fail
      refine HV.out.mono ?_
      rintro e w2 ⟨⟨b, rfl, h1, h2⟩, hF⟩
      exact ⟨rfl, PPost.pre F1.out (r := .error (c, p)) ⟨⟨b, rfl, h1, h2⟩, hF⟩⟩
    · have HV := hS w1 rb B d _ _ P1.out hv
      simp only at HV
      unfold s_rbrace at HV
      have HV := Lib.hid HV
      have hl := leaves_le hv
      obtain ⟨tx, l, rfl⟩ := stmts_form hv
      have H2 := Lib.hid h2
      clear hv h2
      go_wp2_with fail
      refine HV.out.mono ?_
      rintro e w2 ⟨a, rfl, hG, hR2, hF2⟩
      obtain ⟨b, v, k, tx', n, kids⟩ := a
      have htr := hG.tree
      simp only [ATree.tree, Tree.mk.injEq] at htr
      obtain ⟨rfl, rfl, rfl, rfl⟩ := htr
      have G2 := hG.pre F1.out
      have F2 := F1.out.trans hF2
      have hblk := G2.at'.blkOf
      simp only [ATree.b, ATree.v, ATree.kind, ATree.text, ATree.n] at hblk ⊢
      have c1 : w2.cell? ⟨b, 1, none⟩ = some (.string tx') := by simp [World.cell?, hblk]
      have z1 : w2.frozen? ⟨b, 1, none⟩ = false := by simp [World.frozen?, hblk]
      have P2 := P1.out.next hR2 hF2 hl
      have H3 := Lib.hid (Got.text (t' := ByteArray.empty) HP.out.lt HP.out.le G2 F2 hR2)
      have P2' : Pre (w2.setCell ⟨b, 1, none⟩ (.string ByteArray.empty)) rb B d ts2 := ⟨H3.out.2.2, P2.deep, P2.lt, by rw [World.size_setCell]; exact P2.le, P2.few⟩
      have P2 := Lib.hid P2
      have P2' := Lib.hid P2'
      have F2 := Lib.hid F2
      have G2 := Lib.hid G2
      clear hG hR2 hF2 HV hl hblk
      rcases wantT_some H2.out with ⟨hs, h3⟩ | ⟨hs, rfl⟩
      · have h3 := Option.some.inj h3
        have HR := Lib.hid h3.symm
        cases body
        · have HC := want_yes _ rb ts2 d s_rbrace P2'.out.rd hs
          unfold s_rbrace at HC
          have HC := Lib.hid HC
          clear hs h3
          go_wp2_with fail
          refine HC.out.mono ?_
          rintro e w3 ⟨rfl, hR3, hF3⟩
          have R3 := Lib.hid hR3
          have F3 := Lib.hid hF3
          clear hR3 hF3
          go_wp2
          go_ret
          rw [HR.out]
          exact ⟨_, rfl, H3.out.1.rfr HP.out.lt F3.out, R3.out, H3.out.2.1.trans F3.out⟩
        · have HC := want_yes _ rb ts2 d s_rbrace P2.out.rd hs
          unfold s_rbrace at HC
          have HC := Lib.hid HC
          clear hs h3
          go_wp2_with fail
          refine HC.out.mono ?_
          rintro e w3 ⟨rfl, hR3, hF3⟩
          have R3 := Lib.hid hR3
          have F3 := Lib.hid hF3
          clear hR3 hF3
          go_wp2
          go_ret
          rw [HR.out]
          exact ⟨_, rfl, G2.out.rfr HP.out.lt F3.out, R3.out, F2.out.trans F3.out⟩
      · cases body
        · have HC := want_no _ rb ts2 d s_rbrace P2'.out.rd hs
          unfold s_rbrace at HC
          have HC := Lib.hid HC
          clear hs
          go_wp2_with fail
          refine HC.out.mono ?_
          rintro e w3 ⟨⟨b, rfl, h1, h2⟩, hB⟩
          exact ⟨rfl, PPost.err H3.out.2.1 ⟨b, rfl, h1, h2⟩ hB⟩
        · have HC := want_no _ rb ts2 d s_rbrace P2.out.rd hs
          unfold s_rbrace at HC
          have HC := Lib.hid HC
          clear hs
          go_wp2_with fail
          refine HC.out.mono ?_
          rintro e w3 ⟨⟨b, rfl, h1, h2⟩, hB⟩
          exact ⟨rfl, PPost.err F2.out ⟨b, rfl, h1, h2⟩ hB⟩
  · have HC := Lib.hid (want_no w rb ts d s_lbrace hP.rd hs)
    clear hP hp hw hs
    go_enter Tryz.func152, Tryz.ntmps152
    go_wp2_with fail
    refine HC.out.mono ?_
    rintro e w3 ⟨⟨b, rfl, h1, h2⟩, hB⟩
    exact ⟨rfl, PPost.err (RFr.refl _ _) ⟨b, rfl, h1, h2⟩ hB⟩
end Go.Proofs.YtgifgiipojedbaaGreatDoor

namespace Go.Proofs.YtgifgiipojedbaaGreatDoor
open Go Go.RowKit
set_option maxRecDepth 100000
set_option linter.unusedVariables false

set_option maxHeartbeats 8000000 in
theorem decl_says (f : Nat) (kind : Int) (must : Bool) (hV : Says 159 rArg .value f) :
    Says 155 (fun rb => #[.pointer (some ⟨rb, 0, none⟩), .int .i64 kind, .bool must]) (.decl kind must) (f + 1) := by
  intro w rb B d ts r hP hp
  have hw : nameT ts (fun s ts => if must && !isT s_eq ts then failT 3 ts else if isT s_eq ts then bindT (parseF f .value d ts.tail) fun x ts => okT (.mk kind s 0 [x]) ts else okT (.mk kind s 0 []) ts) = some r := hp
  have HP := Lib.hid hP
  simp only
  rcases nameT_some hw with ⟨hk, h1⟩ | ⟨hk, rfl⟩
  · have HC := Lib.hid (name_yes w rb ts d hP.rd hk)
    obtain ⟨s, hs⟩ : ∃ s, s = (hdT ts).text := ⟨_, rfl⟩
    rw [← hs] at HC h1
    have H1 := Lib.hid h1
    clear hP hp hw hk h1 hs
    go_enter Tryz.func155, Tryz.ntmps155
    go_wp2_with fail
    refine HC.out.mono ?_
    rintro e w1 ⟨rfl, hR1, hF1⟩
    have P1 := HP.out.tail hR1 hF1
    have HN := Lib.hid (node_any w1 rb kind s none 0 0)
    have hal : Below w1.heap.size w1 (w1.alloc (.cells #[.int .i64 kind, .string s, .int .i64 0, .slice none 0 0] 37)) := (Below.refl _ _).alloc (Nat.le_refl _) _
    obtain ⟨nb, hnb⟩ : ∃ b, b = w1.heap.size := ⟨_, rfl⟩
    have G2 := Got.leaf (k := kind) (t := s) (n := 0) HP.out.le hF1
    have P2 := P1.below hal
    have F2 := hF1.trans (RFr.below (rb := rb) hal)
    rw [← hnb] at G2 HN
    go_wp2_with fail
    refine HN.out.mono ?_
    rintro e w2 ⟨rfl, hw2⟩
    rw [← hw2] at G2 P2 F2
    have HNB := Lib.hid hnb
    have G2 := Lib.hid G2
    have P2 := Lib.hid P2
    have F2 := Lib.hid F2
    clear hR1 hF1 HC P1 HN hal hnb hw2
    obtain ⟨us, hus⟩ : ∃ us, us = ts.tail := ⟨_, rfl⟩
    rw [← hus] at P2 H1
    have HUS := Lib.hid hus
    clear hus
    by_cases he : isT s_eq us = true
    · have h1 := H1.out
      rw [if_neg (by rw [he]; simp), if_pos he] at h1
      have HI := is_any w2 rb us d s_eq P2.out.rd
      rw [he] at HI
      unfold s_eq at HI
      have HI := Lib.hid HI
      have HE := Lib.hid he
      have H2 := Lib.hid h1
      clear h1 he
      -- the test, if there must be a value
      have key : ∀ w3, Below w2.heap.size w2 w3 → Hid (Pre w3 rb B d us ∧ Got w B w3 (.mk nb (.slice none 0 0) kind s 0 []) (.mk kind s 0 []) ∧ RFr w w3 rb) := fun w3 hB => Lib.hid ⟨P2.out.below hB, G2.out.rfr HP.out.lt (RFr.below (rb := rb) hB), F2.out.trans (RFr.below hB)⟩
      have KEY := Lib.hid key
      clear key
      cases must
      · have PX := Lib.hid P2.out
        have GX := Lib.hid G2.out
        have FX := Lib.hid F2.out
        clear KEY HI
        have HX := HP.out.lt
        have hlt := HP.out.lt
        have HT := take_yes w2 rb us d s_eq PX.out.rd HE.out
        unfold s_eq at HT
        have HT := Lib.hid HT
        go_wp2_with fail
        refine HT.out.mono ?_
        rintro e w5 ⟨rfl, hR5, hF5⟩
        have P5 := PX.out.tail hR5 hF5
        have G5 := GX.out.rfr hlt hF5
        have F5 := FX.out.trans hF5
        have hblk5 := G5.at'.blkOf
        simp only [ATree.b, ATree.v, ATree.kind, ATree.text, ATree.n] at hblk5
        have n3 : w5.cell? ⟨nb, 3, none⟩ = some (.slice none 0 0) := by simp [World.cell?, hblk5]
        have P5 := Lib.hid P5
        have G5 := Lib.hid G5
        have F5 := Lib.hid F5
        clear hR5 hF5 hblk5 HT PX GX FX
        go_wp2_with fail
        refine wp_region_plan [(true, 0), (true, 1), (true, 2), (true, 3), (true, 4), (true, 5), (false, 6), (false, 7), (false, 8)] [9, 10, 11] (fun W => W.cell? ⟨nb, 3, none⟩ = some (.slice none 0 0)) (by kernel_rfl) (by kernel_rfl) (fun _ _ d _ _ h => by cases d <;> exact h) n3 (fun hS0 => ?_)
        simp only [planOps, List.filterMap_cons, List.filterMap_nil, List.getElem?_toArray, List.getElem?_cons_zero, List.getElem?_cons_succ, Option.map_some]
        iterate 6
          first
            | (refine wpPlan_take ?_ (by rfl) (fun w' hS' => ?_) ?_; rotate_left; (have s0 := hS'; go_simp; first | done | with_reducible rfl); simp only [Act.put, List.setIfInBounds_toArray, List.set_cons_zero, List.set_cons_succ])
            | (refine wpPlan_skip (by rfl) ?_; simp only [Act.put, List.setIfInBounds_toArray, List.set_cons_zero, List.set_cons_succ])
        refine wpPlan_go (fun K hK => ?_)
        go_simp
        have P6 : Pre w5.drew rb B d us.tail := P5.out.below (Below.refl _ _).drew
        rcases bindT_some H2.out with ⟨⟨c, p⟩, hv, rfl⟩ | ⟨t, vs, hv, hq3⟩
        · refine (hV w5.drew rb B d _ _ P6 hv).mono ?_
          rintro e w3 ⟨⟨b, rfl, h1, h2⟩, hF3⟩
          exact ⟨rfl, PPost.pre F5.out.drew (r := .error (c, p)) ⟨⟨b, rfl, h1, h2⟩, hF3⟩⟩
        · obtain rfl := Option.some.inj hq3
          refine (hV w5.drew rb B d _ _ P6 hv).mono ?_
          rintro e w3 ⟨a, rfl, hA, hR3, hF3⟩
          have hF53 : RFr w5 w3 rb := (RFr.refl w5 rb).drew.trans hF3
          have hN3 := G5.out.rfr hlt hF53
          have hblk := hN3.at'.blkOf
          simp only [ATree.b, ATree.v, ATree.kind, ATree.text, ATree.n] at hblk
          have m3 : w3.cell? ⟨nb, 3, none⟩ = some (.slice none 0 0) := by simp [World.cell?, hblk]
          have mz : w3.frozen? ⟨nb, 3, none⟩ = false := by simp [World.frozen?, hblk]
          have hnb3 : nb < w3.heap.size := (Array.getElem?_eq_some_iff.1 hblk).1
          have hk4 : ([] : List ATree).length ≤ 4000 := by simp
          have NE : Hid ((Value.slice none 0 0).ownBlock ≠ some nb) := Lib.hid (by simp [Value.ownBlock])
          have N3 := Lib.hid hN3
          have A3 := Lib.hid hA
          have R3 := Lib.hid hR3
          have F3 := Lib.hid (F5.out.trans hF53)
          refine hK _ _ m3 ?_
          obtain ⟨i0, hi, hz0, hz1, hz2⟩ := info_parts Tryz.infoPtr
          clear hK K hA hR3 hF3 hF53 hN3 hblk hv hq3 n3
          refine wpPlan_go (fun K hK => ?_)
          go_simp
          refine hK _ _ ((cell_old hnb3).trans m3) ?_
          clear hK K
          refine wpPlan_go (fun K hK => ?_)
          refine step_append_lies _ (by rfl) (.tmp 27) (.tmp 30) 34 (by rfl) B 22 i0 _ 1 8 Tryz.underlying34 hi hz0 hz1 hz2 rfl (by decide) (.slice none 0 0) (([] : List ATree)).length ((([] : List ATree)).map ATree.ptr) (by rfl) (N3.out.at'.rowOf.alloc _) ⟨w3.heap.size, 0, none⟩ 1 1 [a.ptr] (by rfl) rfl (World.news_of_block (cs := #[a.ptr]) (t := 22) (fr := (0, 0)) (heap_alloc_new w3 _)) (by simp [ATree.ptr, Value.oneCell']) (by decide) (by unfold maxLen; omega) (by omega) (by simp; have := F3.out.size; have := HP.out.le; omega) (w3.heap.size + 1) (by simp) ?_
          intro gg cap w4 hown4 hgrow4 hat4 hlt4
          have m4 : w4.cell? ⟨nb, 3, none⟩ = some (.slice none 0 0) := (hgrow4.cell_far ⟨nb, 3, none⟩ (by simp; omega) (fun e => NE.out e.symm)).trans ((cell_old hnb3).trans m3)
          have mz4 : w4.frozen? ⟨nb, 3, none⟩ = false := (hgrow4.frozen_far ⟨nb, 3, none⟩ (by simp; omega) (fun e => NE.out e.symm)).trans ((frozen_old hnb3).trans mz)
          refine hK _ _ m4 ?_
          clear hK K
          simp only [Act.put, List.setIfInBounds_toArray, List.set_cons_zero, List.set_cons_succ]
          have hfin := Got.push hlt HP.out.le N3.out (wA := w5.drew) (fun x hx => (G5.out.new x hx).2) A3.out F3.out R3.out ((Below.refl _ _).alloc (Nat.le_refl _) _) hgrow4 hown4 (by rcases hat4 with h | h; (exact .inl h); (exact .inr (by omega))) hlt4
          have FIN := Lib.hid hfin
          clear hgrow4 hown4 hat4 hlt4 hfin
          refine wpPlan_end ?_
          go_wp2
          go_ret
          exact ⟨_, rfl, FIN.out.1, FIN.out.2.2, FIN.out.2.1⟩
      · go_wp2_with fail
        refine HI.out.mono ?_
        rintro e wq ⟨rfl, hBq⟩
        have hk := KEY.out wq hBq
        have PX := Lib.hid hk.out.1
        have GX := Lib.hid hk.out.2.1
        have FX := Lib.hid hk.out.2.2
        clear KEY HI hBq hk P2 G2 F2
        have HX := HP.out.lt
        have hlt := HP.out.lt
        have HT := take_yes wq rb us d s_eq PX.out.rd HE.out
        unfold s_eq at HT
        have HT := Lib.hid HT
        go_wp2_with fail
        refine HT.out.mono ?_
        rintro e w5 ⟨rfl, hR5, hF5⟩
        have P5 := PX.out.tail hR5 hF5
        have G5 := GX.out.rfr hlt hF5
        have F5 := FX.out.trans hF5
        have hblk5 := G5.at'.blkOf
        simp only [ATree.b, ATree.v, ATree.kind, ATree.text, ATree.n] at hblk5
        have n3 : w5.cell? ⟨nb, 3, none⟩ = some (.slice none 0 0) := by simp [World.cell?, hblk5]
        have P5 := Lib.hid P5
        have G5 := Lib.hid G5
        have F5 := Lib.hid F5
        clear hR5 hF5 hblk5 HT PX GX FX
        go_wp2_with fail
        refine wp_region_plan [(true, 0), (true, 1), (true, 2), (true, 3), (true, 4), (true, 5), (false, 6), (false, 7), (false, 8)] [9, 10, 11] (fun W => W.cell? ⟨nb, 3, none⟩ = some (.slice none 0 0)) (by kernel_rfl) (by kernel_rfl) (fun _ _ d _ _ h => by cases d <;> exact h) n3 (fun hS0 => ?_)
        simp only [planOps, List.filterMap_cons, List.filterMap_nil, List.getElem?_toArray, List.getElem?_cons_zero, List.getElem?_cons_succ, Option.map_some]
        iterate 6
          first
            | (refine wpPlan_take ?_ (by rfl) (fun w' hS' => ?_) ?_; rotate_left; (have s0 := hS'; go_simp; first | done | with_reducible rfl); simp only [Act.put, List.setIfInBounds_toArray, List.set_cons_zero, List.set_cons_succ])
            | (refine wpPlan_skip (by rfl) ?_; simp only [Act.put, List.setIfInBounds_toArray, List.set_cons_zero, List.set_cons_succ])
        refine wpPlan_go (fun K hK => ?_)
        go_simp
        have P6 : Pre w5.drew rb B d us.tail := P5.out.below (Below.refl _ _).drew
        rcases bindT_some H2.out with ⟨⟨c, p⟩, hv, rfl⟩ | ⟨t, vs, hv, hq3⟩
        · refine (hV w5.drew rb B d _ _ P6 hv).mono ?_
          rintro e w3 ⟨⟨b, rfl, h1, h2⟩, hF3⟩
          exact ⟨rfl, PPost.pre F5.out.drew (r := .error (c, p)) ⟨⟨b, rfl, h1, h2⟩, hF3⟩⟩
        · obtain rfl := Option.some.inj hq3
          refine (hV w5.drew rb B d _ _ P6 hv).mono ?_
          rintro e w3 ⟨a, rfl, hA, hR3, hF3⟩
          have hF53 : RFr w5 w3 rb := (RFr.refl w5 rb).drew.trans hF3
          have hN3 := G5.out.rfr hlt hF53
          have hblk := hN3.at'.blkOf
          simp only [ATree.b, ATree.v, ATree.kind, ATree.text, ATree.n] at hblk
          have m3 : w3.cell? ⟨nb, 3, none⟩ = some (.slice none 0 0) := by simp [World.cell?, hblk]
          have mz : w3.frozen? ⟨nb, 3, none⟩ = false := by simp [World.frozen?, hblk]
          have hnb3 : nb < w3.heap.size := (Array.getElem?_eq_some_iff.1 hblk).1
          have hk4 : ([] : List ATree).length ≤ 4000 := by simp
          have NE : Hid ((Value.slice none 0 0).ownBlock ≠ some nb) := Lib.hid (by simp [Value.ownBlock])
          have N3 := Lib.hid hN3
          have A3 := Lib.hid hA
          have R3 := Lib.hid hR3
          have F3 := Lib.hid (F5.out.trans hF53)
          refine hK _ _ m3 ?_
          obtain ⟨i0, hi, hz0, hz1, hz2⟩ := info_parts Tryz.infoPtr
          clear hK K hA hR3 hF3 hF53 hN3 hblk hv hq3 n3
          refine wpPlan_go (fun K hK => ?_)
          go_simp
          refine hK _ _ ((cell_old hnb3).trans m3) ?_
          clear hK K
          refine wpPlan_go (fun K hK => ?_)
          refine step_append_lies _ (by rfl) (.tmp 27) (.tmp 30) 34 (by rfl) B 22 i0 _ 1 8 Tryz.underlying34 hi hz0 hz1 hz2 rfl (by decide) (.slice none 0 0) (([] : List ATree)).length ((([] : List ATree)).map ATree.ptr) (by rfl) (N3.out.at'.rowOf.alloc _) ⟨w3.heap.size, 0, none⟩ 1 1 [a.ptr] (by rfl) rfl (World.news_of_block (cs := #[a.ptr]) (t := 22) (fr := (0, 0)) (heap_alloc_new w3 _)) (by simp [ATree.ptr, Value.oneCell']) (by decide) (by unfold maxLen; omega) (by omega) (by simp; have := F3.out.size; have := HP.out.le; omega) (w3.heap.size + 1) (by simp) ?_
          intro gg cap w4 hown4 hgrow4 hat4 hlt4
          have m4 : w4.cell? ⟨nb, 3, none⟩ = some (.slice none 0 0) := (hgrow4.cell_far ⟨nb, 3, none⟩ (by simp; omega) (fun e => NE.out e.symm)).trans ((cell_old hnb3).trans m3)
          have mz4 : w4.frozen? ⟨nb, 3, none⟩ = false := (hgrow4.frozen_far ⟨nb, 3, none⟩ (by simp; omega) (fun e => NE.out e.symm)).trans ((frozen_old hnb3).trans mz)
          refine hK _ _ m4 ?_
          clear hK K
          simp only [Act.put, List.setIfInBounds_toArray, List.set_cons_zero, List.set_cons_succ]
          have hfin := Got.push hlt HP.out.le N3.out (wA := w5.drew) (fun x hx => (G5.out.new x hx).2) A3.out F3.out R3.out ((Below.refl _ _).alloc (Nat.le_refl _) _) hgrow4 hown4 (by rcases hat4 with h | h; (exact .inl h); (exact .inr (by omega))) hlt4
          have FIN := Lib.hid hfin
          clear hgrow4 hown4 hat4 hlt4 hfin
          refine wpPlan_end ?_
          go_wp2
          go_ret
          exact ⟨_, rfl, FIN.out.1, FIN.out.2.2, FIN.out.2.1⟩
    · have he' : isT s_eq us = false := by simpa using he
      have h1 := H1.out
      cases must
      · rw [if_neg (by simp), if_neg he] at h1
        obtain rfl := Option.some.inj h1
        have HT := take_no w2 rb us d s_eq P2.out.rd he'
        unfold s_eq at HT
        have HT := Lib.hid HT
        clear h1 he he' H1
        go_wp2_with fail
        refine HT.out.mono ?_
        rintro e w3 ⟨rfl, hB3⟩
        have R3 := Lib.hid (P2.out.rd.below hB3)
        have G3 := Lib.hid (G2.out.rfr HP.out.lt (RFr.below (rb := rb) hB3))
        have F3 := Lib.hid (F2.out.trans (RFr.below (rb := rb) hB3))
        clear hB3
        go_wp2
        go_ret
        exact ⟨_, rfl, G3.out, R3.out, F3.out⟩
      · rw [if_pos (by rw [he']; rfl)] at h1
        obtain rfl := Option.some.inj h1
        have HI := is_any w2 rb us d s_eq P2.out.rd
        rw [he'] at HI
        unfold s_eq at HI
        have HI := Lib.hid HI
        clear h1 he he' H1
        go_wp2_with fail
        refine HI.out.mono ?_
        rintro e w3 ⟨rfl, hB3⟩
        have HF := Lib.hid (fail_any w3 rb us d 3 (P2.out.rd.below hB3))
        have F3 := Lib.hid (F2.out.trans (RFr.below (rb := rb) hB3))
        clear hB3
        go_wp2_with fail
        refine HF.out.mono ?_
        rintro e w4 ⟨⟨b, rfl, h1, h2⟩, hB⟩
        exact ⟨rfl, PPost.err F3.out ⟨b, rfl, h1, h2⟩ hB⟩
  · have HC := Lib.hid (name_no w rb ts d hP.rd hk)
    clear hP hp hw hk
    go_enter Tryz.func155, Tryz.ntmps155
    go_wp2_with fail
    refine HC.out.mono ?_
    rintro e w3 ⟨⟨b, rfl, h1, h2⟩, hB⟩
    exact ⟨rfl, PPost.err (RFr.refl _ _) ⟨b, rfl, h1, h2⟩ hB⟩
end Go.Proofs.YtgifgiipojedbaaGreatDoor

namespace Go.Proofs.YtgifgiipojedbaaGreatDoor
open Go Go.RowKit
set_option maxRecDepth 100000
set_option linter.unusedVariables false

set_option maxHeartbeats 8000000 in
theorem assign_says (f : Nat) (hBn : Says 192 (fun rb => #[.pointer (some ⟨rb, 0, none⟩), .int .i64 0]) (.bin 0) f) (hV : Says 159 rArg .value f) :
    Says 178 rArg .assign (f + 1) := by
  intro w rb B d ts r hP hp
  have hw : bindT (parseF f (.bin 0) d ts) (fun x ts' => if isT s_eq ts' then (if x.kind = 23 ∨ x.kind = 36 then bindT (parseF f .value d ts'.tail) fun y ts => okT (.mk 24 ByteArray.empty 0 [x, y]) ts else some (.error (1, (hdT ts).at'))) else okT x ts') = some r := hp
  have HP := Lib.hid hP
  obtain ⟨tb, off, cap, h⟩ := hP.rd
  have c0 := h.c0
  have t3 := h.hd (j := 3) rfl
  have hpos := h.pos
  have hm := h.most
  have hle := h.le
  unfold maxLen at hm
  obtain ⟨n, hn⟩ : ∃ n, n = ts.length := ⟨_, rfl⟩
  rw [← hn] at c0 hpos hle
  have H1 := Lib.hid hw
  unfold rArg
  obtain ⟨pl, hpl⟩ : ∃ p, p = (hdT ts).at' := ⟨_, rfl⟩
  rw [← hpl] at t3
  have HPL := Lib.hid hpl
  clear hP hp hw h hn hpl
  have hlt := HP.out.lt
  rcases bindT_some H1.out with ⟨⟨c, p⟩, hv, rfl⟩ | ⟨t, us, hv, h2⟩
  · have HV := Lib.hid (hBn w rb B d _ _ HP.out hv)
    clear hv
    go_enter Tryz.func178, Tryz.ntmps178
    go_wp2_with fail
    refine HV.out.mono ?_
    rintro e w2 ⟨⟨b, rfl, h1, h2⟩, hF⟩
    exact ⟨rfl, ⟨b, rfl, h1, h2⟩, hF⟩
  · have HV := Lib.hid (hBn w rb B d _ _ HP.out hv)
    have hl := leaves_le hv
    have H2 := Lib.hid h2
    clear hv h2
    go_enter Tryz.func178, Tryz.ntmps178
    go_wp2_with fail
    refine HV.out.mono ?_
    rintro e w2 ⟨a, rfl, hG, hR2, hF2⟩
    have hblk := hG.at'.blkOf
    have d0 : w2.cell? ⟨a.b, 0, none⟩ = some (.int .i64 a.kind) := by simp [World.cell?, hblk]
    have hka : a.kind = t.kind := by rw [← hG.tree]; cases a; rfl
    have HKA := Lib.hid hka
    have P2 := Lib.hid (HP.out.next hR2 hF2 hl)
    have G2 := Lib.hid hG
    have F2 := Lib.hid hF2
    obtain ⟨ab, hab⟩ : ∃ b, b = a.b := ⟨_, rfl⟩
    obtain ⟨ak, hak⟩ : ∃ k, k = a.kind := ⟨_, rfl⟩
    have hal := G2.out.at'.lt
    rw [← hab] at d0 hal ⊢
    rw [← hak] at d0
    have HAB := Lib.hid hab
    have HAK := Lib.hid hak
    clear hR2 hF2 hG HV hl hblk hka hab hak c0 t3
    by_cases he : isT s_eq us = true
    · have h3 := H2.out
      rw [if_pos he] at h3
      have HI := is_any w2 rb us d s_eq P2.out.rd
      rw [he] at HI
      unfold s_eq at HI
      have HI := Lib.hid HI
      have HE := Lib.hid he
      clear he
      go_wp2_with fail
      refine HI.out.mono ?_
      rintro e w3 ⟨rfl, hB3⟩
      have P3 := Lib.hid (P2.out.below hB3)
      have G3 := Lib.hid (G2.out.rfr hlt (RFr.below (rb := rb) hB3))
      have F3 := Lib.hid (F2.out.trans (RFr.below (rb := rb) hB3))
      have d0' := (hB3.cell (p := ⟨ab, 0, none⟩) hal).trans d0
      clear hB3 HI
      by_cases hk : t.kind = 23 ∨ t.kind = 36
      · rw [if_pos hk] at h3
        have H3 := Lib.hid h3
        clear h3
        have HT := take_yes w3 rb us d s_eq P3.out.rd HE.out
        unfold s_eq at HT
        have HT := Lib.hid HT
        have hak2 : ak = 23 ∨ ak = 36 := by rw [HAK.out, HKA.out]; exact hk
        clear hk
        rcases hak2 with rfl | rfl
        all_goals
          go_wp2_with fail
          refine HT.out.mono ?_
          rintro e w5 ⟨rfl, hR5, hF5⟩
          have P5 := P3.out.tail hR5 hF5
          have G5 := Lib.hid (G3.out.rfr hlt hF5)
          have F5 := Lib.hid (F3.out.trans hF5)
          rcases bindT_some H3.out with ⟨⟨c, p⟩, hv, rfl⟩ | ⟨y, vs, hv, h4⟩
          · have HV := Lib.hid (hV w5 rb B d _ _ P5 hv)
            clear hv hR5 hF5
            go_wp2_with fail
            refine HV.out.mono ?_
            rintro e w6 ⟨⟨b, rfl, h1, h2⟩, hF⟩
            exact ⟨rfl, PPost.pre F5.out (r := .error (c, p)) ⟨⟨b, rfl, h1, h2⟩, hF⟩⟩
          · obtain rfl := Option.some.inj h4
            have HV := Lib.hid (hV w5 rb B d _ _ P5 hv)
            clear hv hR5 hF5 h4
            go_wp2_with fail
            refine HV.out.mono ?_
            rintro e w6 ⟨c, rfl, hC, hR6, hF6⟩
            have G6 := G5.out.rfr hlt hF6
            have FIN := Lib.hid (Got.two (k := 24) (t := ⟨#[]⟩) HP.out.le (F5.out.trans hF6) G6 (wA := w5) (fun x hx => (G5.out.new x hx).2) F5.out.size hC)
            have hb1 : Below w6.heap.size w6 (w6.alloc (.cells #[.pointer (some ⟨ab, 0, none⟩), .pointer (some ⟨c.b, 0, none⟩)] 22)) := (Below.refl _ _).alloc (Nat.le_refl _) _
            have hb2 : Below w6.heap.size w6 ((w6.alloc (.cells #[.pointer (some ⟨ab, 0, none⟩), .pointer (some ⟨c.b, 0, none⟩)] 22)).alloc (.cells #[.int .i64 24, .string ⟨#[]⟩, .int .i64 0, .slice (some ⟨w6.heap.size, 0, none⟩) 2 2] 37)) := hb1.alloc (by simp) _
            have R6 := Lib.hid (hR6.below hb2)
            have F6 := Lib.hid ((F5.out.trans hF6).trans (RFr.below (rb := rb) hb2))
            clear hC hR6 hF6 G6 HV hb1 hb2
            go_wp2_with fail
            refine (node_any _ rb 24 ⟨#[]⟩ _ 2 2).mono ?_
            rintro e w7 ⟨rfl, rfl⟩
            go_wp2
            go_ret
            refine ⟨.mk (w6.heap.size + 1) (.slice (some ⟨w6.heap.size, 0, none⟩) 2 2) 24 ⟨#[]⟩ 0 [a, c], rfl, ?_, R6.out, F6.out⟩
            rw [HAB.out]
            exact FIN.out
      · rw [if_neg hk] at h3
        obtain rfl := Option.some.inj h3
        have n23 : (ak != 23) = true := by rw [HAK.out, HKA.out]; simp; omega
        have n36 : (ak != 36) = true := by rw [HAK.out, HKA.out]; simp; omega
        clear h3 hk
        go_wp2
        refine ⟨rfl, ?_⟩
        rw [← HPL.out]
        exact PPost.err F3.out (thrown_new (Nat.le_refl _)) ((Below.refl _ _).alloc (Nat.le_refl _) _)
    · have he' : isT s_eq us = false := by simpa using he
      have h3 := H2.out
      rw [if_neg he] at h3
      obtain rfl := Option.some.inj h3
      have HI := is_any w2 rb us d s_eq P2.out.rd
      rw [he'] at HI
      unfold s_eq at HI
      have HI := Lib.hid HI
      clear h3 he he'
      go_wp2_with fail
      refine HI.out.mono ?_
      rintro e w3 ⟨rfl, hB3⟩
      have R3 := Lib.hid (P2.out.rd.below hB3)
      have G3 := Lib.hid (G2.out.rfr hlt (RFr.below (rb := rb) hB3))
      have F3 := Lib.hid (F2.out.trans (RFr.below (rb := rb) hB3))
      clear hB3
      go_wp2
      go_ret
      rw [HAB.out]
      exact ⟨a, rfl, G3.out, R3.out, F3.out⟩
end Go.Proofs.YtgifgiipojedbaaGreatDoor

namespace Go.Proofs.YtgifgiipojedbaaGreatDoor
open Go Go.RowKit
set_option maxRecDepth 100000
set_option linter.unusedVariables false

set_option maxHeartbeats 4000000 in
theorem end_any (w0 w : World) (rb B d : Nat) (ts : List Tok) (a : ATree) (t : Tree) (r : Except (Int × Nat) (Tree × List Tok)) (hP : Pre w rb B d ts) (hG : Got w0 B w a t) (hF : RFr w0 w rb) (hr : endT t ts = some r) :
    Calls Tryz.prog 154 #[.pointer (some ⟨rb, 0, none⟩), .pointer (some ⟨a.b, 0, none⟩)] w (PPost w0 rb B d r) := by
  have HP := Lib.hid hP
  have HG := Lib.hid hG
  have HF := Lib.hid hF
  rcases wantT_some hr with ⟨hs, h1⟩ | ⟨hs, rfl⟩
  · obtain rfl := Option.some.inj h1
    have HC := Lib.hid (want_yes w rb ts d s_semi hP.rd hs)
    clear hP hG hF hr hs h1
    go_enter Tryz.func154, Tryz.ntmps154
    go_wp2_with fail
    refine HC.out.mono ?_
    rintro e w3 ⟨rfl, hR3, hF3⟩
    have R3 := Lib.hid hR3
    have F3 := Lib.hid hF3
    clear hR3 hF3 HC
    go_wp2
    go_ret
    exact ⟨a, rfl, HG.out.rfr HP.out.lt F3.out, R3.out, HF.out.trans F3.out⟩
  · have HC := Lib.hid (want_no w rb ts d s_semi hP.rd hs)
    clear hP hG hF hr hs
    go_enter Tryz.func154, Tryz.ntmps154
    go_wp2_with fail
    refine HC.out.mono ?_
    rintro e w3 ⟨⟨b, rfl, h1, h2⟩, hB⟩
    exact ⟨rfl, PPost.err HF.out ⟨b, rfl, h1, h2⟩ hB⟩
end Go.Proofs.YtgifgiipojedbaaGreatDoor
