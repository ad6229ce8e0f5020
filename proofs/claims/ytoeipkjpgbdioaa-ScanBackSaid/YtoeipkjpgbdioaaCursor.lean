/- Cursors: scan.check, the law's ref, the reference's Check and Same. -/
import Derived.Test.YtoeipkjpgbdioaaMore
set_option linter.unusedVariables false
set_option linter.unusedSimpArgs false
namespace Go.Proofs.Ytoeipkjpgbdioaa
open Go.RowKit Go.Shelf Go.Proofs.YtoeipkjpgbdioaaW.PrintWords

/-- A cursor by value. -/
abbrev vCur (A : Option Addr) (c : Nat) (x : Cursor) : Value := .agg #[.slice A x.on.length c, .int .i64 x.after, .int .i64 x.limit]

set_option maxHeartbeats 2000000 in
theorem law22_ref (A : Option Addr) (c : Nat) (x : Cursor) (w : World) (hs : Sl kSpan w A c x.on) (hbig : x.on.length ≤ 1000000) :
    Calls Try.prog 29 #[vCur A c x] w fun e w' => ∃ B d, e = .returned (vCur B d x) ∧ Own kSpan 178 w' w.heap.size (.slice B x.on.length d) x.on ∧ Below w.heap.size w w' := by
  have HS := Aside0.mk hs
  clear hs
  go_enter Try.func29, Try.ntmps29
  go_wp2
  have hX := below_alloc (below_alloc (Below.refl w.heap.size w) (.cells #[.slice A x.on.length c, .int .i64 x.after, .int .i64 x.limit] 50)) (.cells #[.slice none 0 0, .int .i64 0, .int .i64 0] 57)
  have HX := Aside0.mk hX
  have b0 := Aside0.mk (box_under (box_top w (.cells #[.slice A x.on.length c, .int .i64 x.after, .int .i64 x.limit] 50)) (.cells #[.slice none 0 0, .int .i64 0, .int .i64 0] 57))
  have b1 := Aside0.mk (box_top1 w (.cells #[.slice A x.on.length c, .int .i64 x.after, .int .i64 x.limit] 50) (.cells #[.slice none 0 0, .int .i64 0, .int .i64 0] 57))
  clear hX
  go_region_held3 (fun w' => w'.cell? ⟨w.heap.size, 0, none⟩ = some (.slice A x.on.length c) ∧ w'.cell? ⟨w.heap.size, 1, none⟩ = some (.int .i64 x.after) ∧ w'.cell? ⟨w.heap.size, 2, none⟩ = some (.int .i64 x.limit)) (go_keep)
    (first | (go_at_call 34; refine (calls_own (law03_Refs A c x.on _ (HS.out.below (below_drew HX.out)) hbig)).mono ?_; rintro e w1 ⟨B, d, rfl, ho, hs1, hb⟩; obtain ⟨x0, x1, x2⟩ := box_later hb b0.out; obtain ⟨y0, y1, y2⟩ := box_later hb b1.out; have HO := Aside0.mk ho; have HB := Aside0.mk (via (below_drew HX.out) hb); clear ho hs1 hb))
  go_wp2
  refine bodyPost_ret (v := vCur B d x) (by simp [results, Try.results29, go_sem, y0]) rfl ⟨B, d, rfl, ?_, ?_⟩
  · exact (((HO.out.set (by simp) _).set (by simp) _).set (by simp) _).lower (by simp; omega)
  · exact below_set (below_set (below_set HB.out (by simp)) (by simp)) (by simp)

def okCur (x : Cursor) : Bool := isSet x.on && decide (-1 ≤ x.after ∧ x.after < 4096 ∧ 1 ≤ x.limit ∧ x.limit ≤ 500)

set_option maxHeartbeats 2000000 in
theorem scan_check (A : Option Addr) (c : Nat) (x : Cursor) (w : World) (hs : Sl kSpan w A c x.on) :
    Calls Try.prog 89 #[vCur A c x] w fun e w' => e = .returned (.bool (okCur x)) ∧ Below w.heap.size w w' := by
  have HX := Aside0.mk (below_alloc (Below.refl w.heap.size w) (.cells #[.slice A x.on.length c, .int .i64 x.after, .int .i64 x.limit] 50))
  have b0 := Aside0.mk (box_top w (.cells #[.slice A x.on.length c, .int .i64 x.after, .int .i64 x.limit] 50))
  have HC := Aside0.mk (span_Check A c x.on _ (hs.below HX.out))
  clear hs
  cases e1 : isSet x.on with
  | false =>
    have E := Aside0.mk (show okCur x = false by simp [okCur, e1])
    rw [e1] at HC
    clear e1
    go_enter Try.func89, Try.ntmps89
    go_wp2_with (go_at_call 101; refine HC.out.mono ?_; rintro e w1 ⟨rfl, hb⟩; have HB := Aside0.mk (via HX.out hb); clear hb)
    go_ret
    exact ⟨by rw [E.out]; rfl, HB.out⟩
  | true =>
    rw [e1] at HC
    rcases Decidable.em (¬ (-1 ≤ x.after)) with hd0 | hd0
    · have d0 : decide (-1 ≤ x.after) = false := decide_eq_false hd0
      have E := Aside0.mk (show okCur x = false by simp [okCur]; omega)
      clear e1
      go_enter Try.func89, Try.ntmps89
      go_wp2_with (go_at_call 101; refine HC.out.mono ?_; rintro e w1 ⟨rfl, hb⟩; obtain ⟨x0, x1, x2⟩ := box_later hb b0.out; have HB := Aside0.mk (via HX.out hb); clear hb)
      go_ret
      exact ⟨by rw [E.out]; rfl, HB.out⟩
    · replace hd0 := Decidable.not_not.1 hd0
      have d0 : decide (-1 ≤ x.after) = true := decide_eq_true hd0
      rcases Decidable.em (¬ (x.after < 4096)) with hd1 | hd1
      · have d1 : decide (x.after < 4096) = false := decide_eq_false hd1
        have E := Aside0.mk (show okCur x = false by simp [okCur]; omega)
        clear e1
        go_enter Try.func89, Try.ntmps89
        go_wp2_with (go_at_call 101; refine HC.out.mono ?_; rintro e w1 ⟨rfl, hb⟩; obtain ⟨x0, x1, x2⟩ := box_later hb b0.out; have HB := Aside0.mk (via HX.out hb); clear hb)
        go_ret
        exact ⟨by rw [E.out]; rfl, HB.out⟩
      · replace hd1 := Decidable.not_not.1 hd1
        have d1 : decide (x.after < 4096) = true := decide_eq_true hd1
        rcases Decidable.em (¬ (1 ≤ x.limit)) with hd2 | hd2
        · have d2 : decide (1 ≤ x.limit) = false := decide_eq_false hd2
          have E := Aside0.mk (show okCur x = false by simp [okCur]; omega)
          clear e1
          go_enter Try.func89, Try.ntmps89
          go_wp2_with (go_at_call 101; refine HC.out.mono ?_; rintro e w1 ⟨rfl, hb⟩; obtain ⟨x0, x1, x2⟩ := box_later hb b0.out; have HB := Aside0.mk (via HX.out hb); clear hb)
          go_ret
          exact ⟨by rw [E.out]; rfl, HB.out⟩
        · replace hd2 := Decidable.not_not.1 hd2
          have d2 : decide (1 ≤ x.limit) = true := decide_eq_true hd2
          rcases Decidable.em (¬ (x.limit ≤ 500)) with hd3 | hd3
          · have d3 : decide (x.limit ≤ 500) = false := decide_eq_false hd3
            have E := Aside0.mk (show okCur x = false by simp [okCur]; omega)
            clear e1
            go_enter Try.func89, Try.ntmps89
            go_wp2_with (go_at_call 101; refine HC.out.mono ?_; rintro e w1 ⟨rfl, hb⟩; obtain ⟨x0, x1, x2⟩ := box_later hb b0.out; have HB := Aside0.mk (via HX.out hb); clear hb)
            go_ret
            exact ⟨by rw [E.out]; rfl, HB.out⟩
          · replace hd3 := Decidable.not_not.1 hd3
            have d3 : decide (x.limit ≤ 500) = true := decide_eq_true hd3
            have E := Aside0.mk (show okCur x = true by simp [okCur, e1]; omega)
            clear e1
            go_enter Try.func89, Try.ntmps89
            go_wp2_with (go_at_call 101; refine HC.out.mono ?_; rintro e w1 ⟨rfl, hb⟩; obtain ⟨x0, x1, x2⟩ := box_later hb b0.out; have HB := Aside0.mk (via HX.out hb); clear hb)
            go_ret
            exact ⟨by rw [E.out]; rfl, HB.out⟩

set_option maxHeartbeats 2000000 in
theorem ref22_Check (A : Option Addr) (c : Nat) (x : Cursor) (w : World) (hs : Sl kSpan w A c x.on) :
    Calls Try.prog 95 #[vCur A c x] w fun e w' => e = .returned (.bool (okCur x)) ∧ Below w.heap.size w w' := by
  have HX := Aside0.mk (below_alloc (Below.refl w.heap.size w) (.cells #[.slice A x.on.length c, .int .i64 x.after, .int .i64 x.limit] 57))
  have b0 := Aside0.mk (box_top w (.cells #[.slice A x.on.length c, .int .i64 x.after, .int .i64 x.limit] 57))
  have HC := Aside0.mk (ref03_Check A c x.on _ (hs.below HX.out))
  clear hs
  cases e1 : isSet x.on with
  | false =>
    have E := Aside0.mk (show okCur x = false by simp [okCur, e1])
    rw [e1] at HC
    clear e1
    go_enter Try.func95, Try.ntmps95
    go_wp2_with (go_at_call 48; refine HC.out.mono ?_; rintro e w1 ⟨rfl, hb⟩; have HB := Aside0.mk (via HX.out hb); clear hb)
    go_ret
    exact ⟨by rw [E.out]; rfl, HB.out⟩
  | true =>
    rw [e1] at HC
    rcases Decidable.em (¬ (-1 ≤ x.after)) with hd0 | hd0
    · have d0 : decide (-1 ≤ x.after) = false := decide_eq_false hd0
      have E := Aside0.mk (show okCur x = false by simp [okCur]; omega)
      clear e1
      go_enter Try.func95, Try.ntmps95
      go_wp2_with (go_at_call 48; refine HC.out.mono ?_; rintro e w1 ⟨rfl, hb⟩; obtain ⟨x0, x1, x2⟩ := box_later hb b0.out; have HB := Aside0.mk (via HX.out hb); clear hb)
      go_ret
      exact ⟨by rw [E.out]; rfl, HB.out⟩
    · replace hd0 := Decidable.not_not.1 hd0
      have d0 : decide (-1 ≤ x.after) = true := decide_eq_true hd0
      rcases Decidable.em (¬ (x.after < 4096)) with hd1 | hd1
      · have d1 : decide (x.after < 4096) = false := decide_eq_false hd1
        have E := Aside0.mk (show okCur x = false by simp [okCur]; omega)
        clear e1
        go_enter Try.func95, Try.ntmps95
        go_wp2_with (go_at_call 48; refine HC.out.mono ?_; rintro e w1 ⟨rfl, hb⟩; obtain ⟨x0, x1, x2⟩ := box_later hb b0.out; have HB := Aside0.mk (via HX.out hb); clear hb)
        go_ret
        exact ⟨by rw [E.out]; rfl, HB.out⟩
      · replace hd1 := Decidable.not_not.1 hd1
        have d1 : decide (x.after < 4096) = true := decide_eq_true hd1
        rcases Decidable.em (¬ (1 ≤ x.limit)) with hd2 | hd2
        · have d2 : decide (1 ≤ x.limit) = false := decide_eq_false hd2
          have E := Aside0.mk (show okCur x = false by simp [okCur]; omega)
          clear e1
          go_enter Try.func95, Try.ntmps95
          go_wp2_with (go_at_call 48; refine HC.out.mono ?_; rintro e w1 ⟨rfl, hb⟩; obtain ⟨x0, x1, x2⟩ := box_later hb b0.out; have HB := Aside0.mk (via HX.out hb); clear hb)
          go_ret
          exact ⟨by rw [E.out]; rfl, HB.out⟩
        · replace hd2 := Decidable.not_not.1 hd2
          have d2 : decide (1 ≤ x.limit) = true := decide_eq_true hd2
          rcases Decidable.em (¬ (x.limit ≤ 500)) with hd3 | hd3
          · have d3 : decide (x.limit ≤ 500) = false := decide_eq_false hd3
            have E := Aside0.mk (show okCur x = false by simp [okCur]; omega)
            clear e1
            go_enter Try.func95, Try.ntmps95
            go_wp2_with (go_at_call 48; refine HC.out.mono ?_; rintro e w1 ⟨rfl, hb⟩; obtain ⟨x0, x1, x2⟩ := box_later hb b0.out; have HB := Aside0.mk (via HX.out hb); clear hb)
            go_ret
            exact ⟨by rw [E.out]; rfl, HB.out⟩
          · replace hd3 := Decidable.not_not.1 hd3
            have d3 : decide (x.limit ≤ 500) = true := decide_eq_true hd3
            have E := Aside0.mk (show okCur x = true by simp [okCur, e1]; omega)
            clear e1
            go_enter Try.func95, Try.ntmps95
            go_wp2_with (go_at_call 48; refine HC.out.mono ?_; rintro e w1 ⟨rfl, hb⟩; obtain ⟨x0, x1, x2⟩ := box_later hb b0.out; have HB := Aside0.mk (via HX.out hb); clear hb)
            go_ret
            exact ⟨by rw [E.out]; rfl, HB.out⟩

end Go.Proofs.Ytoeipkjpgbdioaa
