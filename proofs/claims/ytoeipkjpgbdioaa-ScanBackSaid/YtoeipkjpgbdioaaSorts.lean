/- The comparison of scan.Top, its world told to the letter: what the library's sort asks of it. -/
import Derived.Test.YtoeipkjpgbdioaaTops
import Derived.Sort.Grow
set_option linter.unusedVariables false
set_option linter.unusedSimpArgs false
namespace Go.Proofs.Ytoeipkjpgbdioaa
open Go.RowKit Go.Shelf Go.Sort Go.Proofs.YtoeipkjpgbdioaaW.PrintWords Go.Proofs.YtoeipkjpgbdioaaW.PrintLast

theorem cmp_Compare_q (a b : Int) (w : World) :
    Calls Try.prog 92 #[.int .i64 a, .int .i64 b] w fun e w' => e = .returned (.int .i64 (cmpInt a b)) ∧ w' = w := by
  by_cases h1 : a < b
  · have E := Aside0.mk (show cmpInt a b = -1 by simp [cmpInt, h1])
    go_enter Try.func92, Try.ntmps92
    go_wp2
    go_ret
    exact ⟨by rw [E.out]; rfl, rfl⟩
  · by_cases h2 : b < a
    · have E := Aside0.mk (show cmpInt a b = 1 by simp [cmpInt, h1, h2])
      go_enter Try.func92, Try.ntmps92
      go_wp2
      go_ret
      exact ⟨by rw [E.out]; rfl, rfl⟩
    · have E := Aside0.mk (show cmpInt a b = 0 by simp [cmpInt, h1, h2])
      go_enter Try.func92, Try.ntmps92
      go_wp2
      go_ret
      exact ⟨by rw [E.out]; rfl, rfl⟩

theorem cmp_Or_q (a b : Int) (g : Nat) (w : World) (h0 : w.cell? ⟨g, 0, none⟩ = some (.int .i64 a)) (h1 : w.cell? ⟨g, 1, none⟩ = some (.int .i64 b)) :
    Calls Try.prog 100 #[.slice (some ⟨g, 0, none⟩) 2 2] w fun e w' => e = .returned (.int .i64 (orInt a b)) ∧ w' = w := by
  have HA := Aside0.mk h0
  have HB1 := Aside0.mk h1
  clear h0 h1
  go_enter Try.func100, Try.ntmps100
  go_wp2
  go_loopw [8] (fun i wr => ∃ k : Nat, i = .int .i64 k ∧ Aside0 (k = 0 ∨ (k = 1 ∧ a = 0) ∨ (k = 2 ∧ a = 0 ∧ b = 0)) ∧ Aside0 (wr = w)) (fun i _ => 3 - (intOf i).toNat)
  case atStart => exact ⟨0, rfl, ⟨.inl rfl⟩, ⟨rfl⟩⟩
  case round =>
    obtain ⟨k, rfl, hk, hB⟩ := hrel
    have c0 : wr.cell? ⟨g, 0, none⟩ = some (.int .i64 a) := by rw [hB.out]; exact HA.out
    have c1 : wr.cell? ⟨g, 1, none⟩ = some (.int .i64 b) := by rw [hB.out]; exact HB1.out
    rcases hk.out with rfl | ⟨rfl, ha⟩ | ⟨rfl, ha, hb⟩
    · by_cases e : a = 0
      · have e1 : (a == 0) = true := by simp [e]
        have E := Aside0.mk e
        clear e
        go_wp2
        go_roundw
        case rel => exact ⟨1, by go_num, ⟨.inr (.inl ⟨rfl, E.out⟩)⟩, hB⟩
        case measure => simp [intOf]
      · have e1 : (a == 0) = false := by simp [e]
        have E := Aside0.mk e
        clear e
        go_wp2
        go_ret
        exact ⟨by simp [orInt, E.out], hB.out⟩
    · have HA0 := Aside0.mk ha
      clear ha
      by_cases e : b = 0
      · have e1 : (b == 0) = true := by simp [e]
        have E := Aside0.mk e
        clear e
        go_wp2
        go_roundw
        case rel => exact ⟨2, by go_num, ⟨.inr (.inr ⟨rfl, HA0.out, E.out⟩)⟩, hB⟩
        case measure => simp [intOf]
      · have e1 : (b == 0) = false := by simp [e]
        have E := Aside0.mk e
        clear e
        go_wp2
        go_ret
        exact ⟨by simp [orInt, HA0.out], hB.out⟩
    · have HA0 := Aside0.mk ha
      have HB0 := Aside0.mk hb
      clear ha hb
      go_wp2
      go_ret
      exact ⟨by simp [orInt, HA0.out, HB0.out], hB.out⟩

def cmpTop (a b : Pair) : Int := orInt (cmpInt b.val a.val) (cmpInt a.key b.key)

set_option maxHeartbeats 2000000 in
set_option maxRecDepth 100000 in
theorem scan_Top_1 (a b : Pair) (w : World) :
    Calls Try.prog 99 #[.agg #[.int .i64 a.key, .int .i64 a.val], .agg #[.int .i64 b.key, .int .i64 b.val]] w fun e w' => e = .returned (.int .i64 (cmpTop a b)) ∧ ∃ q os, w' = grow (w.drewN q) os := by
  have C1 := Aside0.mk (fun W => cmp_Compare_q b.val a.val W)
  have C2 := Aside0.mk (fun W => cmp_Compare_q a.key b.key W)
  have C3 := Aside0.mk (fun g W h0 h1 => cmp_Or_q (cmpInt b.val a.val) (cmpInt a.key b.key) g W h0 h1)
  have b0 := Aside0.mk (box_under (box_top w (.cells #[.int .i64 a.key, .int .i64 a.val] 84)) (.cells #[.int .i64 b.key, .int .i64 b.val] 84))
  have b1 := Aside0.mk (box_top1 w (.cells #[.int .i64 a.key, .int .i64 a.val] 84) (.cells #[.int .i64 b.key, .int .i64 b.val] 84))
  go_enter Try.func99, Try.ntmps99
  go_wp2
  obtain ⟨x0, x1, x2⟩ := box_later (Below.refl _ _) b0.out
  obtain ⟨y0, y1, y2⟩ := box_later (Below.refl _ _) b1.out
  have k0 := x0 0
  have k1 := x0 1
  have k2 := y0 0
  have k3 := y0 1
  clear x0 x1 x2 y0 y1 y2 b0 b1
  generalize hW : (w.alloc (.cells #[.int .i64 a.key, .int .i64 a.val] 84)).alloc (.cells #[.int .i64 b.key, .int .i64 b.val] 84) = W at *
  refine start_ (n := 13) (S := fun w' => w'.cell? ⟨w.heap.size, 0, none⟩ = some (.int .i64 a.key) ∧ w'.cell? ⟨w.heap.size, 1, none⟩ = some (.int .i64 a.val) ∧ w'.cell? ⟨w.heap.size + 1, 0, none⟩ = some (.int .i64 b.key) ∧ w'.cell? ⟨w.heap.size + 1, 1, none⟩ = some (.int .i64 b.val) ∧ w'.heap.size = w'.heap.size) (ds := []) #[false, false, false, false, false, false, false, false, false, false, false, false, false] (by kernel_rfl) rfl rfl ⟨k0, k1, k2, k3, rfl⟩ (fun hHeld => ?_)
  refine pure_ (i := 0) (N := some 5) (v := ?_) (a' := ?_) #[true, false, false, false, false, false, false, false, false, false, false, false, false] rfl rfl (by kernel_rfl) (fun _ _ _ h => h) (Or.inl ⟨by rfl, ?_⟩) ?_ ?_
  rotate_left
  · intro w'
    go_simp
    with_reducible rfl
  rotate_left
  · simp only [Act.put, List.setIfInBounds_toArray, List.set_cons_zero, List.set_cons_succ, i64_w, i32_w]
    rfl
  refine pure_ (i := 2) (N := some 7) (v := ?_) (a' := ?_) #[true, false, true, false, false, false, false, false, false, false, false, false, false] rfl rfl (by kernel_rfl) (fun _ _ _ h => h) (Or.inl ⟨by rfl, ?_⟩) ?_ ?_
  rotate_left
  · intro w'
    go_simp
    with_reducible rfl
  rotate_left
  · simp only [Act.put, List.setIfInBounds_toArray, List.set_cons_zero, List.set_cons_succ, i64_w, i32_w]
    rfl
  refine pure_ (i := 5) (N := some 10) (v := ?_) (a' := ?_) #[true, false, true, false, false, true, false, false, false, false, false, false, false] rfl rfl (by kernel_rfl) (fun _ _ _ h => h) (Or.inl ⟨by rfl, ?_⟩) ?_ ?_
  rotate_left
  · intro w'
    go_simp
    with_reducible rfl
  rotate_left
  · simp only [Act.put, List.setIfInBounds_toArray, List.set_cons_zero, List.set_cons_succ, i64_w, i32_w]
    rfl
  refine pure_ (i := 7) (N := some 12) (v := ?_) (a' := ?_) #[true, false, true, false, false, true, false, true, false, false, false, false, false] rfl rfl (by kernel_rfl) (fun _ _ _ h => h) (Or.inl ⟨by rfl, ?_⟩) ?_ ?_
  rotate_left
  · intro w'
    go_simp
    with_reducible rfl
  rotate_left
  · simp only [Act.put, List.setIfInBounds_toArray, List.set_cons_zero, List.set_cons_succ, i64_w, i32_w]
    rfl
  refine take_ (i := 1) (N := some 6) (v := ?_) (a' := ?_) #[true, true, true, false, false, true, false, true, false, false, false, false, false] rfl rfl (by kernel_rfl) (fun _ _ _ h => h) (Or.inl ⟨by rfl, ?_⟩) hHeld ?_ ?_
  rotate_left
  · rintro w' ⟨s0, s1, s2, s3, s4⟩
    go_simp
    with_reducible rfl
  rotate_left
  · simp only [Act.put, List.setIfInBounds_toArray, List.set_cons_zero, List.set_cons_succ, i64_w, i32_w]
    rfl
  refine take_ (i := 3) (N := some 8) (v := ?_) (a' := ?_) #[true, true, true, true, false, true, false, true, false, false, false, false, false] rfl rfl (by kernel_rfl) (fun _ _ _ h => h) (Or.inl ⟨by rfl, ?_⟩) hHeld ?_ ?_
  rotate_left
  · rintro w' ⟨s0, s1, s2, s3, s4⟩
    go_simp
    with_reducible rfl
  rotate_left
  · simp only [Act.put, List.setIfInBounds_toArray, List.set_cons_zero, List.set_cons_succ, i64_w, i32_w]
    rfl
  refine take_ (i := 6) (N := some 11) (v := ?_) (a' := ?_) #[true, true, true, true, false, true, true, true, false, false, false, false, false] rfl rfl (by kernel_rfl) (fun _ _ _ h => h) (Or.inl ⟨by rfl, ?_⟩) hHeld ?_ ?_
  rotate_left
  · rintro w' ⟨s0, s1, s2, s3, s4⟩
    go_simp
    with_reducible rfl
  rotate_left
  · simp only [Act.put, List.setIfInBounds_toArray, List.set_cons_zero, List.set_cons_succ, i64_w, i32_w]
    rfl
  refine take_ (i := 8) (N := some 13) (v := ?_) (a' := ?_) #[true, true, true, true, false, true, true, true, true, false, false, false, false] rfl rfl (by kernel_rfl) (fun _ _ _ h => h) (Or.inl ⟨by rfl, ?_⟩) hHeld ?_ ?_
  rotate_left
  · rintro w' ⟨s0, s1, s2, s3, s4⟩
    go_simp
    with_reducible rfl
  rotate_left
  · simp only [Act.put, List.setIfInBounds_toArray, List.set_cons_zero, List.set_cons_succ, i64_w, i32_w]
    rfl
  refine one_ (i := 4) (N := some 9) #[true, true, true, true, true, true, true, true, true, false, false, false, false] rfl rfl (by kernel_rfl) (by decide) (fun K hK => ?_)
  refine goes_ Try.func92 (by kernel_rfl) rfl #[.int .i64 b.val, .int .i64 a.val] (by rfl) rfl rfl (by simp only [List.map_toArray, List.map_cons, List.map_nil]; rfl) ?_
  with_reducible refine (C1.out _).mono ?_
  rintro e w3 ⟨rfl, rfl⟩
  refine ⟨_, rfl, ?_⟩
  refine hK.out _ _ ⟨hHeld.1, hHeld.2.1, hHeld.2.2.1, hHeld.2.2.2.1, rfl⟩ (fun hHeld => ?_)
  clear hK K
  refine norm_ (a' := ?_) ?_ ?_
  rotate_left
  · show Act.put _ (some 9) _ = _
    simp only [Act.put, List.setIfInBounds_toArray, List.set_cons_zero, List.set_cons_succ, i64_w, i32_w]
    rfl
  refine one_ (i := 9) (N := some 14) #[true, true, true, true, true, true, true, true, true, true, false, false, false] rfl rfl (by kernel_rfl) (by decide) (fun K hK => ?_)
  refine goes_ Try.func92 (by kernel_rfl) rfl #[.int .i64 a.key, .int .i64 b.key] (by rfl) rfl rfl (by simp only [List.map_toArray, List.map_cons, List.map_nil]; rfl) ?_
  with_reducible refine (C2.out _).mono ?_
  rintro e w4 ⟨rfl, rfl⟩
  refine ⟨_, rfl, ?_⟩
  refine hK.out _ _ ⟨hHeld.1, hHeld.2.1, hHeld.2.2.1, hHeld.2.2.2.1, rfl⟩ (fun hHeld => ?_)
  clear hK K
  refine norm_ (a' := ?_) ?_ ?_
  rotate_left
  · show Act.put _ (some 14) _ = _
    simp only [Act.put, List.setIfInBounds_toArray, List.set_cons_zero, List.set_cons_succ, i64_w, i32_w]
    rfl
  refine one_ (i := 10) (N := some 15) #[true, true, true, true, true, true, true, true, true, true, true, false, false] rfl rfl (by kernel_rfl) (by decide) (fun K hK => ?_)
  refine value_ (w1 := ?_) (v := ?_) (by rfl) rfl ?_ ?_
  rotate_left 2
  · go_simp
    constructor
    · rfl
    · rfl
  refine hK.out _ _ ⟨later hHeld.1 _, later hHeld.2.1 _, later hHeld.2.2.1 _, later hHeld.2.2.2.1 _, rfl⟩ (fun hHeld => ?_)
  clear hK K
  refine norm_ (a' := ?_) ?_ ?_
  rotate_left
  · show Act.put _ (some 15) _ = _
    simp only [Act.put, List.setIfInBounds_toArray, List.set_cons_zero, List.set_cons_succ, i64_w, i32_w]
    rfl
  refine one_ (i := 11) (N := some 16) #[true, true, true, true, true, true, true, true, true, true, true, true, false] rfl rfl (by kernel_rfl) (by decide) (fun K hK => ?_)
  refine goes_ Try.func100 (by kernel_rfl) rfl #[.slice (some ⟨W.heap.size, 0, none⟩) 2 2] (by rfl) rfl rfl (by simp only [List.map_toArray, List.map_cons, List.map_nil]; rfl) ?_
  with_reducible refine (C3.out _ _ (by simp) (by simp)).mono ?_
  rintro e w5 ⟨rfl, rfl⟩
  refine ⟨_, rfl, ?_⟩
  refine hK.out _ _ ⟨hHeld.1, hHeld.2.1, hHeld.2.2.1, hHeld.2.2.2.1, rfl⟩ (fun hHeld => ?_)
  clear hK K
  refine norm_ (a' := ?_) ?_ ?_
  rotate_left
  · show Act.put _ (some 16) _ = _
    simp only [Act.put, List.setIfInBounds_toArray, List.set_cons_zero, List.set_cons_succ, i64_w, i32_w]
    rfl
  refine pure_ (i := 12) (N := some 4) (v := ?_) (a' := ?_) #[true, true, true, true, true, true, true, true, true, true, true, true, true] rfl rfl (by kernel_rfl) (fun _ _ _ h => h) (Or.inl ⟨by rfl, ?_⟩) ?_ ?_
  rotate_left
  · intro w'
    go_simp
    with_reducible rfl
  rotate_left
  · simp only [Act.put, List.setIfInBounds_toArray, List.set_cons_zero, List.set_cons_succ, i64_w, i32_w]
    rfl
  refine done_ (by kernel_rfl) ?_

  go_wp2
  go_ret
  refine ⟨rfl, 1, #[.cells #[.int .i64 a.key, .int .i64 a.val] 84] ++ #[.cells #[.int .i64 b.key, .int .i64 b.val] 84] ++ #[.cells #[.int .i64 (cmpInt b.val a.val), .int .i64 (cmpInt a.key b.key)] 3], ?_⟩
  rw [← hW, alloc_eq_grow, alloc_eq_grow, alloc_eq_grow, grow_grow, grow_grow]
  rfl
end Go.Proofs.Ytoeipkjpgbdioaa
