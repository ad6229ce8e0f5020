/- cmp.Or; the comparison of scan.Top; the one of scan.Groups. -/
import Derived.Test.YtoeipkjpgbdioaaGroup
set_option linter.unusedVariables false
set_option linter.unusedSimpArgs false
namespace Go.Proofs.Ytoeipkjpgbdioaa
open Go.RowKit Go.Shelf Go.Proofs.YtoeipkjpgbdioaaW.PrintWords Go.Proofs.YtoeipkjpgbdioaaW.PrintLast

def orInt (a b : Int) : Int := if a = 0 then b else a
theorem cmp_Or (a b : Int) (g : Nat) (w : World) (h0 : w.cell? ⟨g, 0, none⟩ = some (.int .i64 a)) (h1 : w.cell? ⟨g, 1, none⟩ = some (.int .i64 b)) :
    Calls Try.prog 100 #[.slice (some ⟨g, 0, none⟩) 2 2] w fun e w' => e = .returned (.int .i64 (orInt a b)) ∧ Below w.heap.size w w' := by
  have HA := Aside0.mk h0
  have HB1 := Aside0.mk h1
  clear h0 h1
  go_enter Try.func100, Try.ntmps100
  go_wp2
  go_loopw [8] (fun i wr => ∃ k : Nat, i = .int .i64 k ∧ Aside0 (k = 0 ∨ (k = 1 ∧ a = 0) ∨ (k = 2 ∧ a = 0 ∧ b = 0)) ∧ Aside0 (Below w.heap.size w wr)) (fun i _ => 3 - (intOf i).toNat)
  case atStart => exact ⟨0, rfl, ⟨.inl rfl⟩, ⟨Below.refl _ _⟩⟩
  case round =>
    obtain ⟨k, rfl, hk, hB⟩ := hrel
    have c0 := pw_cell_below hB.out HA.out
    have c1 := pw_cell_below hB.out HB1.out
    rcases hk.out with rfl | ⟨rfl, ha⟩ | ⟨rfl, ha, hb⟩
    · by_cases e : a = 0
      · have e1 : (a == 0) = true := by simp [e]
        have E := Aside0.mk e
        clear e
        go_wp2
        go_roundw
        case rel => exact ⟨1, by go_num, ⟨.inr (.inl ⟨rfl, E.out⟩)⟩, hB⟩
        case measure => simp [intOf]
      · have e1 : (a == 0) = false := by simp [e]
        have E := Aside0.mk e
        clear e
        go_wp2
        go_ret
        exact ⟨by simp [orInt, E.out], hB.out⟩
    · have HA0 := Aside0.mk ha
      clear ha
      by_cases e : b = 0
      · have e1 : (b == 0) = true := by simp [e]
        have E := Aside0.mk e
        clear e
        go_wp2
        go_roundw
        case rel => exact ⟨2, by go_num, ⟨.inr (.inr ⟨rfl, HA0.out, E.out⟩)⟩, hB⟩
        case measure => simp [intOf]
      · have e1 : (b == 0) = false := by simp [e]
        have E := Aside0.mk e
        clear e
        go_wp2
        go_ret
        exact ⟨by simp [orInt, HA0.out], hB.out⟩
    · have HA0 := Aside0.mk ha
      have HB0 := Aside0.mk hb
      clear ha hb
      go_wp2
      go_ret
      exact ⟨by simp [orInt, HA0.out, HB0.out], hB.out⟩

theorem quo_key {x wd : Int} (h : 0 ≤ x ∧ x < 4096) (h1 : 1 ≤ wd) : IntKind.i64.wrap (x.tdiv wd) = x / wd := by
  have h2 : 0 ≤ x / wd := Int.ediv_nonneg h.1 (by omega)
  have h3 : x / wd ≤ x := Int.ediv_le_self _ h.1
  have h4 : x.tdiv wd = x / wd := Int.tdiv_eq_ediv_of_nonneg h.1
  rw [h4]
  generalize x / wd = y at *
  exact IntWalk.i64_in (by omega) (by omega)
theorem scan_Groups_1 (a b : Pair) (wd : Int) (ad : Addr) (w : World) (hg : w.cell? ad = some (.int .i64 wd)) (h1 : 1 ≤ wd) (ha : 0 ≤ a.key ∧ a.key < 4096) (hb : 0 ≤ b.key ∧ b.key < 4096) :
    Calls Try.prog 103 #[.agg #[.int .i64 a.key, .int .i64 a.val], .agg #[.int .i64 b.key, .int .i64 b.val], .pointer (some ad)] w fun e w' => e = .returned (.bool (a.key / wd == b.key / wd)) ∧ Below w.heap.size w w' := by
  have HX := Aside0.mk (below_alloc (below_alloc (Below.refl w.heap.size w) (.cells #[.int .i64 a.key, .int .i64 a.val] 84)) (.cells #[.int .i64 b.key, .int .i64 b.val] 84))
  have c0 := later2 hg (.cells #[.int .i64 a.key, .int .i64 a.val] 84) (.cells #[.int .i64 b.key, .int .i64 b.val] 84)
  go_enter Try.func103, Try.ntmps103
  go_wp2
  have n0 : (wd == 0) = false := by simp; omega
  have n1 : ¬ wd = 0 := by omega
  have q0 := quo_key ha h1
  have q1 := quo_key hb h1
  go_quiet (fail)
  go_wp2
  go_ret
  exact ⟨rfl, pw_below_drewN HX.out _⟩

end Go.Proofs.Ytoeipkjpgbdioaa
