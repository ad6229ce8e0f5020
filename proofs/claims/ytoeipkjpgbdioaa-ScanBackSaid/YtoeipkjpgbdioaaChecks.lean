/- What the program's checks of tables and sets answer (table.Check, span.One, span.Check), and the references'. -/
import Derived.Test.YtoeipkjpgbdioaaChk
set_option linter.unusedVariables false
set_option linter.unusedSimpArgs false
namespace Go.Proofs.Ytoeipkjpgbdioaa
open Go.RowKit Go.Proofs.YtoeipkjpgbdioaaW.PrintWords

set_option maxHeartbeats 2000000 in
set_option maxRecDepth 100000 in
theorem table_Check (A : Option Addr) (c : Nat) (l : List Pair) (w : World) (hr : Sl kPair w A c l) :
    Calls Try.prog 88 #[.slice A l.length c] w fun e w' => e = .returned (.bool (isTable l)) ∧ Below w.heap.size w w' := by
  have HR := Aside0.mk hr
  have hm := hr.max
  clear hr
  go_enter Try.func88, Try.ntmps88
  go_wp2
  go_loopw [7] (fun i wr => ∃ k : Nat, k ≤ l.length ∧ i = .int .i64 k ∧ Aside0 (upto okPair ltPair l k) ∧ Aside0 (Below w.heap.size w wr)) (fun i _ => l.length - (intOf i).toNat)
  case atStart => exact ⟨0, by omega, rfl, ⟨upto_zero _ _ _⟩, ⟨Below.refl _ _⟩⟩
  case round =>
    obtain ⟨k, hk, rfl, hI, hB⟩ := hrel
    by_cases hlt : k < l.length
    · obtain ⟨ad, rfl, c0, c1⟩ := pair_at (HR.out.below hB.out) k hlt
      by_cases hd0 : l[k].key < 0
      · have d0 : decide (l[k].key < 0) = true := decide_eq_true hd0
        have e : isTable l = false := chk_bad k hlt (by simp only [okPair, decide_eq_false_iff_not]; omega)
        have E := Aside0.mk e
        clear e
        go_wp2
        go_quiet (fail)
        go_wp2
        go_ret
        exact ⟨by rw [E.out]; rfl, (by repeat (first | (with_reducible first | exact hB.out | apply below_alloc | apply pw_below_drewN | apply below_drew) | exact hB.out))⟩
      · have d0 : decide (l[k].key < 0) = false := decide_eq_false hd0
        by_cases hd1 : 4096 ≤ l[k].key
        · have d1 : decide (4096 ≤ l[k].key) = true := decide_eq_true hd1
          have e : isTable l = false := chk_bad k hlt (by simp only [okPair, decide_eq_false_iff_not]; omega)
          have E := Aside0.mk e
          clear e
          go_wp2
          go_quiet (fail)
          go_wp2
          go_ret
          exact ⟨by rw [E.out]; rfl, (by repeat (first | (with_reducible first | exact hB.out | apply below_alloc | apply pw_below_drewN | apply below_drew) | exact hB.out))⟩
        · have d1 : decide (4096 ≤ l[k].key) = false := decide_eq_false hd1
          by_cases hd2 : l[k].val < -1099511627776
          · have d2 : decide (l[k].val < -1099511627776) = true := decide_eq_true hd2
            have e : isTable l = false := chk_bad k hlt (by simp only [okPair, decide_eq_false_iff_not]; omega)
            have E := Aside0.mk e
            clear e
            go_wp2
            go_quiet (fail)
            go_wp2
            go_ret
            exact ⟨by rw [E.out]; rfl, (by repeat (first | (with_reducible first | exact hB.out | apply below_alloc | apply pw_below_drewN | apply below_drew) | exact hB.out))⟩
          · have d2 : decide (l[k].val < -1099511627776) = false := decide_eq_false hd2
            by_cases hd3 : 1099511627776 < l[k].val
            · have d3 : decide (1099511627776 < l[k].val) = true := decide_eq_true hd3
              have e : isTable l = false := chk_bad k hlt (by simp only [okPair, decide_eq_false_iff_not]; omega)
              have E := Aside0.mk e
              clear e
              go_wp2
              go_quiet (fail)
              go_wp2
              go_ret
              exact ⟨by rw [E.out]; rfl, (by repeat (first | (with_reducible first | exact hB.out | apply below_alloc | apply pw_below_drewN | apply below_drew) | exact hB.out))⟩
            · have d3 : decide (1099511627776 < l[k].val) = false := decide_eq_false hd3
              have hok : okPair l[k] = true := by simp only [okPair, decide_eq_true_eq]; omega
              by_cases h0 : k = 0
              · subst h0
                have hn := Aside0.mk (upto_next hI.out hlt hok (fun j hj => by omega))
                clear hok
                rw [show ad.add (0 * 2) = ad from rfl] at c0 c1
                go_wp2
                go_quiet (fail)
                go_wp2
                go_roundw
                case rel => exact ⟨1, by omega, rfl, hn, ⟨(by repeat (first | (with_reducible first | exact hB.out | apply below_alloc | apply pw_below_drewN | apply below_drew) | exact hB.out))⟩⟩
                case measure => simp [intOf]; omega
              · obtain ⟨j, rfl⟩ : ∃ j, k = j + 1 := ⟨k - 1, by omega⟩
                obtain ⟨_, e1, c2, _⟩ := pair_at (HR.out.below hB.out) j (by omega)
                cases e1
                have hj : decide (0 < (j : Int) + 1) = true := decide_eq_true (by omega)
                have c2 := fun o => later c2 o
                have hj1 : IntKind.i64.wrap (j : Int) = (j : Int) := IntWalk.i64_in _ (by omega)
                by_cases h5 : l[j].key < l[j+1].key
                · have d5 : decide (l[j+1].key ≤ l[j].key) = false := decide_eq_false (by omega)
                  have hn := Aside0.mk (upto_next hI.out hlt hok (fun i hi => by obtain rfl : i = j := by omega
                                                                                 simp only [ltPair, decide_eq_true_eq]; exact h5))
                  clear hok
                  go_wp2
                  go_quiet (fail)
                  go_wp2
                  go_roundw
                  case rel => exact ⟨j + 1 + 1, by omega, by go_num, hn, ⟨(by repeat (first | (with_reducible first | exact hB.out | apply below_alloc | apply pw_below_drewN | apply below_drew) | exact hB.out))⟩⟩
                  case measure => simp [intOf]; omega
                · have d5 : decide (l[j+1].key ≤ l[j].key) = true := decide_eq_true (by omega)
                  have e : isTable l = false := chk_far j hlt (by simp only [ltPair, decide_eq_false_iff_not]; exact h5)
                  have E := Aside0.mk e
                  clear e
                  go_wp2
                  go_quiet (fail)
                  go_wp2
                  go_ret
                  exact ⟨by rw [E.out]; rfl, (by repeat (first | (with_reducible first | exact hB.out | apply below_alloc | apply pw_below_drewN | apply below_drew) | exact hB.out))⟩
    · have e : isTable l = true := upto_all hI.out (by omega)
      have E := Aside0.mk e
      clear e
      go_wp2
      go_ret
      exact ⟨by rw [E.out]; rfl, hB.out⟩

set_option maxHeartbeats 2000000 in
theorem span_One (s : Span) (w : World) :
    Calls Try.prog 143 #[.agg #[.int .i64 s.lo, .int .i64 s.hi]] w fun e w' => e = .returned (.bool (oneSpan s)) ∧ Below w.heap.size w w' := by
  by_cases h0 : 0 ≤ s.lo
  · by_cases h1 : s.lo < s.hi
    · by_cases h2 : s.hi ≤ 4096
      · have E := Aside0.mk (show oneSpan s = true by simp only [oneSpan, decide_eq_true_eq]; omega)
        go_enter Try.func143, Try.ntmps143
        go_wp2
        go_ret
        exact ⟨by rw [E.out]; rfl, below_alloc (Below.refl _ _) _⟩
      · have E := Aside0.mk (show oneSpan s = false by simp only [oneSpan, decide_eq_false_iff_not]; omega)
        go_enter Try.func143, Try.ntmps143
        go_wp2
        go_ret
        exact ⟨by rw [E.out]; rfl, below_alloc (Below.refl _ _) _⟩
    · have E := Aside0.mk (show oneSpan s = false by simp only [oneSpan, decide_eq_false_iff_not]; omega)
      go_enter Try.func143, Try.ntmps143
      go_wp2
      go_ret
      exact ⟨by rw [E.out]; rfl, below_alloc (Below.refl _ _) _⟩
  · have E := Aside0.mk (show oneSpan s = false by simp only [oneSpan, decide_eq_false_iff_not]; omega)
    go_enter Try.func143, Try.ntmps143
    go_wp2
    go_ret
    exact ⟨by rw [E.out]; rfl, below_alloc (Below.refl _ _) _⟩

end Go.Proofs.Ytoeipkjpgbdioaa
