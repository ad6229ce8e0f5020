/- What span.Check answers. -/
import Derived.Test.YtoeipkjpgbdioaaChecks
set_option linter.unusedVariables false
set_option linter.unusedSimpArgs false
namespace Go.Proofs.Ytoeipkjpgbdioaa
open Go.RowKit Go.Proofs.YtoeipkjpgbdioaaW.PrintWords

theorem isSet_bad {l : List Span} (h : chk oneSpan ltSpan l = false) : isSet l = false := by simp [isSet, h]
theorem isSet_good {l : List Span} (h : chk oneSpan ltSpan l = true) : isSet l = decide ((l.length : Int) ≤ 64) := by
  simp only [isSet, h, Bool.true_and]
  exact decide_eq_decide.2 (by omega)

set_option maxHeartbeats 2000000 in
set_option maxRecDepth 100000 in
theorem span_Check (A : Option Addr) (c : Nat) (l : List Span) (w : World) (hr : Sl kSpan w A c l) :
    Calls Try.prog 101 #[.slice A l.length c] w fun e w' => e = .returned (.bool (isSet l)) ∧ Below w.heap.size w w' := by
  have HR := Aside0.mk hr
  have hm := hr.max
  clear hr
  go_enter Try.func101, Try.ntmps101
  go_wp2
  go_loopw [7] (fun i wr => ∃ k : Nat, k ≤ l.length ∧ i = .int .i64 k ∧ Aside0 (upto oneSpan ltSpan l k) ∧ Aside0 (Below w.heap.size w wr)) (fun i _ => l.length - (intOf i).toNat)
  case atStart => exact ⟨0, by omega, rfl, ⟨upto_zero _ _ _⟩, ⟨Below.refl _ _⟩⟩
  case round =>
    obtain ⟨k, hk, rfl, hI, hB⟩ := hrel
    by_cases hlt : k < l.length
    · obtain ⟨ad, rfl, c0, c1⟩ := span_at (HR.out.below hB.out) k hlt
      have b0 : ∀ p : BW (wr.alloc (.cells #[.int .i64 l[k].lo, .int .i64 l[k].hi] 162)), p.W.cell? ⟨wr.heap.size, 0, none⟩ = some (.int .i64 l[k].lo) := fun p => bw_cell p (by simp)
      have b1 : ∀ p : BW (wr.alloc (.cells #[.int .i64 l[k].lo, .int .i64 l[k].hi] 162)), p.W.cell? ⟨wr.heap.size, 1, none⟩ = some (.int .i64 l[k].hi) := fun p => bw_cell p (by simp)
      go_wp2
      cases e1 : oneSpan l[k] with
      | false =>
        have hbad := Aside0.mk (isSet_bad (chk_bad k hlt e1))
        have s0 := fun W => span_One l[k] W
        rw [e1] at s0
        have s1 := Aside0.mk s0
        clear e1 s0
        refine wp_region_bw (by kernel_rfl) (by kernel_rfl) ?_
        repeat (go_big_quiet_step ((go_at_call 143; refine bw_calls _ (s1.out _))))
        refine wpQuiet_nil ?_
        intro W1 hw'
        obtain ⟨⟨W1_, hW1⟩, hw''⟩ := hw'
        subst hw''
        go_wp2
        go_ret
        exact ⟨by rw [hbad.out]; rfl, (below_then (by repeat (first | (with_reducible first | exact hB.out | apply below_alloc | apply pw_below_drewN | apply below_drew) | exact hB.out)) (by have := hB.out.size; simp; omega) hW1)⟩
      | true =>
        have s0 := fun W => span_One l[k] W
        rw [e1] at s0
        have s1 := Aside0.mk s0
        clear s0
        by_cases h0 : k = 0
        · subst h0
          have hn := Aside0.mk (upto_next hI.out hlt e1 (fun j hj => by omega))
          clear e1
          refine wp_region_bw (by kernel_rfl) (by kernel_rfl) ?_
          repeat (go_big_quiet_step ((go_at_call 143; refine bw_calls _ (s1.out _))))
          refine wpQuiet_nil ?_
          intro W1 hw'
          obtain ⟨⟨W1_, hW1⟩, hw''⟩ := hw'
          subst hw''
          go_wp2
          go_roundw
          case rel => exact ⟨1, by omega, rfl, hn, ⟨(below_then (by repeat (first | (with_reducible first | exact hB.out | apply below_alloc | apply pw_below_drewN | apply below_drew) | exact hB.out)) (by have := hB.out.size; simp; omega) hW1)⟩⟩
          case measure => simp [intOf]; omega
        · obtain ⟨j, rfl⟩ : ∃ j, k = j + 1 := ⟨k - 1, by omega⟩
          obtain ⟨_, e2, _, c3⟩ := span_at (HR.out.below hB.out) j (by omega)
          cases e2
          have c3 : ∀ p : BW (wr.alloc (.cells #[.int .i64 l[j+1].lo, .int .i64 l[j+1].hi] 162)), p.W.cell? ⟨(ad.add (j * 2)).block, (ad.add (j * 2)).off + 1, none⟩ = some (.int .i64 l[j].hi) := fun p => bw_cell p (later c3 _)
          have hj : decide (0 < (j : Int) + 1) = true := decide_eq_true (by omega)
          have hj1 : IntKind.i64.wrap (j : Int) = (j : Int) := IntWalk.i64_in _ (by omega)
          by_cases h5 : l[j].hi < l[j+1].lo
          · have d5 : decide (l[j+1].lo ≤ l[j].hi) = false := decide_eq_false (by omega)
            have hn := Aside0.mk (upto_next hI.out hlt e1 (fun i hi => by obtain rfl : i = j := by omega
                                                                          simp only [ltSpan, decide_eq_true_eq]; exact h5))
            clear e1
            refine wp_region_bw (by kernel_rfl) (by kernel_rfl) ?_
            repeat (go_big_quiet_step ((go_at_call 143; refine bw_calls _ (s1.out _))))
            refine wpQuiet_nil ?_
            intro W1 hw'
            obtain ⟨⟨W1_, hW1⟩, hw''⟩ := hw'
            subst hw''
            go_wp2
            go_roundw
            case rel => exact ⟨j + 1 + 1, by omega, by go_num, hn, ⟨(below_then (by repeat (first | (with_reducible first | exact hB.out | apply below_alloc | apply pw_below_drewN | apply below_drew) | exact hB.out)) (by have := hB.out.size; simp; omega) hW1)⟩⟩
            case measure => simp [intOf]; omega
          · have d5 : decide (l[j+1].lo ≤ l[j].hi) = true := decide_eq_true (by omega)
            have hbad := Aside0.mk (isSet_bad (chk_far j hlt (by simp only [ltSpan, decide_eq_false_iff_not]; exact h5)))
            clear e1
            refine wp_region_bw (by kernel_rfl) (by kernel_rfl) ?_
            repeat (go_big_quiet_step ((go_at_call 143; refine bw_calls _ (s1.out _))))
            refine wpQuiet_nil ?_
            intro W1 hw'
            obtain ⟨⟨W1_, hW1⟩, hw''⟩ := hw'
            subst hw''
            go_wp2
            go_ret
            exact ⟨by rw [hbad.out]; rfl, (below_then (by repeat (first | (with_reducible first | exact hB.out | apply below_alloc | apply pw_below_drewN | apply below_drew) | exact hB.out)) (by have := hB.out.size; simp; omega) hW1)⟩
    · have E := Aside0.mk (isSet_good (upto_all hI.out (by omega)))
      go_wp2
      go_ret
      exact ⟨by rw [E.out]; rfl, hB.out⟩

end Go.Proofs.Ytoeipkjpgbdioaa
