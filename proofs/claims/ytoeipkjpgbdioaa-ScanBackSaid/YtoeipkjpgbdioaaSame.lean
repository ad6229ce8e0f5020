/- The references' comparisons of lists. -/
import Derived.Test.YtoeipkjpgbdioaaHas
set_option linter.unusedVariables false
set_option linter.unusedSimpArgs false
namespace Go.Proofs.Ytoeipkjpgbdioaa
open Go.RowKit Go.Shelf Go.Proofs.YtoeipkjpgbdioaaW.PrintWords

set_option maxHeartbeats 2000000 in
theorem ref03_Same (A B : Option Addr) (c d : Nat) (l m : List Span) (w : World) (hr : Sl kSpan w A c l) (hs : Sl kSpan w B d m) :
    Calls Try.prog 97 #[.slice A l.length c, .slice B m.length d] w fun e w' => e = .returned (.bool (decide (l = m))) ∧ Below w.heap.size w w' := by
  have HR := Aside0.mk hr
  have HS := Aside0.mk hs
  have hm := hr.max
  have hm2 := hs.max
  have hu := Try.underlying178
  clear hr hs
  by_cases hl : l.length = m.length
  · have hl1 : ((l.length : Int) != (m.length : Int)) = false := by simp; omega
    have HL := Aside0.mk hl
    clear hl
    go_enter Try.func97, Try.ntmps97
    go_wp2
    go_loopw [5] (fun i wr => ∃ k : Nat, k ≤ l.length ∧ i = .int .i64 k ∧ Aside0 (∀ j (h : j < l.length) (h' : j < m.length), j < k → l[j] = m[j]) ∧ Aside0 (Below w.heap.size w wr)) (fun i _ => l.length - (intOf i).toNat)
    case atStart => exact ⟨0, by omega, rfl, ⟨fun j _ _ h => by omega⟩, ⟨Below.refl _ _⟩⟩
    case round =>
      obtain ⟨k, hk, rfl, hI, hB⟩ := hrel
      by_cases hlt : k < l.length
      · have hlt2 : k < m.length := by have := HL.out; omega
        obtain ⟨ad, rfl, c0, c1⟩ := span_at (HR.out.below hB.out) k hlt
        obtain ⟨bd, rfl, d0, d1⟩ := span_at (HS.out.below hB.out) k hlt2
        by_cases e : l[k] = m[k]
        · have q0 : (l[k].lo == m[k].lo) = true := by rw [e]; simp
          have q1 : (l[k].hi == m[k].hi) = true := by rw [e]; simp
          have hn : Aside0 (∀ j (h : j < l.length) (h' : j < m.length), j < k + 1 → l[j] = m[j]) := ⟨fun j h h' hj => by
            by_cases ee : j = k
            · subst ee; exact e
            · exact hI.out j h h' (by omega)⟩
          clear e
          go_wp2
          go_quiet (fail)
          go_wp2
          go_roundw
          case rel => exact ⟨k + 1, by omega, by go_num, hn, ⟨(by repeat (first | (with_reducible first | exact hB.out | apply below_alloc | apply pw_below_drewN | apply below_drew) | exact hB.out))⟩⟩
          case measure => simp [intOf]; omega
        · have E := Aside0.mk (show decide (l = m) = false from decide_eq_false (fun ee => by subst ee; exact e rfl))
          by_cases e0 : l[k].lo = m[k].lo
          · have q0 : (l[k].lo == m[k].lo) = true := by rw [e0]; simp
            have q1 : (l[k].hi == m[k].hi) = false := by
              rw [beq_eq_false_iff_ne]
              exact fun e1 => e (Span.ext e0 e1)
            clear e e0
            go_wp2
            go_quiet (fail)
            go_wp2
            go_ret
            exact ⟨by rw [E.out]; rfl, (by repeat (first | (with_reducible first | exact hB.out | apply below_alloc | apply pw_below_drewN | apply below_drew) | exact hB.out))⟩
          · have q0 : (l[k].lo == m[k].lo) = false := by rw [beq_eq_false_iff_ne]; exact e0
            clear e e0
            go_wp2
            go_quiet (fail)
            go_wp2
            go_ret
            exact ⟨by rw [E.out]; rfl, (by repeat (first | (with_reducible first | exact hB.out | apply below_alloc | apply pw_below_drewN | apply below_drew) | exact hB.out))⟩
      · have E := Aside0.mk (show decide (l = m) = true from decide_eq_true (List.ext_getElem HL.out (fun j h h' => hI.out j h h' (by omega))))
        go_wp2
        go_ret
        exact ⟨by rw [E.out]; rfl, hB.out⟩
  · have hl1 : ((l.length : Int) != (m.length : Int)) = true := by simp; omega
    have E := Aside0.mk (show decide (l = m) = false from decide_eq_false (fun ee => hl (by rw [ee])))
    clear hl
    go_enter Try.func97, Try.ntmps97
    go_wp2
    go_ret
    exact ⟨by rw [E.out]; rfl, Below.refl _ _⟩

set_option maxHeartbeats 2000000 in
theorem ref05_Same (A B : Option Addr) (c d : Nat) (l m : List Pair) (w : World) (hr : Sl kPair w A c l) (hs : Sl kPair w B d m) :
    Calls Try.prog 30 #[.slice A l.length c, .slice B m.length d] w fun e w' => e = .returned (.bool (decide (l = m))) ∧ Below w.heap.size w w' := by
  have HR := Aside0.mk hr
  have HS := Aside0.mk hs
  have hm := hr.max
  have hm2 := hs.max
  have hu := Try.underlying172
  clear hr hs
  by_cases hl : l.length = m.length
  · have hl1 : ((l.length : Int) != (m.length : Int)) = false := by simp; omega
    have HL := Aside0.mk hl
    clear hl
    go_enter Try.func30, Try.ntmps30
    go_wp2
    go_loopw [5] (fun i wr => ∃ k : Nat, k ≤ l.length ∧ i = .int .i64 k ∧ Aside0 (∀ j (h : j < l.length) (h' : j < m.length), j < k → l[j] = m[j]) ∧ Aside0 (Below w.heap.size w wr)) (fun i _ => l.length - (intOf i).toNat)
    case atStart => exact ⟨0, by omega, rfl, ⟨fun j _ _ h => by omega⟩, ⟨Below.refl _ _⟩⟩
    case round =>
      obtain ⟨k, hk, rfl, hI, hB⟩ := hrel
      by_cases hlt : k < l.length
      · have hlt2 : k < m.length := by have := HL.out; omega
        obtain ⟨ad, rfl, c0, c1⟩ := pair_at (HR.out.below hB.out) k hlt
        obtain ⟨bd, rfl, d0, d1⟩ := pair_at (HS.out.below hB.out) k hlt2
        by_cases e : l[k] = m[k]
        · have q0 : (l[k].key == m[k].key) = true := by rw [e]; simp
          have q1 : (l[k].val == m[k].val) = true := by rw [e]; simp
          have hn : Aside0 (∀ j (h : j < l.length) (h' : j < m.length), j < k + 1 → l[j] = m[j]) := ⟨fun j h h' hj => by
            by_cases ee : j = k
            · subst ee; exact e
            · exact hI.out j h h' (by omega)⟩
          clear e
          go_wp2
          go_quiet (fail)
          go_wp2
          go_roundw
          case rel => exact ⟨k + 1, by omega, by go_num, hn, ⟨(by repeat (first | (with_reducible first | exact hB.out | apply below_alloc | apply pw_below_drewN | apply below_drew) | exact hB.out))⟩⟩
          case measure => simp [intOf]; omega
        · have E := Aside0.mk (show decide (l = m) = false from decide_eq_false (fun ee => by subst ee; exact e rfl))
          by_cases e0 : l[k].key = m[k].key
          · have q0 : (l[k].key == m[k].key) = true := by rw [e0]; simp
            have q1 : (l[k].val == m[k].val) = false := by
              rw [beq_eq_false_iff_ne]
              exact fun e1 => e (Pair.ext e0 e1)
            clear e e0
            go_wp2
            go_quiet (fail)
            go_wp2
            go_ret
            exact ⟨by rw [E.out]; rfl, (by repeat (first | (with_reducible first | exact hB.out | apply below_alloc | apply pw_below_drewN | apply below_drew) | exact hB.out))⟩
          · have q0 : (l[k].key == m[k].key) = false := by rw [beq_eq_false_iff_ne]; exact e0
            clear e e0
            go_wp2
            go_quiet (fail)
            go_wp2
            go_ret
            exact ⟨by rw [E.out]; rfl, (by repeat (first | (with_reducible first | exact hB.out | apply below_alloc | apply pw_below_drewN | apply below_drew) | exact hB.out))⟩
      · have E := Aside0.mk (show decide (l = m) = true from decide_eq_true (List.ext_getElem HL.out (fun j h h' => hI.out j h h' (by omega))))
        go_wp2
        go_ret
        exact ⟨by rw [E.out]; rfl, hB.out⟩
  · have hl1 : ((l.length : Int) != (m.length : Int)) = true := by simp; omega
    have E := Aside0.mk (show decide (l = m) = false from decide_eq_false (fun ee => hl (by rw [ee])))
    clear hl
    go_enter Try.func30, Try.ntmps30
    go_wp2
    go_ret
    exact ⟨by rw [E.out]; rfl, Below.refl _ _⟩

set_option maxHeartbeats 2000000 in
/-- law05_Refs: the same list, in memory of the call's own. -/
theorem law05_Refs (A : Option Addr) (c : Nat) (l : List Pair) (w : World) (hr : Sl kPair w A c l) (hbig : l.length ≤ 1000000) :
    Calls Try.prog 28 #[.slice A l.length c] w fun e w' => ∃ v, e = .returned v ∧ Own kPair 172 w' w.heap.size v l ∧ Below w.heap.size w w' := by
  have HR := Aside0.mk hr
  clear hr
  have hu := Try.underlying172
  go_enter Try.func28, Try.ntmps28
  go_wp2
  go_loopw [3, 4] (fun v i wr => ∃ k : Nat, k ≤ l.length ∧ i = .int .i64 k ∧ Aside0 (Own kPair 172 wr w.heap.size v (l.take k)) ∧ Aside0 (Below w.heap.size w wr)) (fun _ i _ => l.length - (intOf i).toNat)
  case atStart => exact ⟨0, by omega, rfl, ⟨Own.nil _ _ _ _⟩, ⟨Below.refl _ _⟩⟩
  case round =>
    obtain ⟨k, hk, rfl, hO, hB⟩ := hrel
    by_cases hlt : k < l.length
    · obtain ⟨ad, rfl, c0, c1⟩ := pair_at (HR.out.below hB.out) k hlt
      have ht := Aside0.mk (List.take_succ_eq_append_getElem hlt)
      go_wp2_with ((at_builtin; go_must (refine own_append (w0 := w) w.heap.size rfl (.tmp 11) (.tmp 16) 54 172 _ 16 rfl Try.underlying54 info172 rfl (by decide) (by omega) u3 (l.take k) l[k] rfl rfl hO.out hB.out hB.out.size (by simp; omega) ?_); intro v1 w1 ho hb hs; rw [← ht.out] at ho; have HO := Aside0.mk ho; have HB := Aside0.mk hb; clear ho hb))
      go_roundw
      case rel => exact ⟨k + 1, by omega, by go_num, HO, HB⟩
      case measure => simp [intOf]; omega
    · have e : l.take k = l := List.take_of_length_le (by omega)
      rw [e] at hO
      go_wp2
      go_ret
      exact ⟨_, rfl, hO.out, hB.out⟩

set_option maxHeartbeats 2000000 in
/-- law03_Refs: the same list, in memory of the call's own. -/
theorem law03_Refs (A : Option Addr) (c : Nat) (l : List Span) (w : World) (hr : Sl kSpan w A c l) (hbig : l.length ≤ 1000000) :
    Calls Try.prog 34 #[.slice A l.length c] w fun e w' => ∃ v, e = .returned v ∧ Own kSpan 178 w' w.heap.size v l ∧ Below w.heap.size w w' := by
  have HR := Aside0.mk hr
  clear hr
  have hu := Try.underlying178
  go_enter Try.func34, Try.ntmps34
  go_wp2
  go_loopw [3, 4] (fun v i wr => ∃ k : Nat, k ≤ l.length ∧ i = .int .i64 k ∧ Aside0 (Own kSpan 178 wr w.heap.size v (l.take k)) ∧ Aside0 (Below w.heap.size w wr)) (fun _ i _ => l.length - (intOf i).toNat)
  case atStart => exact ⟨0, by omega, rfl, ⟨Own.nil _ _ _ _⟩, ⟨Below.refl _ _⟩⟩
  case round =>
    obtain ⟨k, hk, rfl, hO, hB⟩ := hrel
    by_cases hlt : k < l.length
    · obtain ⟨ad, rfl, c0, c1⟩ := span_at (HR.out.below hB.out) k hlt
      have ht := Aside0.mk (List.take_succ_eq_append_getElem hlt)
      go_wp2_with ((at_builtin; go_must (refine own_append (w0 := w) w.heap.size rfl (.tmp 11) (.tmp 16) 55 178 _ 16 rfl Try.underlying55 info178 rfl (by decide) (by omega) u3 (l.take k) l[k] rfl rfl hO.out hB.out hB.out.size (by simp; omega) ?_); intro v1 w1 ho hb hs; rw [← ht.out] at ho; have HO := Aside0.mk ho; have HB := Aside0.mk hb; clear ho hb))
      go_roundw
      case rel => exact ⟨k + 1, by omega, by go_num, HO, HB⟩
      case measure => simp [intOf]; omega
    · have e : l.take k = l := List.take_of_length_le (by omega)
      rw [e] at hO
      go_wp2
      go_ret
      exact ⟨_, rfl, hO.out, hB.out⟩

set_option maxHeartbeats 2000000 in
theorem ref03_One (s : Span) (w : World) :
    Calls Try.prog 111 #[.agg #[.int .i64 s.lo, .int .i64 s.hi]] w fun e w' => e = .returned (.bool (oneSpan s)) ∧ Below w.heap.size w w' := by
  rcases Decidable.em (¬ (0 ≤ s.lo)) with hd0 | hd0
  · have d0 : decide (0 ≤ s.lo) = false := decide_eq_false hd0
    have E := Aside0.mk (show oneSpan s = false by simp only [oneSpan, decide_eq_false_iff_not]; omega)
    go_enter Try.func111, Try.ntmps111
    go_wp2
    go_ret
    exact ⟨by rw [E.out]; rfl, below_alloc (Below.refl _ _) _⟩
  · replace hd0 := Decidable.not_not.1 hd0
    have d0 : decide (0 ≤ s.lo) = true := decide_eq_true hd0
    rcases Decidable.em (¬ (s.lo < s.hi)) with hd1 | hd1
    · have d1 : decide (s.lo < s.hi) = false := decide_eq_false hd1
      have E := Aside0.mk (show oneSpan s = false by simp only [oneSpan, decide_eq_false_iff_not]; omega)
      go_enter Try.func111, Try.ntmps111
      go_wp2
      go_ret
      exact ⟨by rw [E.out]; rfl, below_alloc (Below.refl _ _) _⟩
    · replace hd1 := Decidable.not_not.1 hd1
      have d1 : decide (s.lo < s.hi) = true := decide_eq_true hd1
      rcases Decidable.em (¬ (s.hi ≤ 4096)) with hd2 | hd2
      · have d2 : decide (s.hi ≤ 4096) = false := decide_eq_false hd2
        have E := Aside0.mk (show oneSpan s = false by simp only [oneSpan, decide_eq_false_iff_not]; omega)
        go_enter Try.func111, Try.ntmps111
        go_wp2
        go_ret
        exact ⟨by rw [E.out]; rfl, below_alloc (Below.refl _ _) _⟩
      · replace hd2 := Decidable.not_not.1 hd2
        have d2 : decide (s.hi ≤ 4096) = true := decide_eq_true hd2
        have E := Aside0.mk (show oneSpan s = true by simp only [oneSpan, decide_eq_true_eq]; omega)
        go_enter Try.func111, Try.ntmps111
        go_wp2
        go_ret
        exact ⟨by rw [E.out]; rfl, below_alloc (Below.refl _ _) _⟩

end Go.Proofs.Ytoeipkjpgbdioaa
