/- What the references of layers 3 and 5 answer: Check, Has, Clip; and the program's Clip. -/
import Derived.Test.YtoeipkjpgbdioaaSame
set_option linter.unusedVariables false
set_option linter.unusedSimpArgs false
namespace Go.Proofs.Ytoeipkjpgbdioaa
open Go.RowKit Go.Shelf Go.Proofs.YtoeipkjpgbdioaaW.PrintWords

set_option maxHeartbeats 2000000 in
set_option maxRecDepth 100000 in
theorem ref03_Check (A : Option Addr) (c : Nat) (l : List Span) (w : World) (hr : Sl kSpan w A c l) :
    Calls Try.prog 48 #[.slice A l.length c] w fun e w' => e = .returned (.bool (isSet l)) ∧ Below w.heap.size w w' := by
  have HR := Aside0.mk hr
  have hm := hr.max
  clear hr
  go_enter Try.func48, Try.ntmps48
  go_wp2
  go_loopw [3] (fun i wr => ∃ k : Nat, k ≤ l.length ∧ i = .int .i64 k ∧ Aside0 (upto oneSpan ltSpan l k) ∧ Aside0 (Below w.heap.size w wr)) (fun i _ => l.length - (intOf i).toNat)
  case atStart => exact ⟨0, by omega, rfl, ⟨upto_zero _ _ _⟩, ⟨Below.refl _ _⟩⟩
  case round =>
    obtain ⟨k, hk, rfl, hI, hB⟩ := hrel
    by_cases hlt : k < l.length
    · obtain ⟨ad, rfl, c0, c1⟩ := span_at (HR.out.below hB.out) k hlt
      have b0 : ∀ p : BW wr, p.W.cell? (ad.add (k * 2)) = some (.int .i64 l[k].lo) := fun p => bw_cell p c0
      have b1 : ∀ p : BW wr, p.W.cell? ⟨(ad.add (k * 2)).block, (ad.add (k * 2)).off + 1, none⟩ = some (.int .i64 l[k].hi) := fun p => bw_cell p c1
      go_wp2
      cases e1 : oneSpan l[k] with
      | false =>
        have hbad := Aside0.mk (isSet_bad (chk_bad k hlt e1))
        have s0 := fun W => ref03_One l[k] W
        rw [e1] at s0
        have s1 := Aside0.mk s0
        clear e1 s0
        refine wp_region_bw (by kernel_rfl) (by kernel_rfl) ?_
        repeat (go_big_quiet_step ((go_at_call 111; refine bw_calls _ (s1.out _))))
        refine wpQuiet_nil ?_
        intro W1 hw'
        obtain ⟨⟨W1_, hW1⟩, hw''⟩ := hw'
        subst hw''
        go_wp2
        go_ret
        exact ⟨by rw [hbad.out]; rfl, (below_then (by repeat (first | (with_reducible first | exact hB.out | apply below_alloc | apply pw_below_drewN | apply below_drew) | exact hB.out)) (by have := hB.out.size; simp; omega) hW1)⟩
      | true =>
        have s0 := fun W => ref03_One l[k] W
        rw [e1] at s0
        have s1 := Aside0.mk s0
        clear s0
        by_cases h0 : k = 0
        · subst h0
          have hn := Aside0.mk (upto_next hI.out hlt e1 (fun j hj => by omega))
          clear e1
          rw [show ad.add (0 * 2) = ad from rfl] at b0 b1
          refine wp_region_bw (by kernel_rfl) (by kernel_rfl) ?_
          repeat (go_big_quiet_step ((go_at_call 111; refine bw_calls _ (s1.out _))))
          refine wpQuiet_nil ?_
          intro W1 hw'
          obtain ⟨⟨W1_, hW1⟩, hw''⟩ := hw'
          subst hw''
          go_wp2
          go_roundw
          case rel => exact ⟨1, by omega, rfl, hn, ⟨(below_then (by repeat (first | (with_reducible first | exact hB.out | apply below_alloc | apply pw_below_drewN | apply below_drew) | exact hB.out)) (by have := hB.out.size; simp; omega) hW1)⟩⟩
          case measure => simp [intOf]; omega
        · obtain ⟨j, rfl⟩ : ∃ j, k = j + 1 := ⟨k - 1, by omega⟩
          obtain ⟨_, e2, _, c3⟩ := span_at (HR.out.below hB.out) j (by omega)
          cases e2
          have c3 : ∀ p : BW wr, p.W.cell? ⟨(ad.add (j * 2)).block, (ad.add (j * 2)).off + 1, none⟩ = some (.int .i64 l[j].hi) := fun p => bw_cell p c3
          have hj : decide (0 < (j : Int) + 1) = true := decide_eq_true (by omega)
          have hj1 : IntKind.i64.wrap (j : Int) = (j : Int) := IntWalk.i64_in _ (by omega)
          by_cases h5 : l[j].hi < l[j+1].lo
          · have d5 : decide (l[j+1].lo ≤ l[j].hi) = false := decide_eq_false (by omega)
            have hn := Aside0.mk (upto_next hI.out hlt e1 (fun i hi => by obtain rfl : i = j := by omega
                                                                          simp only [ltSpan, decide_eq_true_eq]; exact h5))
            clear e1
            refine wp_region_bw (by kernel_rfl) (by kernel_rfl) ?_
            repeat (go_big_quiet_step ((go_at_call 111; refine bw_calls _ (s1.out _))))
            refine wpQuiet_nil ?_
            intro W1 hw'
            obtain ⟨⟨W1_, hW1⟩, hw''⟩ := hw'
            subst hw''
            go_wp2
            go_roundw
            case rel => exact ⟨j + 1 + 1, by omega, by go_num, hn, ⟨(below_then (by repeat (first | (with_reducible first | exact hB.out | apply below_alloc | apply pw_below_drewN | apply below_drew) | exact hB.out)) (by have := hB.out.size; simp; omega) hW1)⟩⟩
            case measure => simp [intOf]; omega
          · have d5 : decide (l[j+1].lo ≤ l[j].hi) = true := decide_eq_true (by omega)
            have hbad := Aside0.mk (isSet_bad (chk_far j hlt (by simp only [ltSpan, decide_eq_false_iff_not]; exact h5)))
            clear e1
            refine wp_region_bw (by kernel_rfl) (by kernel_rfl) ?_
            repeat (go_big_quiet_step ((go_at_call 111; refine bw_calls _ (s1.out _))))
            refine wpQuiet_nil ?_
            intro W1 hw'
            obtain ⟨⟨W1_, hW1⟩, hw''⟩ := hw'
            subst hw''
            go_wp2
            go_ret
            exact ⟨by rw [hbad.out]; rfl, (below_then (by repeat (first | (with_reducible first | exact hB.out | apply below_alloc | apply pw_below_drewN | apply below_drew) | exact hB.out)) (by have := hB.out.size; simp; omega) hW1)⟩
    · have E := Aside0.mk (isSet_good (upto_all hI.out (by omega)))
      go_wp2
      go_ret
      exact ⟨by rw [E.out]; rfl, hB.out⟩

set_option maxHeartbeats 2000000 in
theorem ref03_Has (A : Option Addr) (c : Nat) (l : List Span) (key : Int) (w : World) (hr : Sl kSpan w A c l) :
    Calls Try.prog 96 #[.slice A l.length c, .int .i64 key] w fun e w' => e = .returned (.bool (has l key)) ∧ Below w.heap.size w w' := by
  have HR := Aside0.mk hr
  have hm := hr.max
  clear hr
  go_enter Try.func96, Try.ntmps96
  go_wp2
  go_loopw [5] (fun i wr => ∃ k : Nat, k ≤ l.length ∧ i = .int .i64 k ∧ Aside0 (∀ j (h : j < l.length), j < k → inSpan key l[j] = false) ∧ Aside0 (Below w.heap.size w wr)) (fun i _ => l.length - (intOf i).toNat)
  case atStart => exact ⟨0, by omega, rfl, ⟨fun j _ h => by omega⟩, ⟨Below.refl _ _⟩⟩
  case round =>
    obtain ⟨k, hk, rfl, hI, hB⟩ := hrel
    by_cases hlt : k < l.length
    · obtain ⟨ad, rfl, c0, c1⟩ := span_at (HR.out.below hB.out) k hlt
      have HO := Aside0.mk (ref03_One l[k] wr)
      have hl : ∀ w', Below wr.heap.size wr w' → w'.cell? (ad.add (k * 2)) = some (.int .i64 l[k].lo) ∧ w'.cell? ⟨(ad.add (k * 2)).block, (ad.add (k * 2)).off + 1, none⟩ = some (.int .i64 l[k].hi) := fun w' hb => ⟨pw_cell_below hb c0, pw_cell_below hb c1⟩
      have HL := Aside0.mk hl
      clear hl
      have hstep : inSpan key l[k] = false → ∀ j (h : j < l.length), j < k + 1 → inSpan key l[j] = false := fun e j h hj => by
        by_cases ee : j = k
        · subst ee; exact e
        · exact hI.out j h (by omega)
      cases e1 : oneSpan l[k] with
      | false =>
        have hn := Aside0.mk (hstep (by simp [inSpan, e1]))
        rw [e1] at HO
        clear e1 hstep
        go_wp2_with (go_at_call 111; refine HO.out.mono ?_; rintro e w' ⟨rfl, hb⟩; have HB := Aside0.mk hb; clear hb)
        go_roundw
        case rel => exact ⟨k + 1, by omega, by go_num, hn, ⟨below_then hB.out hB.out.size HB.out⟩⟩
        case measure => simp [intOf]; omega
      | true =>
        rw [e1] at HO
        rcases Decidable.em (¬ (l[k].lo ≤ key)) with hd0 | hd0
        · have d0 : decide (l[k].lo ≤ key) = false := decide_eq_false hd0
          have hn := Aside0.mk (hstep (by simp [inSpan]; omega))
          clear e1 hstep
          go_wp2_with (go_at_call 111; refine HO.out.mono ?_; rintro e w' ⟨rfl, hb⟩; obtain ⟨x0, x1⟩ := HL.out w' hb; have HB := Aside0.mk hb; clear hb)
          go_roundw
          case rel => exact ⟨k + 1, by omega, by go_num, hn, ⟨below_then hB.out hB.out.size HB.out⟩⟩
          case measure => simp [intOf]; omega
        · replace hd0 := Decidable.not_not.1 hd0
          have d0 : decide (l[k].lo ≤ key) = true := decide_eq_true hd0
          rcases Decidable.em (¬ (key < l[k].hi)) with hd1 | hd1
          · have d1 : decide (key < l[k].hi) = false := decide_eq_false hd1
            have hn := Aside0.mk (hstep (by simp [inSpan]; omega))
            clear e1 hstep
            go_wp2_with (go_at_call 111; refine HO.out.mono ?_; rintro e w' ⟨rfl, hb⟩; obtain ⟨x0, x1⟩ := HL.out w' hb; have HB := Aside0.mk hb; clear hb)
            go_roundw
            case rel => exact ⟨k + 1, by omega, by go_num, hn, ⟨below_then hB.out hB.out.size HB.out⟩⟩
            case measure => simp [intOf]; omega
          · replace hd1 := Decidable.not_not.1 hd1
            have d1 : decide (key < l[k].hi) = true := decide_eq_true hd1
            have E := Aside0.mk (show has l key = true from List.any_eq_true.2 ⟨l[k], by simp, by simp [inSpan, e1]; omega⟩)
            clear e1 hstep
            go_wp2_with (go_at_call 111; refine HO.out.mono ?_; rintro e w' ⟨rfl, hb⟩; obtain ⟨x0, x1⟩ := HL.out w' hb; have HB := Aside0.mk hb; clear hb)
            go_ret
            exact ⟨by rw [E.out]; rfl, below_then hB.out hB.out.size HB.out⟩
    · have E := Aside0.mk (show has l key = false from by
        rw [has, List.any_eq_false]
        intro x hx
        obtain ⟨i, hi, rfl⟩ := List.getElem_of_mem hx
        simp [hI.out i hi (by omega)])
      go_wp2
      go_ret
      exact ⟨by rw [E.out]; rfl, hB.out⟩

set_option maxHeartbeats 2000000 in
set_option maxRecDepth 100000 in
theorem ref05_Check (A : Option Addr) (c : Nat) (l : List Pair) (w : World) (hr : Sl kPair w A c l) :
    Calls Try.prog 94 #[.slice A l.length c] w fun e w' => e = .returned (.bool (isTable l)) ∧ Below w.heap.size w w' := by
  have HR := Aside0.mk hr
  have hm := hr.max
  clear hr
  go_enter Try.func94, Try.ntmps94
  go_wp2
  go_loopw [3] (fun i wr => ∃ k : Nat, k ≤ l.length ∧ i = .int .i64 k ∧ Aside0 (upto okPair ltPair l k) ∧ Aside0 (Below w.heap.size w wr)) (fun i _ => l.length - (intOf i).toNat)
  case atStart => exact ⟨0, by omega, rfl, ⟨upto_zero _ _ _⟩, ⟨Below.refl _ _⟩⟩
  case round =>
    obtain ⟨k, hk, rfl, hI, hB⟩ := hrel
    by_cases hlt : k < l.length
    · obtain ⟨ad, rfl, c0, c1⟩ := pair_at (HR.out.below hB.out) k hlt
      by_cases hd0 : l[k].key < 0
      · have d0 : decide (l[k].key < 0) = true := decide_eq_true hd0
        have e : isTable l = false := chk_bad k hlt (by simp only [okPair, decide_eq_false_iff_not]; omega)
        have E := Aside0.mk e
        clear e
        go_wp2
        go_ret
        exact ⟨by rw [E.out]; rfl, hB.out⟩
      · have d0 : decide (l[k].key < 0) = false := decide_eq_false hd0
        by_cases hd1 : 4095 < l[k].key
        · have d1 : decide (4095 < l[k].key) = true := decide_eq_true hd1
          have e : isTable l = false := chk_bad k hlt (by simp only [okPair, decide_eq_false_iff_not]; omega)
          have E := Aside0.mk e
          clear e
          go_wp2
          go_ret
          exact ⟨by rw [E.out]; rfl, hB.out⟩
        · have d1 : decide (4095 < l[k].key) = false := decide_eq_false hd1
          by_cases hd2 : l[k].val < -1099511627776
          · have d2 : decide (l[k].val < -1099511627776) = true := decide_eq_true hd2
            have e : isTable l = false := chk_bad k hlt (by simp only [okPair, decide_eq_false_iff_not]; omega)
            have E := Aside0.mk e
            clear e
            go_wp2
            go_ret
            exact ⟨by rw [E.out]; rfl, hB.out⟩
          · have d2 : decide (l[k].val < -1099511627776) = false := decide_eq_false hd2
            by_cases hd3 : 1099511627776 < l[k].val
            · have d3 : decide (1099511627776 < l[k].val) = true := decide_eq_true hd3
              have e : isTable l = false := chk_bad k hlt (by simp only [okPair, decide_eq_false_iff_not]; omega)
              have E := Aside0.mk e
              clear e
              go_wp2
              go_ret
              exact ⟨by rw [E.out]; rfl, hB.out⟩
            · have d3 : decide (1099511627776 < l[k].val) = false := decide_eq_false hd3
              have hok : okPair l[k] = true := by simp only [okPair, decide_eq_true_eq]; omega
              by_cases h0 : k = 0
              · subst h0
                have hn := Aside0.mk (upto_next hI.out hlt hok (fun j hj => by omega))
                clear hok
                rw [show ad.add (0 * 2) = ad from rfl] at c0 c1
                go_wp2
                go_quiet (fail)
                go_wp2
                go_roundw
                case rel => exact ⟨1, by omega, rfl, hn, ⟨(by repeat (first | (with_reducible first | exact hB.out | apply below_alloc | apply pw_below_drewN | apply below_drew) | exact hB.out))⟩⟩
                case measure => simp [intOf]; omega
              · obtain ⟨j, rfl⟩ : ∃ j, k = j + 1 := ⟨k - 1, by omega⟩
                obtain ⟨_, e1, c2, _⟩ := pair_at (HR.out.below hB.out) j (by omega)
                cases e1
                have hj : decide (0 < (j : Int) + 1) = true := decide_eq_true (by omega)
                have hj1 : IntKind.i64.wrap (j : Int) = (j : Int) := IntWalk.i64_in _ (by omega)
                by_cases h5 : l[j].key < l[j+1].key
                · have d5 : decide (l[j+1].key ≤ l[j].key) = false := decide_eq_false (by omega)
                  have hn := Aside0.mk (upto_next hI.out hlt hok (fun i hi => by obtain rfl : i = j := by omega
                                                                                 simp only [ltPair, decide_eq_true_eq]; exact h5))
                  clear hok
                  go_wp2
                  go_quiet (fail)
                  go_wp2
                  go_roundw
                  case rel => exact ⟨j + 1 + 1, by omega, by go_num, hn, ⟨(by repeat (first | (with_reducible first | exact hB.out | apply below_alloc | apply pw_below_drewN | apply below_drew) | exact hB.out))⟩⟩
                  case measure => simp [intOf]; omega
                · have d5 : decide (l[j+1].key ≤ l[j].key) = true := decide_eq_true (by omega)
                  have e : isTable l = false := chk_far j hlt (by simp only [ltPair, decide_eq_false_iff_not]; exact h5)
                  have E := Aside0.mk e
                  clear e
                  go_wp2
                  go_quiet (fail)
                  go_wp2
                  go_ret
                  exact ⟨by rw [E.out]; rfl, (by repeat (first | (with_reducible first | exact hB.out | apply below_alloc | apply pw_below_drewN | apply below_drew) | exact hB.out))⟩
    · have e : isTable l = true := upto_all hI.out (by omega)
      have E := Aside0.mk e
      clear e
      go_wp2
      go_ret
      exact ⟨by rw [E.out]; rfl, hB.out⟩

def inClip (l : List Pair) (on : List Span) (p : Pair) : Bool := isTable l && (isSet on && has on p.key)
def clip (l : List Pair) (on : List Span) : List Pair := l.filter (inClip l on)
theorem clip_step {l : List Pair} {q : Pair → Bool} {k : Nat} (h : k < l.length) : (l.take (k + 1)).filter q = if q l[k] = true then (l.take k).filter q ++ [l[k]] else (l.take k).filter q := by
  rw [List.take_succ_eq_append_getElem h, List.filter_append]
  cases e : q l[k] <;> simp [List.filter_cons, e]
theorem filter_take_length (l : List Pair) (q : Pair → Bool) (k : Nat) : ((l.take k).filter q).length ≤ l.length := Nat.le_trans (List.length_filter_le _ _) (by simp; omega)

set_option maxHeartbeats 2000000 in
theorem ref05_Clip (A B : Option Addr) (c d : Nat) (l : List Pair) (on : List Span) (w : World) (hr : Sl kPair w A c l) (hs : Sl kSpan w B d on) (hbig : l.length ≤ 1000000) :
    Calls Try.prog 41 #[.slice A l.length c, .slice B on.length d] w fun e w' => ∃ v, e = .returned v ∧ Own kPair 172 w' w.heap.size v (clip l on) ∧ Below w.heap.size w w' := by
  have HR := Aside0.mk hr
  have HS := Aside0.mk hs
  clear hr hs
  have hu := Try.underlying172
  go_enter Try.func41, Try.ntmps41
  go_wp2
  go_loopw [5, 6] (fun v i wr => ∃ k : Nat, k ≤ l.length ∧ i = .int .i64 k ∧ Aside0 (Own kPair 172 wr w.heap.size v ((l.take k).filter (inClip l on))) ∧ Aside0 (Below w.heap.size w wr)) (fun _ i _ => l.length - (intOf i).toNat)
  case atStart => exact ⟨0, by omega, rfl, ⟨Own.nil _ _ _ _⟩, ⟨Below.refl _ _⟩⟩
  case round =>
    obtain ⟨k, hk, rfl, hO, hB⟩ := hrel
    by_cases hlt : k < l.length
    · have hR1 := HR.out.below hB.out
      obtain ⟨ad, rfl, c0, c1⟩ := pair_at hR1 k hlt
      have hF := filter_take_length l (inClip l on) k
      have HC := Aside0.mk (ref05_Check (some ad) c l wr hR1)
      have HD := Aside0.mk (fun W (h : Below wr.heap.size wr W) => ref03_Check B d on W ((HS.out.below hB.out).below h))
      have HH := Aside0.mk (fun W (h : Below wr.heap.size wr W) => ref03_Has B d on l[k].key W ((HS.out.below hB.out).below h))
      have hc0 := Aside0.mk (show ∀ W, Below wr.heap.size wr W → W.cell? (ad.add (k * 2)) = some (.int .i64 l[k].key) ∧ W.cell? ⟨(ad.add (k * 2)).block, (ad.add (k * 2)).off + 1, none⟩ = some (.int .i64 l[k].val) from fun W hW => ⟨pw_cell_below hW c0, pw_cell_below hW c1⟩)
      have ht := Aside0.mk (clip_step (q := inClip l on) hlt)
      clear hR1
      cases e1 : isTable l with
      | false =>
        have hq : inClip l on l[k] = false := by simp [inClip, e1]
        rw [hq] at ht
        rw [e1] at HC
        clear hq e1
        go_wp2_with (go_at_call 94; refine HC.out.mono ?_; rintro e w1 ⟨rfl, hb⟩; have HB := Aside0.mk hb; clear hb)
        go_roundw
        case rel => exact ⟨k + 1, by omega, by go_num, ⟨by rw [ht.out]; exact hO.out.below HB.out⟩, ⟨below_then hB.out hB.out.size HB.out⟩⟩
        case measure => simp [intOf]; omega
      | true =>
        rw [e1] at HC
        cases e2 : isSet on with
        | false =>
          have hq : inClip l on l[k] = false := by simp [inClip, e2]
          rw [hq] at ht
          rw [e2] at HD
          clear hq e1 e2
          go_wp2_with (first | (go_at_call 94; refine HC.out.mono ?_; rintro e w1 ⟨rfl, hb⟩; have HB := Aside0.mk hb; clear hb) | (go_at_call 48; refine (HD.out _ HB.out).mono ?_; rintro e w2 ⟨rfl, hb⟩; have HB2 := Aside0.mk (below_then HB.out HB.out.size hb); clear hb))
          go_roundw
          case rel => exact ⟨k + 1, by omega, by go_num, ⟨by rw [ht.out]; exact hO.out.below HB2.out⟩, ⟨below_then hB.out hB.out.size HB2.out⟩⟩
          case measure => simp [intOf]; omega
        | true =>
          rw [e2] at HD
          cases e3 : has on l[k].key with
          | false =>
            have hq : inClip l on l[k] = false := by simp [inClip, e3]
            rw [hq] at ht
            rw [e3] at HH
            clear hq e1 e2 e3
            go_wp2_with (first | (go_at_call 94; refine HC.out.mono ?_; rintro e w1 ⟨rfl, hb⟩; have HB := Aside0.mk hb; clear hb) | (go_at_call 48; refine (HD.out _ HB.out).mono ?_; rintro e w2 ⟨rfl, hb⟩; have HB2 := Aside0.mk (below_then HB.out HB.out.size hb); clear hb; obtain ⟨x0, x1⟩ := hc0.out _ HB2.out) | (go_at_call 96; refine (HH.out _ HB2.out).mono ?_; rintro e w3 ⟨rfl, hb⟩; have HB3 := Aside0.mk (below_then HB2.out HB2.out.size hb); clear hb))
            go_roundw
            case rel => exact ⟨k + 1, by omega, by go_num, ⟨by rw [ht.out]; exact hO.out.below HB3.out⟩, ⟨below_then hB.out hB.out.size HB3.out⟩⟩
            case measure => simp [intOf]; omega
          | true =>
            have hq : inClip l on l[k] = true := by simp [inClip, e1, e2, e3]
            rw [hq] at ht
            rw [e3] at HH
            clear hq e1 e2 e3
            go_wp2_with (first | (go_at_call 94; refine HC.out.mono ?_; rintro e w1 ⟨rfl, hb⟩; have HB := Aside0.mk hb; clear hb) | (go_at_call 48; refine (HD.out _ HB.out).mono ?_; rintro e w2 ⟨rfl, hb⟩; have HB2 := Aside0.mk (below_then HB.out HB.out.size hb); clear hb; obtain ⟨x0, x1⟩ := hc0.out _ HB2.out) | (go_at_call 96; refine (HH.out _ HB2.out).mono ?_; rintro e w3 ⟨rfl, hb⟩; have HB3 := Aside0.mk (below_then HB2.out HB2.out.size hb); clear hb x0 x1; obtain ⟨x0, x1⟩ := hc0.out _ HB3.out; have HO := Aside0.mk (hO.out.below HB3.out); have HBB := Aside0.mk (below_then hB.out hB.out.size HB3.out)) | (at_builtin; go_must (refine own_append (w0 := w) w.heap.size rfl (.tmp 28) (.tmp 33) 54 172 (.agg #[.int .i64 0, .int .i64 0]) 16 rfl Try.underlying54 info172 rfl (by decide) (by omega) u5 ((l.take k).filter (inClip l on)) l[k] rfl rfl HO.out HBB.out HBB.out.size (by omega) ?_); intro v1 w4 ho hb hs; have HO4 := Aside0.mk ho; have HB4 := Aside0.mk hb; clear ho hb))
            go_roundw
            case rel => exact ⟨k + 1, by omega, by go_num, ⟨by rw [ht.out]; exact HO4.out⟩, HB4⟩
            case measure => simp [intOf]; omega
    · have e : (l.take k).filter (inClip l on) = clip l on := by rw [List.take_of_length_le (by omega)]; rfl
      rw [e] at hO
      go_wp2
      go_ret
      exact ⟨_, rfl, hO.out, hB.out⟩

end Go.Proofs.Ytoeipkjpgbdioaa
