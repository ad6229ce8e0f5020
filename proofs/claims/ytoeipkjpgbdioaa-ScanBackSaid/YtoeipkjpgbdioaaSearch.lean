/- The library's binary search over pairs, with the program's comparison; cmp.Compare. -/
import Derived.Test.YtoeipkjpgbdioaaCursor
set_option linter.unusedVariables false
set_option linter.unusedSimpArgs false
namespace Go.Proofs.Ytoeipkjpgbdioaa
open Go.RowKit Go.Shelf Go.Proofs.YtoeipkjpgbdioaaW.PrintWords

def cmpInt (a b : Int) : Int := if a < b then -1 else if b < a then 1 else 0
theorem cmpInt_neg (a b : Int) : cmpInt a b < 0 ↔ a < b := by unfold cmpInt; split <;> (try split) <;> omega
theorem cmpInt_zero (a b : Int) : cmpInt a b = 0 ↔ a = b := by unfold cmpInt; split <;> (try split) <;> omega

theorem cmp_Compare (a b : Int) (w : World) :
    Calls Try.prog 92 #[.int .i64 a, .int .i64 b] w fun e w' => e = .returned (.int .i64 (cmpInt a b)) ∧ Below w.heap.size w w' := by
  have HB := Aside0.mk (Below.refl w.heap.size w)
  by_cases h1 : a < b
  · have E := Aside0.mk (show cmpInt a b = -1 by simp [cmpInt, h1])
    go_enter Try.func92, Try.ntmps92
    go_wp2
    go_ret
    exact ⟨by rw [E.out]; rfl, HB.out⟩
  · by_cases h2 : b < a
    · have E := Aside0.mk (show cmpInt a b = 1 by simp [cmpInt, h1, h2])
      go_enter Try.func92, Try.ntmps92
      go_wp2
      go_ret
      exact ⟨by rw [E.out]; rfl, HB.out⟩
    · have E := Aside0.mk (show cmpInt a b = 0 by simp [cmpInt, h1, h2])
      go_enter Try.func92, Try.ntmps92
      go_wp2
      go_ret
      exact ⟨by rw [E.out]; rfl, HB.out⟩

theorem scan_Page_1 (p : Pair) (k : Int) (w : World) :
    Calls Try.prog 91 #[.agg #[.int .i64 p.key, .int .i64 p.val], .int .i64 k] w fun e w' => e = .returned (.int .i64 (cmpInt p.key k)) ∧ Below w.heap.size w w' := by
  have HX := Aside0.mk (below_alloc (Below.refl w.heap.size w) (.cells #[.int .i64 p.key, .int .i64 p.val] 84))
  have HC := Aside0.mk (cmp_Compare p.key k (w.alloc (.cells #[.int .i64 p.key, .int .i64 p.val] 84)))
  go_enter Try.func91, Try.ntmps91
  go_wp2_with (go_at_call 92; refine HC.out.mono ?_; rintro e w1 ⟨rfl, hb⟩; have HB := Aside0.mk (via HX.out hb); clear hb)
  go_ret
  exact ⟨rfl, HB.out⟩

/-- How many come ahead. -/
def ahead (cf : Pair → Int) (l : List Pair) : Nat := l.countP fun p => decide (cf p < 0)
theorem ahead_eq {cf : Pair → Int} {l : List Pair} {i : Nat} (hi : i ≤ l.length) (h1 : ∀ k (h : k < l.length), k < i → cf l[k] < 0) (h2 : ∀ k (h : k < l.length), i ≤ k → 0 ≤ cf l[k]) : ahead cf l = i := by
  have e : l = l.take i ++ l.drop i := (List.take_append_drop i l).symm
  unfold ahead
  rw [e, List.countP_append, List.countP_eq_length.2, List.countP_eq_zero.2]
  · simp; omega
  · intro p hp
    obtain ⟨k, hk, rfl⟩ := List.getElem_of_mem hp
    simp only [List.length_drop] at hk
    simp only [List.getElem_drop, decide_eq_true_eq]
    have := h2 (i + k) (by omega) (by omega)
    omega
  · intro p hp
    obtain ⟨k, hk, rfl⟩ := List.getElem_of_mem hp
    simp only [List.length_take] at hk
    simp only [List.getElem_take, decide_eq_true_eq]
    exact h1 k (by omega) (by omega)

set_option maxHeartbeats 2000000 in
theorem BinarySearch_Pair (A : Option Addr) (c : Nat) (l : List Pair) (t : Int) (cf : Pair → Int) (g : Nat) (cb : Array Value) (eg : ∀ args w, (callFunc g args).run Try.prog w = .ok (.enter g args) w) (w : World) (hr : Sl kPair w A c l) (hbig : l.length ≤ 1000000)
    (hp : ∀ x W, Below w.heap.size w W → Calls Try.prog g (#[.agg #[.int .i64 x.key, .int .i64 x.val], .int .i64 t] ++ cb) W fun e w' => e = .returned (.int .i64 (cf x)) ∧ Below W.heap.size W w')
    (hmono : ∀ i j (hi : i < l.length) (hj : j < l.length), i ≤ j → cf l[j] < 0 → cf l[i] < 0) :
    Calls Try.prog 90 #[.slice A l.length c, .int .i64 t, .func (.func g) #[] cb] w fun e w' =>
      e = .returned (.tuple #[.int .i64 (ahead cf l : Nat), .bool (decide (∃ h : ahead cf l < l.length, cf l[ahead cf l] = 0))]) ∧ Below w.heap.size w w' := by
  have HR := Aside0.mk hr
  have HP := Aside0.mk hp
  have HM := Aside0.mk hmono
  clear hr hp hmono
  go_enter Try.func90, Try.ntmps90
  go_wp2
  go_loopw [9, 10] (fun i j wr => ∃ a b : Nat, a ≤ b ∧ b ≤ l.length ∧ i = .int .i64 a ∧ j = .int .i64 b ∧ Aside0 (∀ k (h : k < l.length), k < a → cf l[k] < 0) ∧ Aside0 (∀ k (h : k < l.length), b ≤ k → 0 ≤ cf l[k]) ∧ Aside0 (Below w.heap.size w wr)) (fun i j _ => (intOf j).toNat - (intOf i).toNat)
  case atStart => exact ⟨0, l.length, by omega, by omega, rfl, rfl, ⟨fun k _ h => by omega⟩, ⟨fun k h h' => by omega⟩, ⟨Below.refl _ _⟩⟩
  case round =>
    obtain ⟨a, b, hab, hbl, rfl, rfl, hI, hJ, hB⟩ := hrel
    by_cases hlt : a < b
    · obtain ⟨ad, rfl, c0, c1⟩ := pair_at (HR.out.below hB.out) ((a + b) / 2) (by omega)
      have h0 := Aside0.mk (HP.out l[(a + b) / 2] wr hB.out)
      by_cases h1 : cf l[(a + b) / 2] < 0
      · have d1 : decide (cf l[(a + b) / 2] < 0) = true := decide_eq_true h1
        have hI2 : Aside0 (∀ k (h : k < l.length), k < (a + b) / 2 + 1 → cf l[k] < 0) := ⟨fun k h hk => HM.out k ((a + b) / 2) h (by omega) (by omega) h1⟩
        clear h1
        go_wp2_with (go_at_fn g; refine h0.out.mono ?_; rintro e w1 ⟨rfl, hb⟩; have HB := Aside0.mk (via hB.out hb); clear hb)
        go_roundw
        case rel => exact ⟨(a + b) / 2 + 1, b, by omega, by omega, by go_num, rfl, hI2, hJ, HB⟩
        case measure => simp [intOf]; omega
      · have d1 : decide (cf l[(a + b) / 2] < 0) = false := decide_eq_false h1
        have hJ2 : Aside0 (∀ k (h : k < l.length), (a + b) / 2 ≤ k → 0 ≤ cf l[k]) := ⟨fun k h hk => by
          by_cases h2 : cf l[k] < 0
          · exact absurd (HM.out ((a + b) / 2) k (by omega) h hk h2) h1
          · omega⟩
        clear h1
        go_wp2_with (go_at_fn g; refine h0.out.mono ?_; rintro e w1 ⟨rfl, hb⟩; have HB := Aside0.mk (via hB.out hb); clear hb)
        go_roundw
        case rel => exact ⟨a, (a + b) / 2, by omega, by omega, rfl, by go_num, hI, hJ2, HB⟩
        case measure => simp [intOf]; omega
    · obtain rfl : a = b := by omega
      have E := Aside0.mk (ahead_eq hbl hI.out hJ.out)
      by_cases hl : a < l.length
      · obtain ⟨ad, rfl, c0, c1⟩ := pair_at (HR.out.below hB.out) a hl
        have h0 := Aside0.mk (HP.out l[a] wr hB.out)
        by_cases h1 : cf l[a] = 0
        · have d1 : (cf l[a] == 0) = true := by simp [h1]
          have F := Aside0.mk (show decide (∃ h : ahead cf l < l.length, cf l[ahead cf l] = 0) = true by rw [decide_eq_true_eq]; refine ⟨by rw [E.out]; exact hl, ?_⟩; simp only [E.out]; exact h1)
          clear h1
          go_wp2_with (go_at_fn g; refine h0.out.mono ?_; rintro e w1 ⟨rfl, hb⟩; have HB := Aside0.mk (via hB.out hb); clear hb)
          go_ret2
          exact ⟨by rw [F.out, E.out]; rfl, HB.out⟩
        · have d1 : (cf l[a] == 0) = false := by simp [h1]
          have F := Aside0.mk (show decide (∃ h : ahead cf l < l.length, cf l[ahead cf l] = 0) = false by
            rw [decide_eq_false_iff_not]; rintro ⟨h, h2⟩; simp only [E.out] at h2; exact h1 h2)
          clear h1
          go_wp2_with (go_at_fn g; refine h0.out.mono ?_; rintro e w1 ⟨rfl, hb⟩; have HB := Aside0.mk (via hB.out hb); clear hb)
          go_ret2
          exact ⟨by rw [F.out, E.out]; rfl, HB.out⟩
      · have F := Aside0.mk (show decide (∃ h : ahead cf l < l.length, cf l[ahead cf l] = 0) = false by
            rw [decide_eq_false_iff_not]; rintro ⟨h, h2⟩; rw [E.out] at h; exact hl h)
        go_wp2
        go_ret2
        exact ⟨by rw [F.out, E.out]; rfl, hB.out⟩

end Go.Proofs.Ytoeipkjpgbdioaa
