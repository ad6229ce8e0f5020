/- vint: numbers as bytes, written. -/
import Derived.Test.YtoeipkjpgbdioaaBuilder
import Derived.Test.YtoeipkjpgbdioaaBits
import Derived.Test.YtoeipkjpgbdioaaWLast
set_option linter.unusedVariables false
set_option linter.unusedSimpArgs false
namespace Go.Proofs.Ytoeipkjpgbdioaa
open Go.RowKit Go.Shelf Go.Proofs.YtoeipkjpgbdioaaW.PrintWords Go.Proofs.YtoeipkjpgbdioaaW.PrintLast

def encI8 (b : Int) : List Value := [.int .u8 b]
def kI8 : Kd Int := flat 1 encI8 (fun _ => rfl) (fun _ => one_of rfl)
def ints (l : List UInt8) : List Int := l.map fun b => (b.toNat : Int)
theorem ints_snoc (l : List UInt8) (b : UInt8) (x : Int) (h : (b.toNat : Int) = x) : ints l ++ [x] = ints (l ++ [b]) := by simp [ints, h]
theorem own_text {w : World} {e base : Nat} {v : Value} {l : List UInt8} (h : Own kI8 e w base v (ints l)) : w.ownsRow base e 1 v l.length (nums .u8 (ints l)) := by
  obtain ⟨_, inner, ho, hr⟩ := h
  have e1 : inner = nums .u8 (ints l) := by
    apply List.ext_getElem
    · rw [hr.1]; simp [nums, kI8, flat]
    · intro i h1 h2
      have hi : i < (ints l).length := by simpa [nums] using h2
      have h3 := hr.2 i (ints l)[i] (by simp)
      have h4 : (inner.drop (i * 1)).take 1 = [.int .u8 (ints l)[i]] := h3
      have h5 := congrArg (fun x => x[0]?) h4
      simp [List.getElem?_eq_getElem h1] at h5
      simp [nums, h5]
  rw [e1] at ho
  have e2 : (ints l).length = l.length := by simp [ints]
  rw [e2] at ho
  exact ho
theorem str_ints (l : List UInt8) : strOfNums (ints l) = ⟨l.toArray⟩ := by
  have h : ((fun n : Int => UInt8.ofNat n.toNat) ∘ fun b : UInt8 => (b.toNat : Int)) = id := by funext b; simp
  rw [strOfNums, ints, List.map_map, h, List.map_id]

/-- a number's bytes -/
def numL (n : Nat) : List UInt8 := if n < 128 then [UInt8.ofNat n] else UInt8.ofNat (n % 128 + 128) :: numL (n / 128)
termination_by n
theorem numL_small {n : Nat} (h : n < 128) : numL n = [UInt8.ofNat n] := by rw [numL, if_pos h]
theorem numL_big {n : Nat} (h : ¬ n < 128) : numL n = UInt8.ofNat (n % 128 + 128) :: numL (n / 128) := by rw [numL, if_neg h]

set_option maxHeartbeats 1000000 in
theorem vint_Num_neg (n : Int) (w : World) (hn : n < 0) :
    Calls Try.prog 75 #[.int .i64 n] w fun e w' => e = .returned (.string ⟨#[]⟩) ∧ Below w.heap.size w w' := by
  have t1 : decide (n < 0) = true := decide_eq_true hn
  go_enter Try.func75, Try.ntmps75
  go_wp2
  go_ret
  exact ⟨rfl, Below.refl _ _⟩
set_option maxRecDepth 100000 in
set_option maxHeartbeats 1000000 in
theorem vint_Num (N : Nat) (w : World) (hN : (N : Int) ≤ 9223372036854775807) :
    Calls Try.prog 75 #[.int .i64 N] w fun e w' => e = .returned (.string ⟨(numL N).toArray⟩) ∧ Below w.heap.size w w' := by
  have HN := Aside0.mk hN
  have t0 : decide ((N : Int) < 0) = false := by simp
  clear hN
  go_enter Try.func75, Try.ntmps75
  go_wp2
  go_loopw [3, 0] (fun v i wr => ∃ (m : Nat) (acc : List UInt8), acc.length ≤ 10 ∧ i = .int .i64 m ∧ Aside0 (m ≤ N ∧ acc ++ numL m = numL N ∧ m * 128 ^ acc.length ≤ N) ∧ Aside0 (Own kI8 5 wr w.heap.size v (ints acc)) ∧ Aside0 (Below w.heap.size w wr)) (fun _ i _ => (intOf i).toNat)
  case atStart => exact ⟨N, [], by simp, rfl, ⟨Nat.le_refl _, rfl, by simp⟩, ⟨Own.nil _ _ _ _⟩, ⟨Below.refl _ _⟩⟩
  case round =>
    obtain ⟨m, acc, hl, rfl, hA, hO, hB⟩ := hrel
    have hil : (ints acc).length = acc.length := by simp [ints]
    have HI := Aside0.mk hil
    clear hil
    by_cases hlt : m < 128
    · have t1 : decide ((128 : Int) ≤ (m : Int)) = false := by simp; omega
      have hs := Aside0.mk (ints_snoc acc (UInt8.ofNat m) (m : Int) (by simp; omega))
      go_wp2_with (at_builtin; go_must (refine own_append (w0 := w) w.heap.size rfl (.tmp 17) (.tmp 20) 142 5 (.int .u8 0) 1 rfl Try.underlying142 infoU8 rfl (by decide) (by omega) u3 (ints acc) (m : Int) rfl rfl hO.out hB.out hB.out.size (by have := HI.out; omega) ?_); intro v1 w6 ho hb hs6; rw [hs.out] at ho; have HO := Aside0.mk ho; have HB := Aside0.mk hb; have hcv := own_string (P := Try.prog) (src := 142) (dst := 9) Try.underlying142 Try.underlying5 Try.underlying9 (own_text ho); rw [str_ints] at hcv; clear ho hb)
      go_ret
      refine ⟨?_, HB.out⟩
      obtain ⟨_, h2, _⟩ := hA.out
      rw [← h2, numL_small hlt]
      rfl
    · have t1 : decide ((128 : Int) ≤ (m : Int)) = true := by simp; omega
      have hm63 : m < 2 ^ 63 := by have h1 := hA.out.1; have h2 := HN.out; omega
      have b1 : bits .and .i64 (m : Int) 127 = (m : Int) % 128 := by rw [and127_i64 m hm63]; rfl
      have b2 : bits .or .u8 ((m : Int) % 128) 128 = (m : Int) % 128 + 128 := or128_u8 (m % 128) (by omega)
      have b3 : (m : Int) % 128 % 256 = (m : Int) % 128 := by omega
      have hs := Aside0.mk (ints_snoc acc (UInt8.ofNat (m % 128 + 128)) ((m : Int) % 128 + 128) (by simp; omega))
      clear hm63
      go_wp2_with (at_builtin; go_must (refine own_append (w0 := w) w.heap.size rfl (.tmp 8) (.tmp 13) 142 5 (.int .u8 0) 1 rfl Try.underlying142 infoU8 rfl (by decide) (by omega) u3 (ints acc) ((m : Int) % 128 + 128) rfl rfl hO.out hB.out hB.out.size (by have := HI.out; omega) ?_); intro v1 w6 ho hb hs6; rw [hs.out] at ho; have HO := Aside0.mk ho; have HB := Aside0.mk hb; clear ho hb)
      obtain ⟨h1, h2, h3⟩ := hA.out
      have h4 := HN.out
      have hlen : acc.length ≤ 8 := by
        apply Classical.byContradiction
        intro hc
        have h5 : 128 ^ 9 ≤ 128 ^ acc.length := Nat.pow_le_pow_right (by decide) (by omega)
        have h6 : 128 * 128 ^ acc.length ≤ m * 128 ^ acc.length := Nat.mul_le_mul_right _ (by omega)
        have h7 : (128 : Nat) ^ 9 = 9223372036854775808 := by decide
        omega
      refine ⟨⟨m / 128, acc ++ [UInt8.ofNat (m % 128 + 128)], by simp; omega, rfl, ⟨by omega, ?_, ?_⟩, HO, HB⟩, by simp [intOf]; omega⟩
      · rw [List.append_assoc, List.singleton_append, ← numL_big hlt]
        exact h2
      · rw [List.length_append, List.length_singleton, Nat.pow_succ, Nat.mul_comm _ 128, ← Nat.mul_assoc]
        exact Nat.le_trans (Nat.mul_le_mul_right _ (by omega)) h3

theorem vint_NumI (n : Int) (w : World) (h0 : 0 ≤ n) (hN : n ≤ 9223372036854775807) :
    Calls Try.prog 75 #[.int .i64 n] w fun e w' => e = .returned (.string ⟨(numL n.toNat).toArray⟩) ∧ Below w.heap.size w w' := by
  obtain ⟨m, rfl⟩ := Int.eq_ofNat_of_zero_le h0
  exact vint_Num m w hN
/-- a whole number's bytes -/
def wholeN (z : Int) : Nat := if z < 0 then (-2 * z - 1).toNat else (2 * z).toNat
def wholeL (z : Int) : List UInt8 := numL (wholeN z)
def mayZ (z : Int) : Bool := decide (-4611686018427387904 ≤ z ∧ z ≤ 4611686018427387903)
set_option maxRecDepth 100000 in
set_option maxHeartbeats 1000000 in
theorem vint_may (z : Int) (w : World) : Calls Try.prog 134 #[.int .i64 z] w fun e w' => e = .returned (.bool (mayZ z)) ∧ w' = w := by
  by_cases h1 : -4611686018427387904 ≤ z
  · by_cases h2 : z ≤ 4611686018427387903
    · have E := Aside0.mk (show mayZ z = true from decide_eq_true ⟨h1, h2⟩)
      have t1 : decide (-4611686018427387904 ≤ z) = true := decide_eq_true h1
      have t2 : decide (z ≤ 4611686018427387903) = true := decide_eq_true h2
      clear h1 h2
      go_enter Try.func134, Try.ntmps134
      go_wp2
      go_ret
      exact ⟨by rw [E.out]; rfl, rfl⟩
    · have E := Aside0.mk (show mayZ z = false from decide_eq_false (fun h => h2 h.2))
      have t1 : decide (-4611686018427387904 ≤ z) = true := decide_eq_true h1
      have t2 : decide (z ≤ 4611686018427387903) = false := decide_eq_false h2
      clear h1 h2
      go_enter Try.func134, Try.ntmps134
      go_wp2
      go_ret
      exact ⟨by rw [E.out]; rfl, rfl⟩
  · have E := Aside0.mk (show mayZ z = false from decide_eq_false (fun h => h1 h.1))
    have t1 : decide (-4611686018427387904 ≤ z) = false := decide_eq_false h1
    clear h1
    go_enter Try.func134, Try.ntmps134
    go_wp2
    go_ret
    exact ⟨by rw [E.out]; rfl, rfl⟩
set_option maxRecDepth 100000 in
set_option maxHeartbeats 1000000 in
theorem vint_Whole (z : Int) (w : World) (hz : mayZ z = true) :
    Calls Try.prog 74 #[.int .i64 z] w fun e w' => e = .returned (.string ⟨(wholeL z).toArray⟩) ∧ Below w.heap.size w w' := by
  have hz2 : -4611686018427387904 ≤ z ∧ z ≤ 4611686018427387903 := by simpa [mayZ] using hz
  have HM := Aside0.mk (vint_may z w)
  rw [hz] at HM
  by_cases he : z = -4611686018427387904
  · subst he
    have E := Aside0.mk (show wholeL (-4611686018427387904) = numL 9223372036854775807 by unfold wholeL wholeN; rfl)
    have hn := vint_NumI 9223372036854775807 w (by decide) (by decide)
    rw [show (9223372036854775807 : Int).toNat = 9223372036854775807 from rfl, ← E.out] at hn
    have HN := Aside0.mk hn
    clear hn E hz hz2
    have w1 : wrap64 9223372036854775808 = -9223372036854775808 := by unfold wrap64; omega
    have w2 : IntKind.i64.wrap 9223372036854775808 = -9223372036854775808 := by decide
    have w3 : wrap64 (-9223372036854775809) = 9223372036854775807 := by unfold wrap64; omega
    have w4 : IntKind.i64.wrap (-9223372036854775809) = 9223372036854775807 := by decide
    go_enter Try.func74, Try.ntmps74
    go_wp2_with (first | (go_at_call 134; refine HM.out.mono ?_; rintro e w' ⟨rfl, rfl⟩) | (go_at_call 75; go_must (with_reducible refine HN.out.mono ?_); rintro e w1 ⟨rfl, hb⟩; have HB := Aside0.mk hb; clear hb))
    go_ret
    exact ⟨rfl, HB.out⟩
  by_cases h0 : z < 0
  · have t1 : decide (z < 0) = true := decide_eq_true h0
    have E := Aside0.mk (show wholeL z = numL (-2 * z - 1).toNat by unfold wholeL wholeN; rw [if_pos h0])
    have hn := vint_NumI (-2 * z - 1) w (by omega) (by omega)
    rw [← E.out] at hn
    have HN := Aside0.mk hn
    clear hn E
    have w1 : wrap64 (-2 * z) = -2 * z := IntWalk.wrap64_in (-2 * z) (by omega)
    have w2 : IntKind.i64.wrap (-2 * z) = -2 * z := IntWalk.i64_in (-2 * z) (by omega)
    have w3 : wrap64 (-2 * z - 1) = -2 * z - 1 := IntWalk.wrap64_in (-2 * z - 1) (by omega)
    have w4 : IntKind.i64.wrap (-2 * z - 1) = -2 * z - 1 := IntWalk.i64_in (-2 * z - 1) (by omega)
    clear hz2 hz h0
    go_enter Try.func74, Try.ntmps74
    go_wp2_with (first | (go_at_call 134; refine HM.out.mono ?_; rintro e w' ⟨rfl, rfl⟩) | (go_at_call 75; go_must (with_reducible refine HN.out.mono ?_); rintro e w1 ⟨rfl, hb⟩; have HB := Aside0.mk hb; clear hb))
    go_ret
    exact ⟨rfl, HB.out⟩
  · have t1 : decide (z < 0) = false := decide_eq_false h0
    have E := Aside0.mk (show wholeL z = numL (2 * z).toNat by unfold wholeL wholeN; rw [if_neg h0])
    have hn := vint_NumI (2 * z) w (by omega) (by omega)
    rw [← E.out] at hn
    have HN := Aside0.mk hn
    clear hn E
    have w1 : wrap64 (2 * z) = 2 * z := IntWalk.wrap64_in (2 * z) (by omega)
    have w2 : IntKind.i64.wrap (2 * z) = 2 * z := IntWalk.i64_in (2 * z) (by omega)
    clear hz2 hz h0
    go_enter Try.func74, Try.ntmps74
    go_wp2_with (first | (go_at_call 134; refine HM.out.mono ?_; rintro e w' ⟨rfl, rfl⟩) | (go_at_call 75; go_must (with_reducible refine HN.out.mono ?_); rintro e w1 ⟨rfl, hb⟩; have HB := Aside0.mk hb; clear hb))
    go_ret
    exact ⟨rfl, HB.out⟩

end Go.Proofs.Ytoeipkjpgbdioaa
