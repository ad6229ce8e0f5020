/- Words on bits: masks and disjoint sums. -/
import Derived.Test.YtoeipkjpgbdioaaProg
import Derived.Laws.BitsLemmas
import Derived.RowKit
set_option linter.unusedVariables false
namespace Go.Proofs.Ytoeipkjpgbdioaa
open Go.RowKit
theorem wraps_i64 (n : Int) (h₀ : 0 ≤ n) (h₁ : n < 2 ^ 63) : IntKind.i64.wrap n = n := by rw [IntKind.wrap_i64]; omega
theorem and127_i64 (m : Nat) (h : m < 2 ^ 63) : bits .and .i64 (m : Int) 127 = ((m % 128 : Nat) : Int) := by
  rw [show (127 : Int) = 2 ^ 7 - 1 by decide, bits_mask .i64 63 (by decide) wraps_i64 7 (by decide) m (by omega) (by exact_mod_cast h)]
  simp
theorem and1_i64 (m : Nat) (h : m < 2 ^ 63) : bits .and .i64 (m : Int) 1 = ((m % 2 : Nat) : Int) := by
  have := bits_mask .i64 63 (by decide) wraps_i64 1 (by decide) m (by omega) (by exact_mod_cast h)
  simpa using this
theorem or128_u8 (x : Nat) (h : x < 128) : bits .or .u8 (x : Int) 128 = ((x + 128 : Nat) : Int) := by
  have h1 := (bits_nat .u8 8 (by decide) wraps_u8 x 128 (by omega) (by decide)).2
  rw [show ((128 : Nat) : Int) = 128 from rfl] at h1
  rw [h1, Nat.or_comm]
  have h2 := Nat.two_pow_add_eq_or_of_lt (i := 7) (b := x) (by omega) 1
  simp at h2
  rw [← h2]
  omega
theorem and127_u8 (x : Nat) (h : x < 256) : bits .and .u8 (x : Int) 127 = ((x % 128 : Nat) : Int) := by
  rw [show (127 : Int) = 2 ^ 7 - 1 by decide, bits_mask .u8 8 (by decide) wraps_u8 7 (by decide) x (by omega) (by exact_mod_cast h)]
  simp
/-- a number with a group behind it -/
theorem or_group (n b i : Nat) (hn : n < 128 ^ i) (hb : b < 128) (hi : i ≤ 8) : bits .or .i64 (n : Int) ((b * 128 ^ i : Nat) : Int) = ((n + b * 128 ^ i : Nat) : Int) := by
  have hp : 128 ^ i = 2 ^ (7 * i) := by rw [Nat.pow_mul]
  rw [hp] at hn ⊢
  have hle : 2 ^ (7 * i) ≤ 2 ^ 56 := Nat.pow_le_pow_right (by decide) (by omega)
  have hbm : b * 2 ^ (7 * i) < 2 ^ 63 := by
    calc b * 2 ^ (7 * i) ≤ 127 * 2 ^ 56 := Nat.mul_le_mul (by omega) hle
      _ < 2 ^ 63 := by decide
  have h1 := (bits_nat .i64 63 (by decide) wraps_i64 n (b * 2 ^ (7 * i)) (by omega) hbm).2
  rw [h1, Nat.or_comm, Nat.mul_comm, ← Nat.two_pow_add_eq_or_of_lt hn b]
  congr 1
  omega
theorem shl_group (b i : Nat) (hb : b < 128) (hi : i ≤ 8) : IntKind.i64.wrap ((b : Int) * 2 ^ (7 * i)) = ((b * 128 ^ i : Nat) : Int) := by
  have hp : 128 ^ i = 2 ^ (7 * i) := by rw [Nat.pow_mul]
  have hle : 2 ^ (7 * i) ≤ 2 ^ 56 := Nat.pow_le_pow_right (by decide) (by omega)
  have hbm : b * 2 ^ (7 * i) < 2 ^ 63 := by
    calc b * 2 ^ (7 * i) ≤ 127 * 2 ^ 56 := Nat.mul_le_mul (by omega) hle
      _ < 2 ^ 63 := by decide
  rw [hp, show ((b : Int) * 2 ^ (7 * i)) = ((b * 2 ^ (7 * i) : Nat) : Int) by push_cast; rfl]
  exact wraps_i64 _ (by omega) (by exact_mod_cast hbm)

end Go.Proofs.Ytoeipkjpgbdioaa
