/- vint: what is written is read. -/
import Derived.Test.YtoeipkjpgbdioaaRdNum
set_option linter.unusedVariables false
set_option linter.unusedSimpArgs false
namespace Go.Proofs.Ytoeipkjpgbdioaa
open Go.RowKit Go.Shelf Go.Proofs.YtoeipkjpgbdioaaW.PrintWords Go.Proofs.YtoeipkjpgbdioaaW.PrintLast

theorem u8_back (b : UInt8) : UInt8.ofNat b.toNat = b := by simp
theorem rd_some : ∀ (l : List UInt8) (i n v : Nat) (r : List UInt8), rd i n l = some (v, r) → i ≤ 9 → ∃ m, v = n + m * 128 ^ i ∧ l = numL m ++ r ∧ m < 128 ^ (9 - i) ∧ (0 < i → 0 < m) := by
  intro l
  induction l with
  | nil => intro i n v r h; simp [rd] at h
  | cons b t ih =>
    intro i n v r h hi
    rw [rd] at h
    by_cases h1 : i = 9 ∨ (0 < i ∧ b.toNat = 0)
    · rw [if_pos h1] at h; simp at h
    · rw [if_neg h1] at h
      have hi8 : i ≤ 8 := by omega
      obtain ⟨q, hq⟩ : ∃ q, 9 - i = q + 1 := ⟨8 - i, by omega⟩
      by_cases h2 : b.toNat < 128
      · rw [if_pos h2] at h
        simp at h
        obtain ⟨rfl, rfl⟩ := h
        refine ⟨b.toNat, rfl, ?_, ?_, by omega⟩
        · rw [numL_small h2, u8_back]; rfl
        · rw [hq, Nat.pow_succ]
          have := Nat.one_le_two_pow (n := 7 * q)
          rw [show (2 : Nat) ^ (7 * q) = 128 ^ q by rw [Nat.pow_mul]] at this
          omega
      · rw [if_neg h2] at h
        obtain ⟨m, hv, hl, hm, hp⟩ := ih _ _ _ _ h (by omega)
        have hb := b.toNat_lt
        have hp2 := hp (by omega)
        have hmod : (b.toNat % 128 + 128 * m) % 128 = b.toNat % 128 := by omega
        have hdiv : (b.toNat % 128 + 128 * m) / 128 = m := by omega
        refine ⟨b.toNat % 128 + 128 * m, ?_, ?_, ?_, by omega⟩
        · rw [hv, Nat.pow_succ, Nat.add_mul, Nat.add_assoc]
          congr 2
          rw [Nat.mul_comm (128 ^ i), ← Nat.mul_assoc, Nat.mul_comm m]
        · rw [numL_big (by omega), hmod, hdiv, hl]
          have : b.toNat % 128 + 128 = b.toNat := by omega
          rw [this, u8_back]
          rfl
        · rw [hq, Nat.pow_succ]
          have : 9 - (i + 1) = q := by omega
          rw [this] at hm
          omega
theorem rd_num (m : Nat) : ∀ (i n : Nat) (r : List UInt8), i ≤ 8 → m < 128 ^ (9 - i) → (0 < i → 0 < m) → rd i n (numL m ++ r) = some (n + m * 128 ^ i, r) := by
  induction m using Nat.strongRecOn with
  | ind m ih =>
    intro i n r hi hm hp
    by_cases h : m < 128
    · rw [numL_small h, List.singleton_append, rd]
      have hb : (UInt8.ofNat m).toNat = m := by simp; omega
      rw [hb, if_neg (by omega), if_pos h]
    · rw [numL_big h, List.cons_append, rd]
      have hb : (UInt8.ofNat (m % 128 + 128)).toNat = m % 128 + 128 := by simp; omega
      rw [hb, if_neg (by omega), if_neg (by omega)]
      obtain ⟨q, hq⟩ : ∃ q, 9 - i = q + 1 := ⟨8 - i, by omega⟩
      rw [hq, Nat.pow_succ] at hm
      have hq0 : q ≠ 0 := by intro e; subst e; simp at hm; omega
      have hd : m / 128 < 128 ^ (9 - (i + 1)) := by
        rw [show 9 - (i + 1) = q by omega]
        exact Nat.div_lt_of_lt_mul (by rw [Nat.mul_comm]; exact hm)
      rw [ih (m / 128) (by omega) (i + 1) _ r (by omega) hd (by omega)]
      congr 2
      rw [Nat.pow_succ, Nat.add_assoc, Nat.mul_comm (128 ^ i), ← Nat.mul_assoc, ← Nat.add_mul]
      congr 2
      omega

theorem numR_written {m : Nat} (h : m < 9223372036854775808) (r : List UInt8) : numR (numL m ++ r) 0 = ((m : Int), r, 0) := by
  apply numR_some
  rw [rd_num m 0 0 r (by omega) (by rw [show (128 : Nat) ^ (9 - 0) = 9223372036854775808 by decide]; exact h) (by omega)]
  simp
/-- What a read leaves: nothing read and an error, or a number's bytes. -/
theorem numR_cases (l : List UInt8) (e : Int) : ((numR l e).2.2 ≠ 0 ∧ (numR l e).1 = 0) ∨ (e = 0 ∧ ∃ m : Nat, m < 9223372036854775808 ∧ numR l e = ((m : Int), (numR l e).2.1, 0) ∧ l = numL m ++ (numR l e).2.1) := by
  by_cases he : e = 0
  · subst he
    cases h : rd 0 0 l with
    | none => left; rw [numR_none h]; constructor <;> simp <;> split <;> decide
    | some p =>
      obtain ⟨v, r⟩ := p
      right
      obtain ⟨m, hv, hl, hm, _⟩ := rd_some _ _ _ _ _ h (by omega)
      rw [numR_some h]
      refine ⟨rfl, m, by rw [show (128 : Nat) ^ (9 - 0) = 9223372036854775808 by decide] at hm; exact hm, ?_, hl⟩
      rw [hv]; simp
  · left; rw [numR_err he]; exact ⟨he, rfl⟩
theorem numR_nat (l : List UInt8) (e : Int) : ∃ m : Nat, m < 9223372036854775808 ∧ (numR l e).1 = (m : Int) := by
  rcases numR_cases l e with ⟨_, h⟩ | ⟨_, m, hm, h, _⟩
  · exact ⟨0, by decide, h⟩
  · exact ⟨m, hm, by rw [h]⟩
theorem numR_less (l : List UInt8) (e : Int) : (numR l e).2.1.length ≤ l.length := by
  rcases numR_cases l e with ⟨h1, _⟩ | ⟨_, m, _, _, h⟩
  · by_cases he : e = 0
    · subst he
      cases h : rd 0 0 l with
      | none => rw [numR_none h]; simp
      | some p => rw [numR_some h] at h1; exact absurd rfl h1
    · rw [numR_err he]; exact Nat.le_refl _
  · have := congrArg List.length h
    rw [List.length_append] at this
    omega
/-- a whole number of a number -/
def zOf (v : Int) : Int := if v % 2 = 1 then -(v / 2) - 1 else v / 2
theorem zOf_wholeN (z : Int) : zOf (wholeN z : Int) = z := by unfold zOf wholeN; split <;> split <;> omega
theorem wholeN_zOf (m : Nat) : wholeN (zOf m) = m := by unfold zOf wholeN; split <;> split <;> omega

set_option maxRecDepth 100000 in
set_option maxHeartbeats 2000000 in
theorem vint_rdWhole (g : Nat) (l : List UInt8) (e : Int) (w : World) (h : Rd g l e w) (hl : l.length ≤ 100000000) :
    Calls Try.prog 86 #[.pointer (some ⟨g, 0, none⟩)] w fun r w' => r = .returned (.int .i64 (zOf (numR l e).1)) ∧ Rd g (numR l e).2.1 (numR l e).2.2 w' ∧ RK g w w' := by
  have hn := vint_rdNum g l e w h hl
  obtain ⟨m, hm, hme⟩ := numR_nat l e
  rw [hme] at hn ⊢
  have HN := Aside0.mk hn
  have b1 : bits .and .i64 (m : Int) 1 = (m : Int) % 2 := by rw [and1_i64 m (by omega)]; rfl
  clear hn hme
  by_cases h2 : m % 2 = 1
  · have t1 : ((m : Int) % 2 == 1) = true := by simp; omega
    have E := Aside0.mk (show zOf m = -((m : Int) / 2) - 1 by unfold zOf; rw [if_pos (by omega)])
    have w1 : wrap64 (-((m : Int) / 2)) = -((m : Int) / 2) := IntWalk.wrap64_in _ (by omega)
    have w2 : wrap64 (-((m : Int) / 2) - 1) = -((m : Int) / 2) - 1 := IntWalk.wrap64_in _ (by omega)
    clear h2
    go_enter Try.func86, Try.ntmps86
    go_wp2_with (go_at_call 108; with_reducible refine HN.out.mono ?_; rintro r w' ⟨rfl, hr1, hk1⟩; have HR1 := Aside0.mk hr1; have HK1 := Aside0.mk hk1; clear hr1 hk1)
    go_ret
    rw [E.out]
    exact ⟨rfl, HR1.out, HK1.out⟩
  · have t1 : ((m : Int) % 2 == 1) = false := by simp; omega
    have E := Aside0.mk (show zOf m = (m : Int) / 2 by unfold zOf; rw [if_neg (by omega)])
    clear h2
    go_enter Try.func86, Try.ntmps86
    go_wp2_with (go_at_call 108; with_reducible refine HN.out.mono ?_; rintro r w' ⟨rfl, hr1, hk1⟩; have HR1 := Aside0.mk hr1; have HK1 := Aside0.mk hk1; clear hr1 hk1)
    go_ret
    rw [E.out]
    exact ⟨rfl, HR1.out, HK1.out⟩

end Go.Proofs.Ytoeipkjpgbdioaa
