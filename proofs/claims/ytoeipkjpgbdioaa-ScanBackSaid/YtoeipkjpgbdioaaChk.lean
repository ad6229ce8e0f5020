/- Lists whose members are each good and whose neighbours fit: what a loop that checks a list finds. Plain lemmas. -/
import Derived.Test.YtoeipkjpgbdioaaBase
set_option linter.unusedVariables false
set_option linter.unusedSimpArgs false
namespace Go.Proofs.Ytoeipkjpgbdioaa

def chk {α : Type} (ok : α → Bool) (R : α → α → Bool) : List α → Bool
  | [] => true
  | [a] => ok a
  | a :: b :: l => ok a && R a b && chk ok R (b :: l)

theorem chk_iff {α : Type} (ok : α → Bool) (R : α → α → Bool) : ∀ l : List α, chk ok R l = true ↔ (∀ i (h : i < l.length), ok l[i] = true) ∧ (∀ i (h : i + 1 < l.length), R l[i] l[i+1] = true)
  | [] => by simp [chk]
  | [a] => by simp [chk]
  | a :: b :: l => by
    rw [chk, Bool.and_eq_true, Bool.and_eq_true, chk_iff ok R (b :: l)]
    constructor
    · rintro ⟨⟨h1, h2⟩, h3, h4⟩
      refine ⟨fun i h => ?_, fun i h => ?_⟩
      · cases i with
        | zero => exact h1
        | succ i => exact h3 i (by simpa using h)
      · cases i with
        | zero => exact h2
        | succ i => exact h4 i (by simpa using h)
    · rintro ⟨h1, h2⟩
      exact ⟨⟨h1 0 (by simp), h2 0 (by simp)⟩, fun i h => h1 (i + 1) (by simpa using h), fun i h => h2 (i + 1) (by simpa using h)⟩

/-- What a loop has found behind k rounds, all well. -/
def upto {α : Type} (ok : α → Bool) (R : α → α → Bool) (l : List α) (k : Nat) : Prop :=
  (∀ i (h : i < l.length), i < k → ok l[i] = true) ∧ (∀ i (h : i + 1 < l.length), i + 1 < k → R l[i] l[i+1] = true)

theorem upto_zero {α : Type} (ok : α → Bool) (R : α → α → Bool) (l : List α) : upto ok R l 0 := ⟨fun _ _ h => by omega, fun _ _ h => by omega⟩
theorem upto_next {α : Type} {ok : α → Bool} {R : α → α → Bool} {l : List α} {k : Nat} (h : upto ok R l k) (hk : k < l.length) (h1 : ok l[k] = true) (h2 : ∀ j (hj : j + 1 = k), R (l[j]'(by omega)) l[k] = true) : upto ok R l (k + 1) := by
  refine ⟨fun i hi hik => ?_, fun i hi hik => ?_⟩
  · by_cases e : i = k
    · subst e; exact h1
    · exact h.1 i hi (by omega)
  · by_cases e : i + 1 = k
    · subst e; exact h2 i rfl
    · exact h.2 i hi (by omega)
theorem upto_all {α : Type} {ok : α → Bool} {R : α → α → Bool} {l : List α} {k : Nat} (h : upto ok R l k) (hk : l.length ≤ k) : chk ok R l = true :=
  (chk_iff _ _ _).2 ⟨fun i hi => h.1 i hi (by omega), fun i hi => h.2 i hi (by omega)⟩
theorem chk_bad {α : Type} {ok : α → Bool} {R : α → α → Bool} {l : List α} (k : Nat) (hk : k < l.length) (h : ok l[k] = false) : chk ok R l = false := by
  cases e : chk ok R l with
  | false => rfl
  | true => rw [((chk_iff _ _ _).1 e).1 k hk] at h; cases h
theorem chk_far {α : Type} {ok : α → Bool} {R : α → α → Bool} {l : List α} (k : Nat) (hk : k + 1 < l.length) (h : R l[k] l[k+1] = false) : chk ok R l = false := by
  cases e : chk ok R l with
  | false => rfl
  | true => rw [((chk_iff _ _ _).1 e).2 k hk] at h; cases h

/-! ### tables, sets, turns -/
def okPair (p : Pair) : Bool := decide (0 ≤ p.key ∧ p.key < 4096 ∧ -1099511627776 ≤ p.val ∧ p.val ≤ 1099511627776)
def ltPair (p q : Pair) : Bool := decide (p.key < q.key)
def isTable (l : List Pair) : Bool := chk okPair ltPair l
def oneSpan (s : Span) : Bool := decide (0 ≤ s.lo ∧ s.lo < s.hi ∧ s.hi ≤ 4096)
def ltSpan (s t : Span) : Bool := decide (s.hi < t.lo)
def isSet (l : List Span) : Bool := chk oneSpan ltSpan l && decide (l.length ≤ 64)
def okCell (c : Cell) : Bool := if c.some then decide (-1099511627776 ≤ c.val ∧ c.val ≤ 1099511627776) else decide (c.val = 0)
def okTurn (t : Turn) : Bool := decide (0 ≤ t.key ∧ t.key < 4096) && okCell t.was && okCell t.is && !decide (t.was = t.is)
def ltTurn (t u : Turn) : Bool := decide (t.key < u.key)
def isTurns (l : List Turn) : Bool := chk okTurn ltTurn l

end Go.Proofs.Ytoeipkjpgbdioaa
