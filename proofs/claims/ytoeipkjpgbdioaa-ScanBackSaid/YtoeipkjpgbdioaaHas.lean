/- Whether spans have a key: span.Has with its closure and the library's ContainsFunc, and the reference's. -/
import Derived.Test.YtoeipkjpgbdioaaChecks2
import Derived.Shelf.Abstract
set_option linter.unusedVariables false
set_option linter.unusedSimpArgs false
namespace Go.Proofs.Ytoeipkjpgbdioaa
open Go.RowKit Go.Shelf Go.Proofs.YtoeipkjpgbdioaaW.PrintWords

def ixOf {α : Type} (p : α → Bool) (l : List α) : Int := match l.findIdx? p with | some i => (i : Int) | none => -1
theorem ixOf_hit {α : Type} {p : α → Bool} {l : List α} {k : Nat} (hk : k < l.length) (h : p l[k] = true) (hn : ∀ j (hj : j < k), p (l[j]'(by omega)) = false) : ixOf p l = (k : Int) := by
  have e : l.findIdx? p = some k := by
    rw [List.findIdx?_eq_some_iff_getElem]
    exact ⟨hk, h, fun j hj => by simp [hn j hj]⟩
  unfold ixOf
  rw [e]
theorem ixOf_miss {α : Type} {p : α → Bool} {l : List α} (hn : ∀ j (hj : j < l.length), p l[j] = false) : ixOf p l = -1 := by
  have e : l.findIdx? p = none := by
    rw [List.findIdx?_eq_none_iff]
    intro x hx
    obtain ⟨i, hi, rfl⟩ := List.getElem_of_mem hx
    exact hn i hi
  unfold ixOf
  rw [e]
theorem ixOf_any {α : Type} (p : α → Bool) (l : List α) : decide (0 ≤ ixOf p l) = l.any p := by
  unfold ixOf
  cases e : l.findIdx? p with
  | none =>
    rw [List.findIdx?_eq_none_iff] at e
    symm
    simpa using e
  | some i =>
    rw [List.findIdx?_eq_some_iff_getElem] at e
    obtain ⟨hi, hp, _⟩ := e
    have : l.any p = true := List.any_eq_true.2 ⟨l[i], by simp, hp⟩
    rw [this]
    simp

def inSpan (k : Int) (s : Span) : Bool := oneSpan s && decide (s.lo ≤ k) && decide (k < s.hi)
def has (l : List Span) (k : Int) : Bool := l.any (inSpan k)

set_option maxHeartbeats 2000000 in
/-- IndexFunc_Span: the first place where a predicate holds, or -1. -/
theorem IndexFunc_Span (A : Option Addr) (c : Nat) (l : List Span) (p : Span → Bool) (g : Nat) (cb : Array Value) (eg : ∀ args w, (callFunc g args).run Try.prog w = .ok (.enter g args) w) (w : World) (hr : Sl kSpan w A c l)
    (hp : ∀ x W, Below w.heap.size w W → Calls Try.prog g (#[.agg #[.int .i64 <| Span.lo x, .int .i64 <| Span.hi x]] ++ cb) W fun e w' => e = .returned (.bool (p x)) ∧ Below W.heap.size W w') :
    Calls Try.prog 172 #[.slice A l.length c, .func (.func g) #[] cb] w fun e w' => e = .returned (.int .i64 (ixOf p l)) ∧ Below w.heap.size w w' := by
  have HR := Aside0.mk hr
  have HP := Aside0.mk hp
  have hm := hr.max
  clear hr hp
  go_enter Try.func172, Try.ntmps172
  go_wp2
  go_loopw [5, 8] (fun _ i wr => ∃ k : Nat, k ≤ l.length ∧ i = .int .i64 k ∧ Aside0 (∀ j (h : j < l.length), j < k → p l[j] = false) ∧ Aside0 (Below w.heap.size w wr)) (fun _ i _ => l.length - (intOf i).toNat)
  case atStart => exact ⟨0, by omega, rfl, ⟨fun j _ h => by omega⟩, ⟨Below.refl _ _⟩⟩
  case round =>
    obtain ⟨k, hk, rfl, hI, hB⟩ := hrel
    by_cases hlt : k < l.length
    · obtain ⟨ad, rfl, c0, c1⟩ := span_at (HR.out.below hB.out) k hlt
      have h0 := HP.out l[k] wr hB.out
      cases e1 : p l[k] with
      | true =>
        rw [e1] at h0
        have h1 := Aside0.mk h0
        have hf := Aside0.mk (ixOf_hit hlt e1 (fun j hj => hI.out j (by omega) hj))
        clear h0 e1
        go_wp2_with (go_at_fn g; refine h1.out.mono ?_; rintro e w' ⟨rfl, hb'⟩)
        go_ret
        exact ⟨by rw [hf.out]; rfl, below_then hB.out hB.out.size hb'⟩
      | false =>
        rw [e1] at h0
        have h1 := Aside0.mk h0
        have hn : Aside0 (∀ j (h : j < l.length), j < k + 1 → p l[j] = false) := ⟨fun j h hj => by
          by_cases e : j = k
          · subst e; exact e1
          · exact hI.out j h (by omega)⟩
        clear h0 e1
        go_wp2_with (go_at_fn g; refine h1.out.mono ?_; rintro e w' ⟨rfl, hb'⟩)
        go_roundw
        case rel => exact ⟨k + 1, by omega, by go_num, hn, ⟨below_then hB.out hB.out.size hb'⟩⟩
        case measure => simp [intOf]; omega
    · have hf := Aside0.mk (ixOf_miss (p := p) (l := l) (fun j hj => hI.out j hj (by omega)))
      go_wp2
      go_ret
      exact ⟨by rw [hf.out]; rfl, hB.out⟩

set_option maxHeartbeats 2000000 in
/-- ContainsFunc_Span: whether a predicate holds of some element. -/
theorem ContainsFunc_Span (A : Option Addr) (c : Nat) (l : List Span) (p : Span → Bool) (g : Nat) (cb : Array Value) (eg : ∀ args w, (callFunc g args).run Try.prog w = .ok (.enter g args) w) (w : World) (hr : Sl kSpan w A c l)
    (hp : ∀ x W, Below w.heap.size w W → Calls Try.prog g (#[.agg #[.int .i64 <| Span.lo x, .int .i64 <| Span.hi x]] ++ cb) W fun e w' => e = .returned (.bool (p x)) ∧ Below W.heap.size W w') :
    Calls Try.prog 144 #[.slice A l.length c, .func (.func g) #[] cb] w fun e w' => e = .returned (.bool (l.any p)) ∧ Below w.heap.size w w' := by
  have H := Aside0.mk (IndexFunc_Span A c l p g cb eg w hr hp)
  have hix := Aside0.mk (ixOf_any p l)
  clear hr hp eg
  go_enter Try.func144, Try.ntmps144
  go_wp2_with (go_at_call 172; refine H.out.mono ?_; rintro e w' ⟨rfl, hb⟩)
  go_ret
  exact ⟨by rw [← hix.out]; rfl, hb⟩

set_option maxHeartbeats 2000000 in
theorem span_Has_1 (s : Span) (k : Int) (b : Nat) (w : World) (hk : w.cell? ⟨b, 0, none⟩ = some (.int .i64 k)) (hbl : b < w.heap.size) :
    Calls Try.prog 145 #[.agg #[.int .i64 s.lo, .int .i64 s.hi], .pointer (some ⟨b, 0, none⟩)] w fun e w' => e = .returned (.bool (inSpan k s)) ∧ Below w.heap.size w w' := by
  have c0 := later hk (.cells #[.int .i64 s.lo, .int .i64 s.hi] 162)
  have HO := Aside0.mk (span_One s (w.alloc (.cells #[.int .i64 s.lo, .int .i64 s.hi] 162)))
  clear hk
  cases h1 : oneSpan s with
  | false =>
    have E := Aside0.mk (show inSpan k s = false by simp [inSpan, h1])
    rw [h1] at HO
    go_enter Try.func145, Try.ntmps145
    go_wp2_with (go_at_call 143; refine HO.out.mono ?_; rintro e w' ⟨rfl, hb⟩)
    go_ret
    exact ⟨by rw [E.out]; rfl, below_then (below_alloc (Below.refl _ _) _) (by simp) hb⟩
  | true =>
    rw [h1] at HO
    have b0 : ∀ w', Below (w.alloc (.cells #[.int .i64 s.lo, .int .i64 s.hi] 162)).heap.size (w.alloc (.cells #[.int .i64 s.lo, .int .i64 s.hi] 162)) w' → w'.cell? ⟨w.heap.size, 0, none⟩ = some (.int .i64 s.lo) ∧ w'.cell? ⟨w.heap.size, 1, none⟩ = some (.int .i64 s.hi) ∧ w'.cell? ⟨b, 0, none⟩ = some (.int .i64 k) :=
      fun w' hb => ⟨pw_cell_below hb (by simp), pw_cell_below hb (by simp), pw_cell_below hb c0⟩
    have B0 := Aside0.mk b0
    clear b0
    rcases Decidable.em (¬ (s.lo ≤ k)) with hd0 | hd0
    · have d0 : decide (s.lo ≤ k) = false := decide_eq_false hd0
      have E := Aside0.mk (show inSpan k s = false by simp [inSpan]; omega)
      go_enter Try.func145, Try.ntmps145
      go_wp2_with (go_at_call 143; refine HO.out.mono ?_; rintro e w' ⟨rfl, hb⟩; obtain ⟨x0, x1, x2⟩ := B0.out w' hb)
      go_ret
      exact ⟨by rw [E.out]; rfl, below_then (below_alloc (Below.refl _ _) _) (by simp) hb⟩
    · replace hd0 := Decidable.not_not.1 hd0
      have d0 : decide (s.lo ≤ k) = true := decide_eq_true hd0
      rcases Decidable.em (¬ (k < s.hi)) with hd1 | hd1
      · have d1 : decide (k < s.hi) = false := decide_eq_false hd1
        have E := Aside0.mk (show inSpan k s = false by simp [inSpan]; omega)
        go_enter Try.func145, Try.ntmps145
        go_wp2_with (go_at_call 143; refine HO.out.mono ?_; rintro e w' ⟨rfl, hb⟩; obtain ⟨x0, x1, x2⟩ := B0.out w' hb)
        go_ret
        exact ⟨by rw [E.out]; rfl, below_then (below_alloc (Below.refl _ _) _) (by simp) hb⟩
      · replace hd1 := Decidable.not_not.1 hd1
        have d1 : decide (k < s.hi) = true := decide_eq_true hd1
        have E := Aside0.mk (show inSpan k s = true by simp [inSpan, h1]; omega)
        go_enter Try.func145, Try.ntmps145
        go_wp2_with (go_at_call 143; refine HO.out.mono ?_; rintro e w' ⟨rfl, hb⟩; obtain ⟨x0, x1, x2⟩ := B0.out w' hb)
        go_ret
        exact ⟨by rw [E.out]; rfl, below_then (below_alloc (Below.refl _ _) _) (by simp) hb⟩

set_option maxHeartbeats 2000000 in
theorem span_Has (A : Option Addr) (c : Nat) (l : List Span) (k : Int) (w : World) (hr : Sl kSpan w A c l) :
    Calls Try.prog 107 #[.slice A l.length c, .int .i64 k] w fun e w' => e = .returned (.bool (has l k)) ∧ Below w.heap.size w w' := by
  have hb0 := below_alloc (Below.refl w.heap.size w) (.cells #[.int .i64 k] 3)
  have H := Aside0.mk (ContainsFunc_Span A c l (inSpan k) 145 #[.pointer (some ⟨w.heap.size, 0, none⟩)] (enters_of Try.func145 (by kernel_rfl) rfl) (w.alloc (.cells #[.int .i64 k] 3)) (hr.below hb0)
    (fun x W hW => span_Has_1 x k w.heap.size W (pw_cell_below hW (by simp)) (by have := hW.size; simp at this; omega)))
  clear hr hb0
  go_enter Try.func107, Try.ntmps107
  go_wp2_with (go_at_call 144; refine H.out.mono ?_; rintro e w' ⟨rfl, hb⟩)
  go_ret
  exact ⟨rfl, below_then (below_alloc (Below.refl _ _) _) (by simp) hb⟩

end Go.Proofs.Ytoeipkjpgbdioaa
