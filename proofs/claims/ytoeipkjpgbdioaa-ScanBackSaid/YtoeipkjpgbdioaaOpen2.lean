/- What the input says of memory: a cursor, turns, mutations .. -/
import Derived.Test.YtoeipkjpgbdioaaOpen
set_option linter.unusedVariables false
namespace Go.Proofs.Ytoeipkjpgbdioaa
open Go.ChangeShapes Go.WideShapes Go.RowKit

section
variable {H : Type} {enc : TypeId × Value → H} {P : Program} {w : World} {base : Nat} {held : Bool}
theorem open_cursor {t e : TypeId} {f0 f1 f2 g0 g1 : Field} {r : Reach} {b0 : Nat} {v : Value} {d : DataW H} {p : List MemPlace} (ht : P.underlying t = some (.struct #[f0, f1, f2]))
    (o0 : f0.offset = 0) (o1 : f1.offset = 1) (o2 : f2.offset = 2) (ct : P.cellsOf t = 3) (c0 : P.cellsOf f0.type = 1) (c1 : P.cellsOf f1.type = 1) (c2 : P.cellsOf f2.type = 1)
    (u0 : P.underlying f0.type = some (.slice e)) (u1 : P.underlying f1.type = some (.int .i64)) (u2 : P.underlying f2.type = some (.int .i64))
    (he : P.underlying e = some (.struct #[g0, g1])) (ce : P.cellsOf e = 2) (p0 : g0.offset = 0) (p1 : g1.offset = 1) (k0 : P.cellsOf g0.type = 1) (k1 : P.cellsOf g1.type = 1) (i0 : P.underlying g0.type = some (.int .i64)) (i1 : P.underlying g1.type = some (.int .i64))
    (hv : Value.okWide P w r b0 t v) (h : DataW.Trod enc P w base (fun _ => true) held t v d p) :
    ∃ A c x, v = .agg #[.slice A (Cursor.on x).length c, .int .i64 x.after, .int .i64 x.limit] ∧ Sl kSpan w A c x.on := by
  obtain ⟨cs, rfl, hcs⟩ := okWide_struct ht hv
  obtain ⟨fuel, hf⟩ := h
  obtain ⟨xs, m, _, _, hl, hx, hfs⟩ := DataW.trod_struct ht hf
  obtain ⟨l⟩ := cs
  rw [ct] at hcs
  match l, hcs with
  | [a, b, c], _ =>
    have q0 := hfs 0 f0 rfl
    have q1 := hfs 1 f1 rfl
    have q2 := hfs 2 f2 rfl
    simp only [Value.cells, o0, o1, o2, c0, c1, c2, List.drop_zero, List.take_succ_cons, List.take_zero, List.drop_succ_cons] at q0 q1 q2
    rw [List.getElem?_eq_getElem (by simp at hx; omega)] at q0 q1 q2
    obtain ⟨y, hy, _⟩ := DataW.trod_int u1 q1
    obtain ⟨z, hz, _⟩ := DataW.trod_int u2 q2
    simp only [List.cons.injEq, and_true] at hy hz
    subst hy hz
    have hs : ∃ A c xs, a = .slice A xs.length c ∧ Sl kSpan w A c xs := by
      rcases DataW.trod_slice u0 q0 with ⟨e0, _⟩ | ⟨ad, len, cap, _, _, _, _, e0, _⟩
      · simp only [List.cons.injEq, and_true] at e0
        subst e0
        exact ⟨none, 0, [], rfl, Sl.nil _ _ _ _⟩
      · simp only [List.cons.injEq, and_true] at e0
        subst e0
        exact open_row Span.mk encSpan (fun _ => rfl) (fun _ => one_of rfl) (fun _ _ => rfl) u0 he ce p0 p1 k0 k1 i0 i1 q0
    obtain ⟨A, n, xs, rfl, hS⟩ := hs
    exact ⟨A, n, ⟨xs, y, z⟩, rfl, hS⟩

end
end Go.Proofs.Ytoeipkjpgbdioaa
