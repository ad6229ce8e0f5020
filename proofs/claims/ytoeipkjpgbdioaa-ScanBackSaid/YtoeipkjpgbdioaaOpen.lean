/- What the input says of memory: rows of pairs and of spans. -/
import Derived.Test.YtoeipkjpgbdioaaBase
import Derived.WalkKit
import Derived.OpenShut
import Derived.Deep.SlicePairs
set_option linter.unusedVariables false
namespace Go.Proofs.Ytoeipkjpgbdioaa
open Go.ChangeShapes Go.WideShapes Go.RowKit

section
variable {H : Type} {enc : TypeId × Value → H} {P : Program} {w : World} {base : Nat} {held : Bool}
theorem open_row {α : Type} (mk : Int → Int → α) (encf : α → List Value) (hl : ∀ x, (encf x).length = 2) (h1 : ∀ x, ∀ u ∈ encf x, u.oneCell' = true) (hmk : ∀ a b, encf (mk a b) = [.int .i64 a, .int .i64 b])
    {t e : TypeId} {f0 f1 : Field} {fuel : Nat} {A0 : Option Addr} {len cap : Nat} {y : DataW H × List MemPlace} (ht : P.underlying t = some (.slice e)) (he : P.underlying e = some (.struct #[f0, f1]))
    (ce : P.cellsOf e = 2) (o0 : f0.offset = 0) (o1 : f1.offset = 1) (c0 : P.cellsOf f0.type = 1) (c1 : P.cellsOf f1.type = 1) (i0 : P.underlying f0.type = some (.int .i64)) (i1 : P.underlying f1.type = some (.int .i64))
    (hf : DataW.trod enc P w base (fun _ => true) held fuel t [.slice A0 len cap] = some y) :
    ∃ A c xs, Value.slice A0 len cap = .slice A xs.length c ∧ Sl (flat 2 encf hl h1) w A c xs := by
  rcases Deep.open_slice_pairs ht he ce o0 o1 c0 c1 hf with ⟨hcs, _⟩ | ⟨a, len', cap', m, n, V0, V1, D0, D1, P0, P1, hcs, _, hlc, hcm, hm, _, hall⟩
  · simp at hcs
    obtain ⟨rfl, rfl, rfl⟩ := hcs
    exact ⟨none, 0, [], rfl, Sl.nil _ _ _ _⟩
  · simp at hcs
    obtain ⟨rfl, rfl, rfl⟩ := hcs
    simp at hm
    subst hm
    have key : ∀ i, ∃ q : Int × Int, i < m → w.cell? (a.add (i * 2)) = some (.int .i64 q.1) ∧ w.cell? (a.add (i * 2 + 1)) = some (.int .i64 q.2) := by
      intro i
      by_cases hi : i < m
      · obtain ⟨g0, g1, d0, d1⟩ := hall i hi
        obtain ⟨x, hx, _⟩ := DataW.trod_int i0 d0
        obtain ⟨y, hy, _⟩ := DataW.trod_int i1 d1
        simp only [List.cons.injEq, and_true] at hx hy
        exact ⟨(x, y), fun _ => ⟨by rw [g0, hx], by rw [g1, hy]⟩⟩
      · exact ⟨(0, 0), fun h => absurd h hi⟩
    obtain ⟨q, hq⟩ := Classical.axiomOfChoice key
    have hll : ((List.range len).map fun i => mk (q i).1 (q i).2).length = len := by simp
    refine ⟨some a, m, (List.range len).map fun i => mk (q i).1 (q i).2, by rw [hll], by rw [hll]; exact hlc, ?_⟩
    rw [hll]
    refine ⟨hll, by simp only [maxLen] at hcm; omega, fun _ => ⟨a, rfl, fun j x hj => ?_⟩⟩
    obtain ⟨hj1, rfl⟩ := List.getElem?_eq_some_iff.1 hj
    have hj2 : j < len := by simpa using hj1
    refine ⟨_, hl _, rfl, fun i u hu => ?_⟩
    simp only [List.getElem_map, List.getElem_range, hmk] at hu
    have h2 := hq j (by omega)
    match i, hu with
    | 0, hu => simp at hu; subst hu; exact h2.1
    | 1, hu => simp at hu; subst hu; exact h2.2
    | i + 2, hu => simp at hu
theorem open_two {α : Type} (mk : Int → Int → α) (encf : α → List Value) (hl : ∀ x, (encf x).length = 2) (h1 : ∀ x, ∀ u ∈ encf x, u.oneCell' = true) (hmk : ∀ a b, encf (mk a b) = [.int .i64 a, .int .i64 b])
    {t e : TypeId} {f0 f1 : Field} {r : Reach} {b0 : Nat} {v : Value} {d : DataW H} {p : List MemPlace} (ht : P.underlying t = some (.slice e)) (he : P.underlying e = some (.struct #[f0, f1]))
    (ce : P.cellsOf e = 2) (o0 : f0.offset = 0) (o1 : f1.offset = 1) (c0 : P.cellsOf f0.type = 1) (c1 : P.cellsOf f1.type = 1) (i0 : P.underlying f0.type = some (.int .i64)) (i1 : P.underlying f1.type = some (.int .i64))
    (hv : Value.okWide P w r b0 t v) (h : DataW.Trod enc P w base (fun _ => true) held t v d p) :
    ∃ A c xs, v = .slice A xs.length c ∧ Sl (flat 2 encf hl h1) w A c xs := by
  obtain ⟨A, len, cap, rfl⟩ := okWide_slice ht hv
  obtain ⟨fuel, hf⟩ := h
  exact open_row mk encf hl h1 hmk ht he ce o0 o1 c0 c1 i0 i1 hf
theorem open_pairs {t e : TypeId} {f0 f1 : Field} {r : Reach} {b0 : Nat} {v : Value} {d : DataW H} {p : List MemPlace} (ht : P.underlying t = some (.slice e)) (he : P.underlying e = some (.struct #[f0, f1]))
    (ce : P.cellsOf e = 2) (o0 : f0.offset = 0) (o1 : f1.offset = 1) (c0 : P.cellsOf f0.type = 1) (c1 : P.cellsOf f1.type = 1) (i0 : P.underlying f0.type = some (.int .i64)) (i1 : P.underlying f1.type = some (.int .i64))
    (hv : Value.okWide P w r b0 t v) (h : DataW.Trod enc P w base (fun _ => true) held t v d p) : ∃ A c xs, v = .slice A xs.length c ∧ Sl kPair w A c xs :=
  open_two Pair.mk encPair (fun _ => rfl) (fun _ => one_of rfl) (fun _ _ => rfl) ht he ce o0 o1 c0 c1 i0 i1 hv h
theorem open_spans {t e : TypeId} {f0 f1 : Field} {r : Reach} {b0 : Nat} {v : Value} {d : DataW H} {p : List MemPlace} (ht : P.underlying t = some (.slice e)) (he : P.underlying e = some (.struct #[f0, f1]))
    (ce : P.cellsOf e = 2) (o0 : f0.offset = 0) (o1 : f1.offset = 1) (c0 : P.cellsOf f0.type = 1) (c1 : P.cellsOf f1.type = 1) (i0 : P.underlying f0.type = some (.int .i64)) (i1 : P.underlying f1.type = some (.int .i64))
    (hv : Value.okWide P w r b0 t v) (h : DataW.Trod enc P w base (fun _ => true) held t v d p) : ∃ A c xs, v = .slice A xs.length c ∧ Sl kSpan w A c xs :=
  open_two Span.mk encSpan (fun _ => rfl) (fun _ => one_of rfl) (fun _ _ => rfl) ht he ce o0 o1 c0 c1 i0 i1 hv h
theorem open_int2 {t e : TypeId} {r : Reach} {b0 : Nat} {v : Value} {d : DataW H} {p : List MemPlace} (ht : P.underlying t = some (.array 2 e)) (he : P.underlying e = some (.int .i64)) (ce : P.cellsOf e = 1) (ct : P.cellsOf t = 2)
    (hv : Value.okWide P w r b0 t v) (h : DataW.Trod enc P w base (fun _ => true) held t v d p) : ∃ a b, v = .agg #[.int .i64 a, .int .i64 b] := by
  simp only [Value.okWide, ht] at hv
  obtain ⟨cs, rfl, h2, _⟩ := hv
  obtain ⟨fuel, hf⟩ := h
  obtain ⟨xs, m, _, _, _, hl, hx⟩ := DataW.trod_array ht hf
  rw [ct] at h2
  have g0 := hx 0 (by omega)
  have g1 := hx 1 (by omega)
  rw [List.getElem?_eq_getElem (by omega)] at g0 g1
  obtain ⟨a, ha, _⟩ := DataW.trod_int he g0
  obtain ⟨b, hb, _⟩ := DataW.trod_int he g1
  rw [ce] at ha hb
  refine ⟨a, b, ?_⟩
  obtain ⟨l⟩ := cs
  match l, h2 with
  | [x, y], _ =>
    simp [Value.cells] at ha hb
    rw [ha, hb]
end

end Go.Proofs.Ytoeipkjpgbdioaa
