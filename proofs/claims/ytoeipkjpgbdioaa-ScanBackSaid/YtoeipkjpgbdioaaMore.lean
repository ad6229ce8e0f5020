/- More words on rows of the call's own: append of a whole slice, and the library's Clone. -/
import Derived.Test.YtoeipkjpgbdioaaClip
set_option linter.unusedVariables false
set_option linter.unusedSimpArgs false
namespace Go.Proofs.Ytoeipkjpgbdioaa
open Go.RowKit Go.Shelf Go.Proofs.YtoeipkjpgbdioaaW.PrintWords

section
variable {P : Program} {ops : Array Oper} {rest : List Oper} {o : Oper} {a : Act} {Q : Exit → Act → World → Prop}
theorem own_append_rows {α : Type} {sz : Nat} {enc : α → List Value} {hl : ∀ x, (enc x).length = sz} {h1 : ∀ x, ∀ u ∈ enc x, u.oneCell' = true} {w0 W : World} (base : Nat) (hgd : o.guard = none) (s x : Operand) (t e : TypeId) (z : Value) (bytes : Nat)
    (ho : o.op = .call { callee := .builtin .append, args := #[s, x], argTypes := #[t, t] })
    (ht : P.underlying t = some (.slice e)) (hinfo : (P.info? e).map (fun i => (i.zero, i.size, i.bytes)) = some (some z, sz, bytes)) (hz : z.cells.size = sz) (hs0 : 0 < sz) (hb0 : 0 < bytes)
    (v : Value) (xs ys : List α) (A : Option Addr) (c : Nat) (hs : a.eval s = v) (hx : a.eval x = .slice A ys.length c)
    (HO : Own (flat sz enc hl h1) e W base v xs) (HR : Sl (flat sz enc hl h1) W A c ys)
    (HB : Below base w0 W) (hbase : base ≤ W.heap.size) (hl2 : (xs.length + ys.length) * bytes ≤ 140737488355328)
    (h : ∀ v1 w1, Own (flat sz enc hl h1) e w1 base v1 (xs ++ ys) → Below base w0 w1 → W.heap.size ≤ w1.heap.size → wpList P ops Q rest (a.put o.dst v1) w1) :
    wpList P ops Q (o :: rest) a W :=
  Kd.R_append_rows (flat sz enc hl h1) (Rr := fun x cs => cs = enc x) base hgd s x t e z bytes ho ht hinfo hz hs0 hb0 v xs ys A ys.length c (fun _ => True) (fun _ => False) hs hx HO HR.2 (fun _ _ h => h) (fun _ h => h.elim) (fun _ _ => trivial) HB hbase hl2
    (fun v1 w1 h1 h2 h3 _ => h v1 w1 h1 h2 h3.size)
end
theorem Own.sl2 {α : Type} {d : Kd α} {e : Nat} {w : World} {base : Nat} {B : Option Addr} {c : Nat} {xs : List α} (h : Own d e w base (.slice B xs.length c) xs) : Sl d w B c xs := h.sl'
theorem Own.lit0 {α : Type} (d : Kd α) (e : Nat) (w : World) (base : Nat) (hb : base ≤ w.heap.size) : Own d e (w.alloc (.cells #[] e)) base (.slice (some ⟨w.heap.size, 0, none⟩) 0 0) [] :=
  ⟨fun _ _ => trivial, OwnRow.lit w base (Reps.none _ _) hb (by simp)⟩

set_option maxHeartbeats 2000000 in
/-- Clone_Span: the same list, in memory of the call's own; nil of nil. -/
theorem Clone_Span (A : Option Addr) (c : Nat) (l : List Span) (w : World) (hr : Sl kSpan w A c l) (hbig : l.length ≤ 1000000) :
    Calls Try.prog 140 #[.slice A l.length c] w fun e w' => ∃ v, e = .returned v ∧ Own kSpan 162 w' w.heap.size v l ∧ Below w.heap.size w w' := by
  have HR := Aside0.mk hr
  have q1 : ∀ (w : World) (a : Option Addr) (n c n' c' : Nat), (binOp .eql 48 (.slice a n c) (.slice none n' c')).run Try.prog w = .ok (.bool a.isNone) w := fun w a n c n' c' => Lib.run_eql_slice_nil w _ _ a n c n' c' Try.underlying48
  cases A with
  | none =>
    obtain rfl : l = [] := by
      cases l with
      | nil => rfl
      | cons x l => obtain ⟨ad, e, _⟩ := hr.2.2.2 (by simp); cases e
    clear hr HR
    go_enter Try.func140, Try.ntmps140
    go_wp2
    go_ret
    exact ⟨_, rfl, Own.nil _ _ _ _, Below.refl _ _⟩
  | some ad =>
    have HR2 := Aside0.mk (hr.below (below_alloc (Below.refl _ _) (.cells #[] 162)))
    have HO := Aside0.mk (Own.lit0 kSpan 162 w w.heap.size (Nat.le_refl _))
    have HB := Aside0.mk (below_alloc (Below.refl w.heap.size w) (.cells #[] 162))
    clear hr
    go_enter Try.func140, Try.ntmps140
    go_wp2_with ((at_builtin; go_must (refine own_append_rows (w0 := w) w.heap.size rfl (.tmp 5) (.tmp 6) 48 162 (.agg #[.int .i64 0, .int .i64 0]) 16 rfl Try.underlying48 info162 rfl (by decide) (by omega) (.slice (some ⟨w.heap.size, 0, none⟩) 0 0) [] l (some ad) c rfl rfl HO.out HR2.out HB.out (by simp) (by simp; omega) ?_); intro v1 w1 ho hb hs; have HO1 := Aside0.mk ho; have HB1 := Aside0.mk hb; clear ho hb))
    go_ret
    exact ⟨_, rfl, HO1.out, HB1.out⟩

end Go.Proofs.Ytoeipkjpgbdioaa
