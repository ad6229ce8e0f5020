/- Words: the boxes of a call's own parameters, ahead of its first call. -/
import Derived.Test.YtoeipkjpgbdioaaMore
set_option linter.unusedVariables false
set_option linter.unusedSimpArgs false
namespace Go.Proofs.Ytoeipkjpgbdioaa
open Go.RowKit Go.Shelf Go.Proofs.YtoeipkjpgbdioaaW.PrintWords

theorem calls_box1 {P : Program} {f : FuncId} {args : Array Value} {w : World} {o : Obj} {Q : Ending → World → Prop}
    (h : ∀ W0 : World, Below w.heap.size w W0 → W0.heap[w.heap.size]? = some o → Calls P f args W0 Q) : Calls P f args (w.alloc o) Q :=
  h _ (below_alloc (Below.refl _ _) _) (box_top _ _)
theorem calls_box2 {P : Program} {f : FuncId} {args : Array Value} {w : World} {o o1 : Obj} {Q : Ending → World → Prop}
    (h : ∀ W0 : World, Below w.heap.size w W0 → W0.heap[w.heap.size]? = some o → W0.heap[w.heap.size + 1]? = some o1 → Calls P f args W0 Q) : Calls P f args ((w.alloc o).alloc o1) Q :=
  h _ (below_alloc (below_alloc (Below.refl _ _) _) _) (box_under (box_top _ _) _) (box_top1 _ _ _)
theorem calls_box3 {P : Program} {f : FuncId} {args : Array Value} {w : World} {o o1 o2 : Obj} {Q : Ending → World → Prop}
    (h : ∀ W0 : World, Below w.heap.size w W0 → W0.heap[w.heap.size]? = some o → W0.heap[w.heap.size + 1]? = some o1 → W0.heap[w.heap.size + 2]? = some o2 → Calls P f args W0 Q) : Calls P f args (((w.alloc o).alloc o1).alloc o2) Q :=
  h _ (below_alloc (below_alloc (below_alloc (Below.refl _ _) _) _) _) (box_under (box_under (box_top _ _) _) _) (box_under (box_top1 _ _ _) _) (box_top2 _ _ _ _)

theorem blk_keep {w W : World} {g : Nat} {o : Obj} (hb : Below w.heap.size w W) (h : w.heap[g]? = some o) : W.heap[g]? = some o := (hb.block g (blk_lt h)).trans h
theorem bw_box {w : World} {g t : Nat} {cs : Array Value} (h : w.heap[g]? = some (.cells cs t (0, 0))) (p : BW w) (i : Nat) : p.W.cell? ⟨g, i, none⟩ = cs[i]? := blk_cell (blk_keep p.h h) i

theorem blk_same {w W : World} {n g : Nat} {o : Obj} (hb : Below n w W) (hg : g < n) (h : w.heap[g]? = some o) : W.heap[g]? = some o := (hb.block g hg).trans h
theorem below_less {w W : World} {n m : Nat} (h : Below n w W) (hm : m ≤ n) : Below m w W := h.mono hm
/-- What an append leaves: behind a world that is as w was below n, m or more. -/
theorem via_m {w W w1 : World} {n m : Nat} (h : Below n w W) (k : Below m W w1) (hm : n ≤ m) : Below n w w1 := h.trans (k.mono hm)

theorem Own.sets {α : Type} {d : Kd α} {e : Nat} {w : World} {base : Nat} {v : Value} {xs : List α} (h : Own d e w base v xs) {g : Nat} (hp : g < base) (j : Nat) (u : Value) : Own d e (w.setCell ⟨g, j, none⟩ u) base v xs := h.set (p := ⟨g, j, none⟩) hp u

theorem pw_cell_same {w W : World} {n : Nat} {a : Addr} {v : Value} (hb : Below n w W) (ha : a.block < n) (h : w.cell? a = some v) : W.cell? a = some v := by
  rw [hb.cell ha]; exact h

/-- Stores into a block of another type. -/
theorem Own.keep_t {α : Type} {d : Kd α} {e : Nat} {w w1 : World} {base : Nat} {v : Value} {xs : List α} (h : Own d e w base v xs) (hE : d.E = []) {g t : Nat} {cs : Array Value} (hb : w.heap[g]? = some (.cells cs t (0, 0))) (ht : t ≠ e) (hk : KeepBut w w1 g none) : Own d e w1 base v xs :=
  Kd.R_mono (Kd.R_keep (Kd.R_types h hb (fun q hq => by rw [hE] at hq; simp at hq; subst hq; exact fun e_ => ht e_.symm)) hk (fun _ hk => hk.2)) (fun _ _ => trivial)

end Go.Proofs.Ytoeipkjpgbdioaa
