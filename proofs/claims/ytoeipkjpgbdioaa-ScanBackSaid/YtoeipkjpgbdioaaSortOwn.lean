/- A row of the call's own, sorted where it lies by the library's sort: still a row of the call's own. -/
import Derived.Test.YtoeipkjpgbdioaaSorts
import Derived.Shelf.SlSortCmp.NoneTotal
set_option linter.unusedVariables false
set_option linter.unusedSimpArgs false
namespace Go.Proofs.Ytoeipkjpgbdioaa
open Go.RowKit Go.Shelf Go.Sort Go.Proofs.YtoeipkjpgbdioaaW.PrintWords

theorem flat_get (ys : List Pair) (t : Nat) (ht : t < ys.length * 2) : (flatK encPair 2 ys.toArray)[t]! = (encPair (ys[t / 2]'(by omega)))[t % 2]! := by
  rw [get_flatK _ _ _ _ (by simpa using ht)]
  congr 2
  rw [getElem!_pos _ _ (by simp; omega)]
  simp
theorem flat_reps (ys : List Pair) : Reps (fun (x : Pair) (cs : List Value) => cs = encPair x) 2 ys (flatK encPair 2 ys.toArray).toList := by
  refine ⟨by simp, fun j p hj => ?_⟩
  obtain ⟨hj1, rfl⟩ := List.getElem?_eq_some_iff.1 hj
  apply List.ext_getElem
  · simp [encPair]; omega
  · intro i h1 h2
    have hi : i < 2 := by simpa [encPair] using h2
    have h3 := flat_get ys (j * 2 + i) (by omega)
    rw [getElem!_pos _ _ (by simp; omega)] at h3
    simp only [List.getElem_take, List.getElem_drop, Array.getElem_toList, h3]
    have e1 : (j * 2 + i) / 2 = j := by omega
    have e2 : (j * 2 + i) % 2 = i := by omega
    simp only [e1, e2]
    exact getElem!_pos (encPair ys[j]) i h2

theorem own_sorted {e : Nat} {w : World} {base g n cap : Nat} {xs ys : List Pair} (h : Own kPair e w base (.slice (some ⟨g, 0, none⟩) n cap) xs) (h0 : 0 < xs.length) (hl : ys.length = xs.length) (m : Nat) (os : Array Obj) :
    base ≤ g ∧ g < w.heap.size ∧ HoldsK encPair 2 w g 0 xs.toArray ∧ Own kPair e (sortWorldK encPair 2 w g 0 m ys.toArray os) base (.slice (some ⟨g, 0, none⟩) n cap) ys ∧ Below base w (sortWorldK encPair 2 w g 0 m ys.toArray os) := by
  have hS : Sl kPair w (some ⟨g, 0, none⟩) cap xs := h.sl'
  obtain ⟨_, inner, ⟨hlen, hor⟩, hr⟩ := h
  rcases hor with ⟨he, _⟩ | ⟨g', cap', cur, he, hbg, hh, hc1, hc2, hsz, htk⟩
  · cases he
  · injection he with h1 h2 h3
    injection h1 with h1
    injection h1 with h1
    subst h1 h2 h3
    have hlt := blk_lt hh
    have hheap : (sortWorldK encPair 2 w g 0 m ys.toArray os).heap[g]? = some (.cells (putCells id 0 (flatK encPair 2 ys.toArray) cur) e (0, 0)) := by
      unfold sortWorldK
      rw [heap_grow_old _ _ (by simpa [putRowK, putRow, mapBlock] using hlt)]
      simp [putRowK, putRow, mapBlock, Sort.ahead, Array.getElem?_modify, hh, onCells]
    refine ⟨hbg, hlt, fun t ht => ?_, ⟨fun _ _ => trivial, (flatK encPair 2 ys.toArray).toList, ⟨by simp [kPair, flat], .inr ⟨g, cap, _, ?_, hbg, hheap, ?_, hc2, ?_, ?_⟩⟩, flat_reps ys⟩, ?_⟩
    · have ht2 : t < xs.length * 2 := by simpa using ht
      obtain ⟨ad, ha, hc⟩ := flat_at hS (t / 2) (by omega)
      cases ha
      refine ⟨?_, blk_frozen hh _⟩
      rw [flat_get xs t ht2, id]
      have := hc (t % 2) (encPair (xs[t / 2]'(by omega)))[t % 2]! (by
        rw [List.getElem?_eq_getElem (by simp [encPair]; omega), getElem!_pos _ _ (by simp [encPair]; omega)])
      rw [add_plain] at this
      rw [show t / 2 * 2 + t % 2 = t by omega] at this
      rw [Nat.zero_add]
      exact this
    · rw [hl]
    · omega
    · simp [putCells, hsz]
    · apply List.ext_getElem
      · have : cur.size = cap * 2 := hsz
        simp [putCells, kPair, flat]; omega
      · intro i h1 h2
        have hi : i < ys.length * 2 := by simpa using h2
        have : (flatK encPair 2 ys.toArray).size = ys.length * 2 := by simp
        simp only [List.getElem_take, Array.getElem_toList, putCells, Array.getElem_mapIdx]
        rw [if_pos (by omega)]
        simp only [id, Nat.sub_zero]
        exact getElem!_pos _ _ _
    · refine ⟨rfl, rfl, rfl, ?_, fun k hk => ?_⟩
      · simp [sortWorldK, putRowK, putRow, mapBlock, Sort.ahead]
      · unfold sortWorldK
        rw [heap_grow_old _ _ (by simpa [putRowK, putRow, mapBlock, Sort.ahead] using (by omega : k < w.heap.size))]
        simp [putRowK, putRow, mapBlock, Sort.ahead, Array.getElem?_modify]
        intro h; omega

end Go.Proofs.Ytoeipkjpgbdioaa
