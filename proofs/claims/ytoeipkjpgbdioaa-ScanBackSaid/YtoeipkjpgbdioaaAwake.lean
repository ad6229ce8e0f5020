/- splicelaw22.awake: at its own small table the code answers as it should. -/
import Derived.Test.YtoeipkjpgbdioaaTop
import Derived.Test.YtoeipkjpgbdioaaWRepsOne
set_option linter.unusedVariables false
set_option linter.unusedSimpArgs false
namespace Go.Proofs.Ytoeipkjpgbdioaa
open Go.RowKit Go.Shelf Go.Sort Go.Proofs.YtoeipkjpgbdioaaW.PrintWords

theorem reps_flat {α : Type} (sz : Nat) (enc : α → List Value) (hl : ∀ x, (enc x).length = sz) : ∀ xs : List α, Reps (fun (x : α) (cs : List Value) => cs = enc x) sz xs (xs.flatMap enc)
  | [] => Reps.none _ _
  | x :: xs => Reps.front (p := x) rfl (hl x) (reps_flat sz enc hl xs) (by simp)
theorem own_lit {α : Type} {sz : Nat} {enc : α → List Value} {hl : ∀ x, (enc x).length = sz} {h1 : ∀ x, ∀ u ∈ enc x, u.oneCell' = true} (e : Nat) (W : World) (base : Nat) (hb : base ≤ W.heap.size) (xs : List α) (hm : xs.length ≤ 9223372036854775807) :
    Own (flat sz enc hl h1) e (W.alloc (.cells (xs.flatMap enc).toArray e)) base (.slice (some ⟨W.heap.size, 0, none⟩) xs.length xs.length) xs :=
  ⟨fun _ _ => trivial, OwnRow.lit W base (reps_flat sz enc hl xs) hb hm⟩

def tab : List Pair := [⟨1, 5⟩, ⟨4, 2⟩, ⟨9, 7⟩]
def onn : List Span := [⟨0, 100⟩]
theorem aw_bad (a : Int) (ha : a = -1 ∨ a = 4) : pgBad tab ⟨onn, a, 2⟩ = false := by rcases ha with rfl | rfl <;> decide
theorem aw_clip : clip tab onn = tab := by decide
theorem aw_out1 : pgOut tab ⟨onn, -1, 2⟩ = [⟨1, 5⟩, ⟨4, 2⟩] := by decide
theorem aw_out2 : pgOut tab ⟨onn, 4, 2⟩ = [⟨9, 7⟩] := by decide
theorem aw_next1 : pgNext tab ⟨onn, -1, 2⟩ = ⟨onn, 4, 2⟩ := by decide
theorem aw_next2 : pgNext tab ⟨onn, 4, 2⟩ = ⟨onn, 9, 2⟩ := by decide
theorem aw_more1 : pgMore tab ⟨onn, -1, 2⟩ = true := by decide
theorem aw_more2 : pgMore tab ⟨onn, 4, 2⟩ = false := by decide
theorem aw_gbad : gBad tab onn 5 = false := by decide
theorem aw_groups : groups 5 tab = [⟨0, 2, 7, 2, 5⟩, ⟨5, 1, 7, 7, 7⟩] := by decide
theorem aw_sort : sortTop tab = [⟨9, 7⟩, ⟨1, 5⟩, ⟨4, 2⟩] := by
  simp [sortTop, tab, List.mergeSort, List.MergeSort.Internal.splitInTwo, List.merge, ltTop]
theorem aw_top : topOf tab 2 = [⟨9, 7⟩, ⟨1, 5⟩] := by rw [topOf, aw_sort]; decide

theorem aw_tab (w : World) : Sl kPair ((w.alloc (.cells #[.int .i64 1, .int .i64 5, .int .i64 4, .int .i64 2, .int .i64 9, .int .i64 7] 84)).alloc (.cells #[.int .i64 0, .int .i64 100] 162)) (some ⟨w.heap.size, 0, none⟩) 3 tab := by
  have h : Own kPair 84 (w.alloc (.cells (tab.flatMap encPair).toArray 84)) w.heap.size (.slice (some ⟨w.heap.size, 0, none⟩) tab.length tab.length) tab := own_lit _ w w.heap.size (Nat.le_refl _) tab (by decide)
  exact (Own.sl2 h).below (below_alloc (Below.refl _ _) _)
theorem aw_on (w : World) : Sl kSpan ((w.alloc (.cells #[.int .i64 1, .int .i64 5, .int .i64 4, .int .i64 2, .int .i64 9, .int .i64 7] 84)).alloc (.cells #[.int .i64 0, .int .i64 100] 162)) (some ⟨w.heap.size + 1, 0, none⟩) 1 onn := by
  have h : ∀ W : World, Own kSpan 162 (W.alloc (.cells (onn.flatMap encSpan).toArray 162)) 0 (.slice (some ⟨W.heap.size, 0, none⟩) onn.length onn.length) onn := fun W => own_lit _ W 0 (Nat.zero_le _) onn (by decide)
  have h2 := Own.sl2 (h (w.alloc (.cells #[.int .i64 1, .int .i64 5, .int .i64 4, .int .i64 2, .int .i64 9, .int .i64 7] 84)))
  rw [size_alloc] at h2
  exact h2
theorem group_at {w : World} {A : Option Addr} {c : Nat} {xs : List Group} (h : Sl kGroup w A c xs) (i : Nat) (hi : i < xs.length) :
    ∃ ad, A = some ad ∧ w.cell? (ad.add (i * 5)) = some (.int .i64 xs[i].key) ∧ w.cell? ⟨(ad.add (i * 5)).block, (ad.add (i * 5)).off + 1, none⟩ = some (.int .i64 xs[i].n) ∧ w.cell? ⟨(ad.add (i * 5)).block, (ad.add (i * 5)).off + 2, none⟩ = some (.int .i64 xs[i].sum) ∧
      w.cell? ⟨(ad.add (i * 5)).block, (ad.add (i * 5)).off + 3, none⟩ = some (.int .i64 xs[i].least) ∧ w.cell? ⟨(ad.add (i * 5)).block, (ad.add (i * 5)).off + 4, none⟩ = some (.int .i64 xs[i].most) := by
  obtain ⟨ad, e, hc⟩ := flat_at h i hi
  exact ⟨ad, e, hc 0 _ rfl, by rw [← add_field _ _ 1 (by omega)]; exact hc 1 _ rfl, by rw [← add_field _ _ 2 (by omega)]; exact hc 2 _ rfl, by rw [← add_field _ _ 3 (by omega)]; exact hc 3 _ rfl, by rw [← add_field _ _ 4 (by omega)]; exact hc 4 _ rfl⟩

set_option maxHeartbeats 2000000 in
set_option maxRecDepth 100000 in
theorem law22_awake (w : World) : Calls Try.prog 25 #[] w fun e w' => e = .returned (.bool true) ∧ Below w.heap.size w w' := by
  have HX := Aside0.mk (below_alloc (below_alloc (Below.refl w.heap.size w) (.cells #[.int .i64 1, .int .i64 5, .int .i64 4, .int .i64 2, .int .i64 9, .int .i64 7] 84)) (.cells #[.int .i64 0, .int .i64 100] 162))
  have HT := aw_tab w
  have HS := aw_on w
  have P1 := Aside0.mk (fun W (h : Below (((w.alloc (.cells #[.int .i64 1, .int .i64 5, .int .i64 4, .int .i64 2, .int .i64 9, .int .i64 7] 84)).alloc (.cells #[.int .i64 0, .int .i64 100] 162))).heap.size ((w.alloc (.cells #[.int .i64 1, .int .i64 5, .int .i64 4, .int .i64 2, .int .i64 9, .int .i64 7] 84)).alloc (.cells #[.int .i64 0, .int .i64 100] 162)) W) => scan_Page_good _ _ _ _ tab ⟨onn, -1, 2⟩ W (HT.below h) (HS.below h) (by decide) (aw_bad _ (.inl rfl)))
  have P2 := Aside0.mk (fun D d' W (h : Below (((w.alloc (.cells #[.int .i64 1, .int .i64 5, .int .i64 4, .int .i64 2, .int .i64 9, .int .i64 7] 84)).alloc (.cells #[.int .i64 0, .int .i64 100] 162))).heap.size ((w.alloc (.cells #[.int .i64 1, .int .i64 5, .int .i64 4, .int .i64 2, .int .i64 9, .int .i64 7] 84)).alloc (.cells #[.int .i64 0, .int .i64 100] 162)) W) (hs : Sl kSpan W D d' onn) => scan_Page_good _ _ _ _ tab ⟨onn, 4, 2⟩ W (HT.below h) hs (by decide) (aw_bad _ (.inr rfl)))
  have P3 := Aside0.mk (fun W (h : Below (((w.alloc (.cells #[.int .i64 1, .int .i64 5, .int .i64 4, .int .i64 2, .int .i64 9, .int .i64 7] 84)).alloc (.cells #[.int .i64 0, .int .i64 100] 162))).heap.size ((w.alloc (.cells #[.int .i64 1, .int .i64 5, .int .i64 4, .int .i64 2, .int .i64 9, .int .i64 7] 84)).alloc (.cells #[.int .i64 0, .int .i64 100] 162)) W) => scan_Groups_good _ _ _ _ tab onn 5 W (HT.below h) (HS.below h) (by decide) aw_gbad)
  have P4 := Aside0.mk (fun W (h : Below (((w.alloc (.cells #[.int .i64 1, .int .i64 5, .int .i64 4, .int .i64 2, .int .i64 9, .int .i64 7] 84)).alloc (.cells #[.int .i64 0, .int .i64 100] 162))).heap.size ((w.alloc (.cells #[.int .i64 1, .int .i64 5, .int .i64 4, .int .i64 2, .int .i64 9, .int .i64 7] 84)).alloc (.cells #[.int .i64 0, .int .i64 100] 162)) W) => scan_Top _ _ _ _ tab onn 2 W (HT.below h) (HS.below h) (by decide))
  simp only [aw_clip, aw_out1, aw_next1, aw_more1] at P1
  simp only [aw_clip, aw_out2, aw_next2, aw_more2] at P2
  simp only [aw_clip, aw_groups] at P3
  simp only [aw_clip, aw_top] at P4
  simp only [vCur, show tab.length = 3 from rfl, show onn.length = 1 from rfl, List.length_cons, List.length_nil, Nat.reduceAdd, Nat.zero_add] at P1 P2 P3 P4
  clear HT HS
  go_enter Try.func25, Try.ntmps25
  go_wp2_with (first
    | (go_at_call 26; with_reducible refine (P1.out _ (Below.refl _ _)).mono ?_; rintro e w1 ⟨C1, c1, D1, d1, rfl, hs1, hs2, hb⟩; have HS1 := Aside0.mk hs2; have HB1 := Aside0.mk hb; clear hs1 hs2 hb)
    | (go_at_call 26; with_reducible refine (P2.out D1 d1 _ (below_alloc HB1.out _) (HS1.out.below (below_alloc (Below.refl _ _) _))).mono ?_; rintro e w2 ⟨C2, c2, D2, d2, rfl, hs1, hs2, hb⟩; have HB2 := Aside0.mk (below_then (below_alloc HB1.out _) (by have := HB1.out.size; simp only [size_alloc] at this ⊢; omega) hb); clear hs1 hs2 hb)
    | (go_at_call 35; with_reducible refine (P3.out _ (below_alloc HB2.out _)).mono ?_; rintro e w3 ⟨C3, c3, rfl, ho, hb⟩; have HB3 := Aside0.mk (below_then (below_alloc HB2.out _) (by have := HB2.out.size; simp only [size_alloc] at this ⊢; omega) hb); have HG3 := Aside0.mk ho.sl'; clear ho hb)
    | (go_at_call 32; with_reducible refine (P4.out _ HB3.out).mono ?_; rintro e w4 ⟨C4, c4, rfl, hs, hb⟩; have HB4 := Aside0.mk (below_then HB3.out HB3.out.size hb); obtain ⟨g0, rfl, a0, a1, a2, a3, a4⟩ := group_at (HG3.out.below hb) 0 (by simp); obtain ⟨p0, rfl, b0, b1⟩ := pair_at hs 0 (by simp); rw [show g0.add (0 * 5) = g0 from rfl] at a0 a1 a2 a3 a4; rw [show p0.add (0 * 2) = p0 from rfl] at b0 b1; simp only [List.getElem_cons_zero] at a0 a1 a2 a3 a4 b0 b1; clear hs hb))
  go_ret
  exact ⟨rfl, below_then HX.out HX.out.size HB4.out⟩

end Go.Proofs.Ytoeipkjpgbdioaa
