/- scan.group: the group of some pairs. -/
import Derived.Test.YtoeipkjpgbdioaaPage2
import Derived.Test.YtoeipkjpgbdioaaWLast
import Derived.Test.YtoeipkjpgbdioaaWTab
set_option linter.unusedVariables false
set_option linter.unusedSimpArgs false
namespace Go.Proofs.Ytoeipkjpgbdioaa
open Go.RowKit Go.Shelf Go.Proofs.YtoeipkjpgbdioaaW.PrintWords Go.Proofs.YtoeipkjpgbdioaaW.PrintLast

def vals (l : List Pair) : List Int := l.map (·.val)
def grp (key : Int) (l : List Pair) : Group := ⟨key, l.length, (vals l).sum, (vals l).foldl min ((vals l).headD 0), (vals l).foldl max ((vals l).headD 0)⟩
abbrev vGroup (g : Group) : Value := .agg #[.int .i64 g.key, .int .i64 g.n, .int .i64 g.sum, .int .i64 g.least, .int .i64 g.most]

theorem vals_take (l : List Pair) (k : Nat) (hk : k < l.length) : (vals l).take (k + 1) = (vals l).take k ++ [l[k].val] := by
  rw [List.take_succ_eq_append_getElem (by simpa [vals] using hk)]
  simp [vals]
theorem okPair_val {p : Pair} (h : okPair p = true) : -1099511627776 ≤ p.val ∧ p.val ≤ 1099511627776 := by
  simp only [okPair, decide_eq_true_eq] at h
  exact ⟨h.2.2.1, h.2.2.2⟩
theorem sum_bounds (l : List Int) (h : ∀ x ∈ l, -1099511627776 ≤ x ∧ x ≤ 1099511627776) : -(1099511627776 * l.length : Int) ≤ l.sum ∧ l.sum ≤ (1099511627776 * l.length : Int) := by
  induction l with
  | nil => simp
  | cons a l ih =>
    have h1 := ih (fun x hx => h x (List.mem_cons_of_mem _ hx))
    have h2 := h a List.mem_cons_self
    simp only [List.sum_cons, List.length_cons]
    omega
theorem sum_take_bounds (l : List Pair) (hv : ∀ p ∈ l, okPair p = true) (k : Nat) (hk : k ≤ 1000000) : -1099511627776000000 ≤ ((vals l).take k).sum ∧ ((vals l).take k).sum ≤ 1099511627776000000 := by
  have h := sum_bounds ((vals l).take k) (fun x hx => by
    have hx := List.mem_of_mem_take hx
    simp only [vals, List.mem_map] at hx
    obtain ⟨p, hp, rfl⟩ := hx
    exact okPair_val (hv p hp))
  have hl : ((vals l).take k).length ≤ k := by simp; omega
  omega

set_option maxHeartbeats 2000000 in
set_option maxRecDepth 100000 in
theorem scan_group (key : Int) (A : Option Addr) (c : Nat) (l : List Pair) (w : World) (hr : Sl kPair w A c l) (h0 : 0 < l.length) (hbig : l.length ≤ 1000000) (hv : ∀ p ∈ l, okPair p = true) :
    Calls Try.prog 104 #[.int .i64 key, .slice A l.length c] w fun e w' => e = .returned (vGroup (grp key l)) ∧ Below w.heap.size w w' := by
  have HR := Aside0.mk hr
  have HV := Aside0.mk hv
  have HX := Aside0.mk (below_alloc (Below.refl w.heap.size w) (.cells #[.int .i64 0, .int .i64 0, .int .i64 0, .int .i64 0, .int .i64 0] 80))
  obtain ⟨ad, rfl, c0, c1⟩ := pair_at hr 0 h0
  rw [show ad.add (0 * 2) = ad from rfl] at c0 c1
  have c1' := later c1 (.cells #[.int .i64 0, .int .i64 0, .int .i64 0, .int .i64 0, .int .i64 0] 80)
  clear hr hv
  go_enter Try.func104, Try.ntmps104
  go_wp2
  go_region_held3 (fun w' => w'.cell? ⟨ad.block, ad.off + 1, none⟩ = some (.int .i64 l[0].val)) (first | exact c1' | go_keep) (fail)
  go_wp2
  have HX2 := Aside0.mk (below_alloc HX.out (.cells #[.int .i64 key, .int .i64 l.length, .int .i64 0, .int .i64 l[0].val, .int .i64 l[0].val] 80))
  have b0 := Aside0.mk (box_under (box_top w (.cells #[.int .i64 0, .int .i64 0, .int .i64 0, .int .i64 0, .int .i64 0] 80)) (.cells #[.int .i64 key, .int .i64 l.length, .int .i64 0, .int .i64 l[0].val, .int .i64 l[0].val] 80))
  have b1 := Aside0.mk (box_top1 w (.cells #[.int .i64 0, .int .i64 0, .int .i64 0, .int .i64 0, .int .i64 0] 80) (.cells #[.int .i64 key, .int .i64 l.length, .int .i64 0, .int .i64 l[0].val, .int .i64 l[0].val] 80))
  clear c0 c1 c1'
  generalize hv0 : l[0].val = v0 at *
  go_loopw [22] (fun i wr => ∃ k : Nat, k ≤ l.length ∧ i = .int .i64 k ∧
    Aside0 (wr.heap[w.heap.size]? = some (.cells #[.int .i64 0, .int .i64 0, .int .i64 0, .int .i64 0, .int .i64 0] 80 (0, 0))) ∧
    Aside0 (wr.heap[w.heap.size + 1]? = some (.cells #[.int .i64 key, .int .i64 l.length, .int .i64 ((vals l).take k).sum, .int .i64 (((vals l).take k).foldl min v0), .int .i64 (((vals l).take k).foldl max v0)] 80 (0, 0))) ∧
    Aside0 (Below w.heap.size w wr)) (fun i _ => l.length - (intOf i).toNat)
  case atStart => exact ⟨0, by omega, rfl, b0, b1, ⟨below_drew HX2.out⟩⟩
  case round =>
    clear b0 b1 HX HX2
    obtain ⟨k, hk, rfl, hG, hH, hB⟩ := hrel
    by_cases hlt : k < l.length
    · obtain ⟨_, e1, c0, c1⟩ := pair_at (HR.out.below hB.out) k hlt
      cases e1
      have hs := sum_take_bounds l HV.out k (by omega)
      have hvk := okPair_val (HV.out l[k] (by simp))
      have ht := Aside0.mk (vals_take l k hlt)
      have h2 := blk_frozen hH.out
      have h3 := blk_lt hH.out
      obtain ⟨s, hS⟩ : ∃ s, ((vals l).take k).sum = s := ⟨_, rfl⟩
      obtain ⟨mn, hM⟩ : ∃ s, ((vals l).take k).foldl min v0 = s := ⟨_, rfl⟩
      obtain ⟨mx, hX⟩ : ∃ s, ((vals l).take k).foldl max v0 = s := ⟨_, rfl⟩
      rw [hS] at hs
      have hH := Aside0.mk (by have := hH.out; rw [hS, hM, hX] at this; exact this)
      have h1 := blk_cell hH.out
      have hS1 := Aside0.mk hS
      have hM1 := Aside0.mk hM
      have hX1 := Aside0.mk hX
      clear hS hM hX
      generalize l[k].val = x at *
      go_wp2
      have z := box_under (blk_set hH.out 2 (.int .i64 (s + x))) (.cells #[.int .i64 l[k].key, .int .i64 x] 84)
      have y := box_top (wr.setCell ⟨w.heap.size + 1, 2, none⟩ (.int .i64 (s + x))) (.cells #[.int .i64 l[k].key, .int .i64 x] 84)
      have hG2 := Aside0.mk (box_under ((blk_far hG.out (p := ⟨w.heap.size + 1, 2, none⟩) (by simp) (.int .i64 (s + x)))) (.cells #[.int .i64 l[k].key, .int .i64 x] 84))
      have HB2 := Aside0.mk (below_alloc (below_set (j := 2) (v := .int .i64 (s + x)) hB.out (by omega : w.heap.size ≤ w.heap.size + 1)) (.cells #[.int .i64 l[k].key, .int .i64 x] 84))
      have m3 : ((wr.setCell ⟨w.heap.size + 1, 2, none⟩ (.int .i64 (s + x))).alloc (.cells #[.int .i64 l[k].key, .int .i64 x] 84)).cell? ⟨w.heap.size + 1, 3, none⟩ = some (.int .i64 mn) := (blk_cell z 3).trans rfl
      have m4 : ((wr.setCell ⟨w.heap.size + 1, 2, none⟩ (.int .i64 (s + x))).alloc (.cells #[.int .i64 l[k].key, .int .i64 x] 84)).cell? ⟨w.heap.size + 1, 4, none⟩ = some (.int .i64 mx) := (blk_cell z 4).trans rfl
      have p1 : ((wr.setCell ⟨w.heap.size + 1, 2, none⟩ (.int .i64 (s + x))).alloc (.cells #[.int .i64 l[k].key, .int .i64 x] 84)).cell? ⟨wr.heap.size, 1, none⟩ = some (.int .i64 x) := (by simpa using (blk_cell y 1).trans rfl)
      have fz := blk_frozen z
      have Z := Aside0.mk z
      clear z y h1 h2 c0 c1 hG hH
      generalize (wr.setCell ⟨w.heap.size + 1, 2, none⟩ (.int .i64 (s + x))).alloc (.cells #[.int .i64 l[k].key, .int .i64 x] 84) = W at *
      have n1 : (⟨w.heap.size + 1, 3, none⟩ : Addr) ≠ ⟨w.heap.size + 1, 4, none⟩ := by simp
      have n2 : (⟨w.heap.size + 1, 3, none⟩ : Addr) ≠ ⟨wr.heap.size, 1, none⟩ := by intro e; injection e with e; omega
      have m3' : W.drew.cell? ⟨w.heap.size + 1, 3, none⟩ = some (.int .i64 mn) := m3
      refine start_ (n := 14) (S := fun w' => w'.cell? ⟨w.heap.size + 1, 4, none⟩ = some (.int .i64 mx) ∧ w'.cell? ⟨wr.heap.size, 1, none⟩ = some (.int .i64 x)) (ds := [13]) #[false, false, false, false, false, false, false, false, false, false, false, false, false, false] (by kernel_rfl) rfl rfl ⟨m4, p1⟩ (fun hHeld => ?_)
      refine pure_ (i := 0) (N := some 32) (v := ?_) (a' := ?_) #[true, false, false, false, false, false, false, false, false, false, false, false, false, false] rfl rfl (by kernel_rfl) (fun _ _ _ h => h) (Or.inl ⟨by rfl, ?_⟩) ?_ ?_
      rotate_left
      · intro w'
        go_simp
        with_reducible rfl
      rotate_left
      · simp only [Act.put, List.setIfInBounds_toArray, List.set_cons_zero, List.set_cons_succ, i64_w, i32_w]
        rfl
      refine pure_ (i := 2) (N := some 34) (v := ?_) (a' := ?_) #[true, false, true, false, false, false, false, false, false, false, false, false, false, false] rfl rfl (by kernel_rfl) (fun _ _ _ h => h) (Or.inl ⟨by rfl, ?_⟩) ?_ ?_
      rotate_left
      · intro w'
        go_simp
        with_reducible rfl
      rotate_left
      · simp only [Act.put, List.setIfInBounds_toArray, List.set_cons_zero, List.set_cons_succ, i64_w, i32_w]
        rfl
      refine pure_ (i := 5) (N := some 37) (v := ?_) (a' := ?_) #[true, false, true, false, false, true, false, false, false, false, false, false, false, false] rfl rfl (by kernel_rfl) (fun _ _ _ h => h) (Or.inl ⟨by rfl, ?_⟩) ?_ ?_
      rotate_left
      · intro w'
        go_simp
        with_reducible rfl
      rotate_left
      · simp only [Act.put, List.setIfInBounds_toArray, List.set_cons_zero, List.set_cons_succ, i64_w, i32_w]
        rfl
      refine pure_ (i := 7) (N := some 39) (v := ?_) (a' := ?_) #[true, false, true, false, false, true, false, true, false, false, false, false, false, false] rfl rfl (by kernel_rfl) (fun _ _ _ h => h) (Or.inl ⟨by rfl, ?_⟩) ?_ ?_
      rotate_left
      · intro w'
        go_simp
        with_reducible rfl
      rotate_left
      · simp only [Act.put, List.setIfInBounds_toArray, List.set_cons_zero, List.set_cons_succ, i64_w, i32_w]
        rfl
      refine take_ (i := 3) (N := some 35) (v := ?_) (a' := ?_) #[true, false, true, true, false, true, false, true, false, false, false, false, false, false] rfl rfl (by kernel_rfl) (fun _ _ _ h => h) (Or.inl ⟨by rfl, ?_⟩) hHeld ?_ ?_
      rotate_left
      · rintro w' ⟨s0, s1⟩
        go_simp
        with_reducible rfl
      rotate_left
      · simp only [Act.put, List.setIfInBounds_toArray, List.set_cons_zero, List.set_cons_succ, i64_w, i32_w]
        rfl
      refine take_ (i := 6) (N := some 38) (v := ?_) (a' := ?_) #[true, false, true, true, false, true, true, true, false, false, false, false, false, false] rfl rfl (by kernel_rfl) (fun _ _ _ h => h) (Or.inl ⟨by rfl, ?_⟩) hHeld ?_ ?_
      rotate_left
      · rintro w' ⟨s0, s1⟩
        go_simp
        with_reducible rfl
      rotate_left
      · simp only [Act.put, List.setIfInBounds_toArray, List.set_cons_zero, List.set_cons_succ, i64_w, i32_w]
        rfl
      refine take_ (i := 8) (N := some 40) (v := ?_) (a' := ?_) #[true, false, true, true, false, true, true, true, true, false, false, false, false, false] rfl rfl (by kernel_rfl) (fun _ _ _ h => h) (Or.inl ⟨by rfl, ?_⟩) hHeld ?_ ?_
      rotate_left
      · rintro w' ⟨s0, s1⟩
        go_simp
        with_reducible rfl
      rotate_left
      · simp only [Act.put, List.setIfInBounds_toArray, List.set_cons_zero, List.set_cons_succ, i64_w, i32_w]
        rfl
      refine pure_ (i := 9) (N := some 41) (v := ?_) (a' := ?_) #[true, false, true, true, false, true, true, true, true, true, false, false, false, false] rfl rfl (by kernel_rfl) (fun _ _ _ h => h) (Or.inl ⟨by rfl, ?_⟩) ?_ ?_
      rotate_left
      · intro w'
        go_simp
        with_reducible rfl
      rotate_left
      · simp only [Act.put, List.setIfInBounds_toArray, List.set_cons_zero, List.set_cons_succ, i64_w, i32_w]
        rfl
      refine one_ (i := 1) (N := some 33) #[true, true, true, true, false, true, true, true, true, true, false, false, false, false] rfl rfl (by kernel_rfl) (by decide) (fun K hK => ?_)
      refine value_ (w1 := ?_) (v := ?_) (by rfl) rfl ?_ ?_
      rotate_left 2
      · go_simp
        constructor
        · rfl
        · rfl
      refine hK.out _ _ ⟨m4, p1⟩ (fun hHeld => ?_)
      clear hK K
      refine norm_ (a' := ?_) ?_ ?_
      rotate_left
      · show Act.put _ (some 33) _ = _
        simp only [Act.put, List.setIfInBounds_toArray, List.set_cons_zero, List.set_cons_succ, i64_w, i32_w]
        rfl
      refine pure_ (i := 4) (N := some 36) (v := ?_) (a' := ?_) #[true, true, true, true, true, true, true, true, true, true, false, false, false, false] rfl rfl (by kernel_rfl) (fun _ _ _ h => h) (Or.inl ⟨by rfl, ?_⟩) ?_ ?_
      rotate_left
      · intro w'
        go_simp
        with_reducible rfl
      rotate_left
      · simp only [Act.put, List.setIfInBounds_toArray, List.set_cons_zero, List.set_cons_succ, i64_w, i32_w]
        rfl
      refine pure_ (i := 10) (N := some 42) (v := ?_) (a' := ?_) #[true, true, true, true, true, true, true, true, true, true, true, false, false, false] rfl rfl (by kernel_rfl) (fun _ _ _ h => h) (Or.inl ⟨by rfl, ?_⟩) ?_ ?_
      rotate_left
      · intro w'
        go_simp
        with_reducible rfl
      rotate_left
      · simp only [Act.put, List.setIfInBounds_toArray, List.set_cons_zero, List.set_cons_succ, i64_w, i32_w]
        rfl
      refine one_ (i := 11) (N := none) #[true, true, true, true, true, true, true, true, true, true, true, true, false, false] rfl rfl (by kernel_rfl) (by decide) (fun K hK => ?_)
      refine skip_ (w1 := ?_) (by rfl) rfl ?_ ?_
      rotate_left
      · go_simp
        rfl
      refine hK.out _ _ ⟨(World.cell?_setCell_other _ _ _ _ n1).trans m4, (World.cell?_setCell_other _ _ _ _ n2).trans p1⟩ (fun hHeld => ?_)
      clear hK K
      refine pure_ (i := 12) (N := some 43) (v := ?_) (a' := ?_) #[true, true, true, true, true, true, true, true, true, true, true, true, true, false] rfl rfl (by kernel_rfl) (fun _ _ _ h => h) (Or.inl ⟨by rfl, ?_⟩) ?_ ?_
      rotate_left
      · intro w'
        go_simp
        with_reducible rfl
      rotate_left
      · simp only [Act.put, List.setIfInBounds_toArray, List.set_cons_zero, List.set_cons_succ, i64_w, i32_w]
        rfl
      refine last_ (i := 13) (N := none) #[true, true, true, true, true, true, true, true, true, true, true, true, true, true] rfl rfl (by kernel_rfl) (by decide) (fun K hK => ?_)
      refine skip_ (w1 := ?_) (by rfl) rfl ?_ ?_
      rotate_left
      · go_simp
        rfl
      refine hK.out _ _ ?_
      clear hK K
      refine done_ (by kernel_rfl) ?_

      go_wp2
      go_roundw
      case rel =>
        refine ⟨k + 1, by omega, by go_num, ⟨blk_far (blk_far (blk_drew hG2.out) (by simp) _) (by simp) _⟩, ⟨?_⟩, ⟨below_set (below_set (below_drew HB2.out) (by omega)) (by omega)⟩⟩
        have hz := blk_drew (blk_set (blk_set Z.out 3 (.int .i64 (if x < mn then x else mn))) 4 (.int .i64 (if mx < x then x else mx)))
        rw [ht.out, List.sum_append, List.foldl_append, List.foldl_append, hS1.out, hM1.out, hX1.out]
        have e1 : (if x < mn then x else mn) = min mn x := by split <;> omega
        have e2 : (if mx < x then x else mx) = max mx x := by split <;> omega
        rw [e1, e2] at hz
        simpa [e1, e2] using hz
      case measure => simp [intOf]; omega
    · have he : k = l.length := by omega
      subst he
      rw [show (vals l).take l.length = vals l from List.take_of_length_le (by simp [vals])] at hH
      have hd : v0 = (vals l).headD 0 := by cases l with | nil => simp at h0 | cons a t => simpa [vals] using hv0.symm
      have h1 := blk_cell hH.out
      have h2 := blk_frozen hH.out
      have h3 := blk_lt hH.out
      have g1 := blk_cell hG.out
      have g2 := blk_frozen hG.out
      have g3 := blk_lt hG.out
      go_wp2
      have z := blk_set (blk_set (blk_set (blk_set (blk_set hG.out 0 (.int .i64 key)) 1 (.int .i64 l.length)) 2 (.int .i64 (vals l).sum)) 3 (.int .i64 ((vals l).foldl min v0))) 4 (.int .i64 ((vals l).foldl max v0))
      rw [show (vals l).headD 0 = (vals l).head?.getD 0 by cases vals l <;> rfl] at hd
      rw [hd] at z
      have z1 := blk_cell z
      refine bodyPost_ret (v := vGroup (grp key l)) (by simp [results, Try.results104, go_sem, z1, grp, vGroup]) rfl ⟨rfl, ?_⟩
      exact below_set (below_set (below_set (below_set (below_set hB.out (by omega)) (by omega)) (by omega)) (by omega)) (by omega)

end Go.Proofs.Ytoeipkjpgbdioaa
