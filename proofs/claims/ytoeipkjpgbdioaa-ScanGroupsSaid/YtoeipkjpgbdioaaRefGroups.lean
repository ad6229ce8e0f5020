/- The reference's groups and total. -/
import Derived.Test.YtoeipkjpgbdioaaGroupsLaw
import Derived.Test.YtoeipkjpgbdioaaBoxes
set_option linter.unusedVariables false
set_option linter.unusedSimpArgs false
namespace Go.Proofs.Ytoeipkjpgbdioaa
open Go.RowKit Go.Shelf Go.Proofs.YtoeipkjpgbdioaaW.PrintWords Go.Proofs.YtoeipkjpgbdioaaW.PrintLast

def moreG (g : Group) (v : Int) : Group := ⟨g.key, g.n + 1, g.sum + v, if g.n = 0 ∨ v < g.least then v else g.least, if g.n = 0 ∨ g.most < v then v else g.most⟩
set_option maxHeartbeats 2000000 in
theorem ref22_more (g : Group) (v : Int) (w : World) (hn : 0 ≤ g.n ∧ g.n ≤ 1000000) (hs : -1152921504606846976 ≤ g.sum ∧ g.sum ≤ 1152921504606846976) (hv : -1099511627776 ≤ v ∧ v ≤ 1099511627776) :
    Calls Try.prog 105 #[vGroup g, .int .i64 v] w fun e w' => e = .returned (vGroup (moreG g v)) ∧ Below w.heap.size w w' := by
  obtain ⟨key, n, s, l, m⟩ := g
  dsimp only at hn hs
  obtain ⟨hn1, hn2⟩ := hn
  obtain ⟨hs1, hs2⟩ := hs
  obtain ⟨hv1, hv2⟩ := hv
  go_enter Try.func105, Try.ntmps105
  go_wp2
  all_goals (refine bodyPost_ret (v := vGroup (moreG ⟨key, n, s, l, m⟩ v)) ?_ rfl ⟨rfl, (by repeat (with_reducible (first | exact Below.refl _ _ | exact Aside0.out (by assumption) | apply below_alloc | apply pw_below_drewN | apply below_drew | refine below_set ?_ (by (first | omega | (simp; done) | (simp; omega))) | refine via ?_ (Aside0.out (by assumption)))))⟩)
  all_goals (simp [results, Try.results105, go_sem, moreG]; try (simp_all <;> omega))

def foldG (key : Int) (m : List Pair) : Group := m.foldl (fun g p => moreG g p.val) ⟨key, 0, 0, 0, 0⟩
theorem foldG_snoc (key : Int) (m : List Pair) (p : Pair) : foldG key (m ++ [p]) = moreG (foldG key m) p.val := by simp [foldG, List.foldl_append]
theorem foldG_eq (key : Int) (m : List Pair) : foldG key m = if m.length = 0 then ⟨key, 0, 0, 0, 0⟩ else grp key m := by
  obtain ⟨n, hn⟩ : ∃ n, m.length = n := ⟨_, rfl⟩
  induction n generalizing m with
  | zero => rw [if_pos hn, List.length_eq_zero_iff.1 hn]; rfl
  | succ n ih =>
    rw [if_neg (by omega)]
    obtain ⟨q, p, rfl⟩ : ∃ q p, m = q ++ [p] := ⟨m.dropLast, m.getLast (by intro e; simp [e] at hn), (List.dropLast_concat_getLast _).symm⟩
    have hq : q.length = n := by simpa using hn
    rw [foldG_snoc, ih q hq]
    cases q with
    | nil => simp [moreG, grp, vals]
    | cons a q =>
      rw [if_neg (by simp)]
      have hl : ((a :: q).length : Int) ≠ 0 := by simp; omega
      simp only [moreG, grp, vals, List.map_append, List.map_cons, List.map_nil, List.sum_append, List.sum_cons, List.sum_nil, List.foldl_append, List.foldl_cons, List.foldl_nil, List.length_append, List.length_singleton, List.cons_append, List.headD_cons]
      simp only [hl, false_or, Group.mk.injEq, true_and]
      refine ⟨by simp, by omega, ?_, ?_⟩
      · split <;> omega
      · split <;> omega
theorem foldG_take (key : Int) (m : List Pair) (k : Nat) (hk : k < m.length) : foldG key (m.take (k + 1)) = moreG (foldG key (m.take k)) m[k].val := by rw [List.take_succ_eq_append_getElem hk, foldG_snoc]
theorem foldG_bounds (key : Int) (m : List Pair) (hm : m.length ≤ 1000000) (hok : ∀ p ∈ m, okPair p = true) : (0 ≤ (foldG key m).n ∧ (foldG key m).n ≤ 1000000) ∧ (-1152921504606846976 ≤ (foldG key m).sum ∧ (foldG key m).sum ≤ 1152921504606846976) := by
  rw [foldG_eq]
  split
  · simp
  · have h := sum_take_bounds m hok m.length hm
    rw [show (vals m).take m.length = vals m from List.take_of_length_le (by simp [vals])] at h
    simp only [grp]
    omega

set_option maxRecDepth 100000 in
set_option maxHeartbeats 2000000 in
theorem ref22_Total (A B : Option Addr) (c d : Nat) (l : List Pair) (on : List Span) (w : World) (hr : Sl kPair w A c l) (hs : Sl kSpan w B d on) (hbig : l.length ≤ 1000000) :
    Calls Try.prog 37 #[.slice A l.length c, .slice B on.length d] w fun e w' => e = .returned (vGroup (foldG 0 (clip l on))) ∧ Below w.heap.size w w' := by
  have HE := Aside0.mk (fun W (h : Below w.heap.size w W) => calls_own (ref05_Clip A B c d l on W (hr.below h) (hs.below h) hbig))
  have hok := Aside0.mk (fun p (h : p ∈ clip l on) => clip_ok h)
  have hal : (clip l on).length ≤ 1000000 := by have := clip_length l on; omega
  clear hr hs
  generalize clip l on = all at *
  go_enter Try.func37, Try.ntmps37
  go_wp2_with (go_at_call 41; refine calls_box1 ?_; intro W0 hX hb0; have HX := Aside0.mk hX; have b0 := Aside0.mk hb0; clear hX hb0; have HQ := Aside0.mk (Below.refl W0.heap.size W0); refine (HE.out _ HX.out).mono ?_; rintro e w1 ⟨C, c1, rfl, ho, hs1, hb⟩; have HS1 := Aside0.mk hs1; clear ho hs1; have hq := via HQ.out hb; clear HQ hb; have HQ := Aside0.mk hq; (try clear x0 x1 x2); obtain ⟨x0, x1, x2⟩ := box_later hq b0.out; clear hq)
  have hz := x2
  clear x0 x1 x2
  go_loopw [7] (fun i wr => ∃ k : Nat, k ≤ all.length ∧ i = .int .i64 k ∧ Aside0 (wr.heap[w1.heap.size]? = some (.cells #[.int .i64 (foldG 0 (all.take k)).key, .int .i64 (foldG 0 (all.take k)).n, .int .i64 (foldG 0 (all.take k)).sum, .int .i64 (foldG 0 (all.take k)).least, .int .i64 (foldG 0 (all.take k)).most] 77 (0, 0))) ∧ Aside0 (Below w1.heap.size w1 wr)) (fun i _ => all.length - (intOf i).toNat)
  case atStart => exact ⟨0, by omega, rfl, ⟨box_top _ _⟩, ⟨below_alloc (Below.refl _ _) _⟩⟩
  case round =>
    obtain ⟨k, hk, rfl, hG, hB⟩ := hrel
    by_cases hlt : k < all.length
    · obtain ⟨ad, rfl, c0, c1_⟩ := pair_at (HS1.out.below hB.out) k hlt
      have hbd := foldG_bounds 0 (all.take k) (by rw [List.length_take]; omega) (fun p hp => hok.out p (List.mem_of_mem_take hp))
      have hvb := okPair_val (hok.out all[k] (by simp))
      have hst := Aside0.mk (foldG_take 0 all k hlt)
      generalize foldG 0 (all.take k) = g at *
      generalize all[k].val = v at *
      have HM := Aside0.mk (fun W => ref22_more g v W hbd.1 hbd.2 hvb)
      have hG9 := Aside0.mk hG.out
      clear hbd hvb
      go_wp2
      refine start_ (n := 8) (S := fun w' => w'.heap[w1.heap.size]? = some (.cells #[.int .i64 g.key, .int .i64 g.n, .int .i64 g.sum, .int .i64 g.least, .int .i64 g.most] 77 (0, 0)) ∧ (∀ i, w'.cell? ⟨w1.heap.size, i, none⟩ = (#[.int .i64 g.key, .int .i64 g.n, .int .i64 g.sum, .int .i64 g.least, .int .i64 g.most] : Array Value)[i]?) ∧ w'.cell? ⟨(ad.add (k * 2)).block, (ad.add (k * 2)).off + 1, none⟩ = some (.int .i64 v) ∧ Below wr.heap.size wr w') (ds := [7]) #[false, false, false, false, false, false, false, false] (by kernel_rfl) rfl rfl ⟨hG.out, (fun i => blk_cell hG.out i), c1_, below_drew (Below.refl _ _)⟩ (fun hHeld => ?_)
      refine pure_ (i := 1) (N := some 18) (v := ?_) (a' := ?_) #[false, true, false, false, false, false, false, false] rfl rfl (by kernel_rfl) (fun _ _ _ h => h) (Or.inl ⟨by rfl, ?_⟩) ?_ ?_
      rotate_left
      · intro w'
        go_simp
        with_reducible rfl
      rotate_left
      · simp only [Act.put, List.setIfInBounds_toArray, List.set_cons_zero, List.set_cons_succ, i64_w, i32_w]
        rfl
      refine pure_ (i := 2) (N := some 19) (v := ?_) (a' := ?_) #[false, true, true, false, false, false, false, false] rfl rfl (by kernel_rfl) (fun _ _ _ h => h) (Or.inl ⟨by rfl, ?_⟩) ?_ ?_
      rotate_left
      · intro w'
        go_simp
        with_reducible rfl
      rotate_left
      · simp only [Act.put, List.setIfInBounds_toArray, List.set_cons_zero, List.set_cons_succ, i64_w, i32_w]
        rfl
      refine pure_ (i := 3) (N := some 20) (v := ?_) (a' := ?_) #[false, true, true, true, false, false, false, false] rfl rfl (by kernel_rfl) (fun _ _ _ h => h) (Or.inl ⟨by rfl, ?_⟩) ?_ ?_
      rotate_left
      · intro w'
        go_simp
        with_reducible rfl
      rotate_left
      · simp only [Act.put, List.setIfInBounds_toArray, List.set_cons_zero, List.set_cons_succ, i64_w, i32_w]
        rfl
      refine pure_ (i := 4) (N := some 21) (v := ?_) (a' := ?_) #[false, true, true, true, true, false, false, false] rfl rfl (by kernel_rfl) (fun _ _ _ h => h) (Or.inl ⟨by rfl, ?_⟩) ?_ ?_
      rotate_left
      · intro w'
        go_simp
        with_reducible rfl
      rotate_left
      · simp only [Act.put, List.setIfInBounds_toArray, List.set_cons_zero, List.set_cons_succ, i64_w, i32_w]
        rfl
      refine take_ (i := 0) (N := some 17) (v := ?_) (a' := ?_) #[true, true, true, true, true, false, false, false] rfl rfl (by kernel_rfl) (fun _ _ _ h => h) (Or.inl ⟨by rfl, ?_⟩) hHeld ?_ ?_
      rotate_left
      · rintro w' ⟨s0, s1, s2, s3⟩
        go_simp
        with_reducible rfl
      rotate_left
      · simp only [Act.put, List.setIfInBounds_toArray, List.set_cons_zero, List.set_cons_succ, i64_w, i32_w]
        rfl
      refine take_ (i := 5) (N := some 22) (v := ?_) (a' := ?_) #[true, true, true, true, true, true, false, false] rfl rfl (by kernel_rfl) (fun _ _ _ h => h) (Or.inl ⟨by rfl, ?_⟩) hHeld ?_ ?_
      rotate_left
      · rintro w' ⟨s0, s1, s2, s3⟩
        go_simp
        with_reducible rfl
      rotate_left
      · simp only [Act.put, List.setIfInBounds_toArray, List.set_cons_zero, List.set_cons_succ, i64_w, i32_w]
        rfl
      refine one_ (i := 6) (N := some 23) #[true, true, true, true, true, true, true, false] rfl rfl (by kernel_rfl) (by decide) (fun K hK => ?_)
      refine goes_ Try.func105 (by kernel_rfl) rfl #[vGroup g, .int .i64 v] (by rfl) rfl rfl (by simp only [List.map_toArray, List.map_cons, List.map_nil]; rfl) ?_
      with_reducible refine (HM.out _).mono ?_
      rintro e w5 ⟨rfl, hb⟩
      refine ⟨_, rfl, ?_⟩
      refine hK.out _ _ ⟨blk_keep hb hHeld.1, (fun i => blk_cell (blk_keep hb hHeld.1) i), pw_cell_below hb hHeld.2.2.1, via hHeld.2.2.2 hb⟩ (fun hHeld => ?_)
      clear hK K
      refine norm_ (a' := ?_) ?_ ?_
      rotate_left
      · show Act.put _ (some 23) _ = _
        simp only [Act.put, List.setIfInBounds_toArray, List.set_cons_zero, List.set_cons_succ, i64_w, i32_w]
        rfl
      refine last_ (i := 7) (N := none) #[true, true, true, true, true, true, true, true] rfl rfl (by kernel_rfl) (by decide) (fun K hK => ?_)
      have hg5 := hHeld.1
      have q0 := blk_cell hg5
      have q1 := blk_frozen hg5
      have q2 := blk_lt hg5
      have hb5 := hHeld.2.2.2
      refine skip_ (w1 := ?_) (by rfl) rfl ?_ ?_
      rotate_left
      · go_simp
        rfl
      refine hK.out _ _ ?_
      clear hK K
      refine done_ (by kernel_rfl) ?_

      have hgs := Aside0.mk (blk_set (blk_set (blk_set (blk_set (blk_set hg5 0 (.int .i64 (moreG g v).key)) 1 (.int .i64 (moreG g v).n)) 2 (.int .i64 (moreG g v).sum)) 3 (.int .i64 (moreG g v).least)) 4 (.int .i64 (moreG g v).most))
      have hb6 := Aside0.mk (via hB.out hb5)
      clear q0 q1 q2 hg5 hb5 c0 c1_
      go_wp2
      go_roundw
      case rel =>
        refine ⟨k + 1, by omega, by go_num, ⟨?_⟩, ⟨(by repeat (with_reducible (first | exact Below.refl _ _ | exact Aside0.out (by assumption) | apply below_alloc | apply pw_below_drewN | apply below_drew | refine below_set ?_ (by (first | omega | (simp; done) | (simp; omega))) | refine via ?_ (Aside0.out (by assumption)))))⟩⟩
        rw [hst.out]
        exact hgs.out
      case measure => simp [intOf]; omega
    · obtain rfl : k = all.length := by omega
      rw [List.take_length] at hG
      obtain ⟨g, E⟩ : ∃ g, foldG 0 all = g := ⟨_, rfl⟩
      rw [E] at hG
      have E := Aside0.mk E
      obtain ⟨g1, g2, g3⟩ : (∀ i, wr.cell? ⟨w1.heap.size, i, none⟩ = (#[.int .i64 g.key, .int .i64 g.n, .int .i64 g.sum, .int .i64 g.least, .int .i64 g.most] : Array Value)[i]?) ∧ True ∧ True := ⟨blk_cell hG.out, trivial, trivial⟩
      have hy := blk_keep hB.out (blk_keep HQ.out b0.out)
      have z2 := blk_frozen hy
      have z3 := blk_lt hy
      have z5 := blk_cell hy
      have HY := Aside0.mk hy
      clear hy
      go_wp2
      have q1 := blk_cell (blk_set (blk_set (blk_set (blk_set (blk_set HY.out 0 (.int .i64 g.key)) 1 (.int .i64 g.n)) 2 (.int .i64 g.sum)) 3 (.int .i64 g.least)) 4 (.int .i64 g.most))
      clear g1 z2 z3 z5
      have hb6 := Aside0.mk (via (via HX.out HQ.out) hB.out)
      refine bodyPost_ret (v := vGroup g) (by simp [results, Try.results37, go_sem, q1]) rfl ⟨by rw [E.out], (by repeat (with_reducible (first | exact Below.refl _ _ | exact Aside0.out (by assumption) | apply below_alloc | apply pw_below_drewN | apply below_drew | refine below_set ?_ (by (first | omega | (simp; done) | (simp; omega))) | refine via ?_ (Aside0.out (by assumption)))))⟩

end Go.Proofs.Ytoeipkjpgbdioaa
