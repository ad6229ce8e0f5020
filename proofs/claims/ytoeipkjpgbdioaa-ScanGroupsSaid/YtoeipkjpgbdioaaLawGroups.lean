/- The law ScanGroups: what it answers. -/
import Derived.Test.YtoeipkjpgbdioaaGroupsRows
import Derived.Test.YtoeipkjpgbdioaaPlaces
set_option linter.unusedVariables false
set_option linter.unusedSimpArgs false
namespace Go.Proofs.Ytoeipkjpgbdioaa
open Go.RowKit Go.Shelf Go.Proofs.YtoeipkjpgbdioaaW.PrintWords Go.Proofs.YtoeipkjpgbdioaaW.PrintLast

set_option maxHeartbeats 2000000 in
theorem law22_groups (A B : Option Addr) (c d : Nat) (l : List Group) (w : World) (hr : Sl kGroup w A c l) (hs : Sl kGroup w B d l) :
    Calls Try.prog 38 #[.slice A l.length c, .slice B l.length d] w fun e w' => e = .returned (.bool true) ∧ Below w.heap.size w w' := by
  have HR := Aside0.mk hr
  have HS := Aside0.mk hs
  have hm := hr.max
  clear hr hs
  go_enter Try.func38, Try.ntmps38
  go_wp2
  go_loopw [5] (fun i wr => ∃ k : Nat, k ≤ l.length ∧ i = .int .i64 k ∧ Aside0 (Below w.heap.size w wr)) (fun i _ => l.length - (intOf i).toNat)
  case atStart => exact ⟨0, by omega, rfl, ⟨Below.refl _ _⟩⟩
  case round =>
    obtain ⟨k, hk, rfl, hB⟩ := hrel
    by_cases hlt : k < l.length
    · obtain ⟨ad, rfl, a0, a1, a2, a3, a4⟩ := group_at (HR.out.below hB.out) k hlt
      obtain ⟨bd, rfl, b0, b1, b2, b3, b4⟩ := group_at (HS.out.below hB.out) k hlt
      generalize l[k] = g at *
      go_wp2
      go_quiet (fail)
      go_wp2
      go_roundw
      case rel => exact ⟨k + 1, by omega, by go_num, ⟨(by repeat (with_reducible (first | exact Below.refl _ _ | exact Aside0.out (by assumption) | apply below_alloc | apply pw_below_drewN | apply below_drew | refine below_set ?_ (by (first | omega | (simp; done) | (simp; omega))) | refine via ?_ (Aside0.out (by assumption)))))⟩⟩
      case measure => simp [intOf]; omega
    · go_wp2
      go_ret
      exact ⟨rfl, hB.out⟩

set_option maxHeartbeats 4000000 in
set_option maxRecDepth 100000 in
theorem law22_ScanGroups (A B : Option Addr) (c d : Nat) (l : List Pair) (on : List Span) (wd : Int) (w : World) (hr : Sl kPair w A c l) (hs : Sl kSpan w B d on) :
    Calls Try.prog 6 #[.slice A l.length c, .slice B on.length d, .int .i64 wd] w fun e w' => e = .returned (.bool true) ∧ Below w.heap.size w w' := by
  have HFew := Aside0.mk (law22_few A B c d l on w)
  have HAw := Aside0.mk (fun W => law22_awake W)
  have hr0 := Aside0.mk hr
  have hs0 := Aside0.mk hs
  clear hr hs
  cases ef : few l on with
  | false =>
    rw [ef] at HFew
    clear ef
    go_enter Try.func6, Try.ntmps6
    go_wp2_with (first | (go_at_call 24; with_reducible refine HFew.out.mono ?_; rintro e w1 ⟨rfl, hb⟩; have HB1 := Aside0.mk hb; clear hb) | (go_at_call 25; with_reducible refine (HAw.out _).mono ?_; rintro e w2 ⟨rfl, hb⟩; have HB2 := Aside0.mk (via HB1.out hb); clear hb))
    go_ret
    exact ⟨rfl, HB2.out⟩
  | true =>
    have hl : l.length ≤ 100 ∧ on.length ≤ 100 := by simpa [few] using ef
    rw [ef] at HFew
    clear ef
    obtain ⟨hl1, hl2⟩ := hl
    have HG := Aside0.mk (fun W (h : Below w.heap.size w W) => scan_Groups A B c d l on wd W (hr0.out.below h) (hs0.out.below h) (by omega))
    have HT := Aside0.mk (fun W (h : Below w.heap.size w W) => scan_Total A B c d l on W (hr0.out.below h) (hs0.out.below h) (by omega))
    have HR5 := Aside0.mk (fun W (h : Below w.heap.size w W) => calls_own (law05_Refs A c l W (hr0.out.below h) (by omega)))
    have HR3 := Aside0.mk (fun W (h : Below w.heap.size w W) => calls_own (law03_Refs B d on W (hs0.out.below h) (by omega)))
    have HG2 := Aside0.mk (fun C c' D d' W (h1 : Sl kPair W C c' l) (h2 : Sl kSpan W D d' on) => ref22_Groups C D c' d' l on wd W h1 h2 (by omega))
    have HT2 := Aside0.mk (fun C c' D d' W (h1 : Sl kPair W C c' l) (h2 : Sl kSpan W D d' on) => ref22_Total C D c' d' l on W h1 h2 (by omega))
    rw [show foldG 0 (clip l on) = totalOf (clip l on) by rw [foldG_eq]; rfl] at HT2
    have hgl := gaL_length l on wd
    generalize gaL l on wd = gs at *
    generalize gaE l on wd = ge at *
    generalize totalOf (clip l on) = tot at *
    have HSm := Aside0.mk (fun C c' D d' W (h1 : Sl kGroup W C c' gs) (h2 : Sl kGroup W D d' gs) => law22_groups C D c' d' gs W h1 h2)
    go_enter Try.func6, Try.ntmps6
    go_wp2_with (first
      | (go_at_call 24; with_reducible refine HFew.out.mono ?_; rintro e w1 ⟨rfl, hb⟩; have HB1 := Aside0.mk hb; clear hb)
      | (go_at_call 35; with_reducible refine (HG.out _ HB1.out).mono ?_; rintro e w2 ⟨C, c2, rfl, hs, hb⟩; have HB2 := Aside0.mk (via HB1.out hb); have HS2 := Aside0.mk hs; clear hs hb)
      | (go_at_call 36; with_reducible refine (HG2.out _ _ _ _ _ HS34.out HS4.out).mono ?_; rintro e w5 ⟨C5, c5, rfl, hs, hb⟩; have HB5 := Aside0.mk (via HB4.out hb); have HS5 := Aside0.mk hs; have HS25 := Aside0.mk (HS24.out.below hb); clear hs hb HB2)
      | (go_at_call 28; with_reducible refine (HR5.out _ HB2.out).mono ?_; rintro e w3 ⟨C3, c3, rfl, ho, hs, hb⟩; have HB3 := Aside0.mk (via HB2.out hb); have HS3 := Aside0.mk hs; have HS23 := Aside0.mk (HS2.out.below hb); clear ho hs hb)
      | (go_at_call 28; with_reducible refine (HR5.out _ HB5.out).mono ?_; rintro e w6 ⟨C6, c6, rfl, ho, hs, hb⟩; have HB6 := Aside0.mk (via HB5.out hb); have HS6 := Aside0.mk hs; have HS26 := Aside0.mk (HS25.out.below hb); have HS56 := Aside0.mk (HS5.out.below hb); clear ho hs hb HB3)
      | (go_at_call 34; with_reducible refine (HR3.out _ HB3.out).mono ?_; rintro e w4 ⟨C4, c4, rfl, ho, hs, hb⟩; have HB4 := Aside0.mk (via HB3.out hb); have HS4 := Aside0.mk hs; have HS34 := Aside0.mk (HS3.out.below hb); have HS24 := Aside0.mk (HS23.out.below hb); clear ho hs hb)
      | (go_at_call 34; with_reducible refine (HR3.out _ HB6.out).mono ?_; rintro e w7 ⟨C7, c7, rfl, ho, hs, hb⟩; have HB7 := Aside0.mk (via HB6.out hb); have HS7 := Aside0.mk hs; have HS67 := Aside0.mk (HS6.out.below hb); have HS27 := Aside0.mk (HS26.out.below hb); have HS57 := Aside0.mk (HS56.out.below hb); clear ho hs hb)
      | (go_at_call 37; with_reducible refine (HT2.out _ _ _ _ _ HS67.out HS7.out).mono ?_; rintro e w8 ⟨rfl, hb⟩; have HB8 := Aside0.mk (via HB7.out hb); have HS28 := Aside0.mk (HS27.out.below hb); have HS58 := Aside0.mk (HS57.out.below hb); clear hb))
    have bx := Aside0.mk (box_top w8 (.cells #[.int .i64 tot.key, .int .i64 tot.n, .int .i64 tot.sum, .int .i64 tot.least, .int .i64 tot.most] 77))
    have hbb := below_alloc (Below.refl w8.heap.size w8) (.cells #[.int .i64 tot.key, .int .i64 tot.n, .int .i64 tot.sum, .int .i64 tot.least, .int .i64 tot.most] 77)
    have HB9 := Aside0.mk (via HB8.out hbb)
    have L1 := Aside0.mk (HS28.out.below (below_drew hbb))
    have L2 := Aside0.mk (HS58.out.below (below_drew hbb))
    clear hbb
    generalize (w8.alloc (.cells #[.int .i64 tot.key, .int .i64 tot.n, .int .i64 tot.sum, .int .i64 tot.least, .int .i64 tot.most] 77)) = W9 at *
    refine start_ (n := 19) (S := fun w' => w'.heap[w8.heap.size]? = some (.cells #[.int .i64 tot.key, .int .i64 tot.n, .int .i64 tot.sum, .int .i64 tot.least, .int .i64 tot.most] 77 (0, 0)) ∧ (∀ i, w'.cell? ⟨w8.heap.size, i, none⟩ = (#[.int .i64 tot.key, .int .i64 tot.n, .int .i64 tot.sum, .int .i64 tot.least, .int .i64 tot.most] : Array Value)[i]?) ∧ Below W9.heap.size W9 w') (ds := []) #[false, false, false, false, false, false, false, false, false, false, false, false, false, false, false, false, false, false, false] (by kernel_rfl) rfl rfl ⟨bx.out, (fun i => blk_cell bx.out i), below_drew (Below.refl _ _)⟩ (fun hHeld => ?_)
    refine one_ (i := 0) (N := some 38) #[true, false, false, false, false, false, false, false, false, false, false, false, false, false, false, false, false, false, false] rfl rfl (by kernel_rfl) (by decide) (fun K hK => ?_)
    refine goes_ Try.func25 (by kernel_rfl) rfl #[] (by rfl) rfl rfl (by simp only [List.map_toArray, List.map_nil]) ?_
    with_reducible refine (HAw.out _).mono ?_
    rintro e w20 ⟨rfl, hb⟩
    refine ⟨_, rfl, ?_⟩
    have L1 := Aside0.mk (L1.out.below hb)
    have L2 := Aside0.mk (L2.out.below hb)
    refine hK.out _ _ ⟨blk_keep hb hHeld.1, (fun i => blk_cell (blk_keep hb hHeld.1) i), via hHeld.2.2 hb⟩ (fun hHeld => ?_)
    clear hK K
    refine norm_ (a' := ?_) ?_ ?_
    rotate_left
    · show Act.put _ (some 38) _ = _
      simp only [Act.put, List.setIfInBounds_toArray, List.set_cons_zero, List.set_cons_succ, i64_w, i32_w]
      rfl
    refine pure_ (i := 1) (N := some 39) (v := ?_) (a' := ?_) #[true, true, false, false, false, false, false, false, false, false, false, false, false, false, false, false, false, false, false] rfl rfl (by kernel_rfl) (fun _ _ _ h => h) (Or.inl ⟨by rfl, ?_⟩) ?_ ?_
    rotate_left
    · intro w'
      go_simp
      with_reducible rfl
    rotate_left
    · simp only [Act.put, List.setIfInBounds_toArray, List.set_cons_zero, List.set_cons_succ, i64_w, i32_w]
      rfl
    refine pure_ (i := 2) (N := some 40) (v := ?_) (a' := ?_) #[true, true, true, false, false, false, false, false, false, false, false, false, false, false, false, false, false, false, false] rfl rfl (by kernel_rfl) (fun _ _ _ h => h) (Or.inl ⟨by rfl, ?_⟩) ?_ ?_
    rotate_left
    · intro w'
      go_simp
      with_reducible rfl
    rotate_left
    · simp only [Act.put, List.setIfInBounds_toArray, List.set_cons_zero, List.set_cons_succ, i64_w, i32_w]
      rfl
    refine pure_ (i := 3) (N := some 41) (v := ?_) (a' := ?_) #[true, true, true, true, false, false, false, false, false, false, false, false, false, false, false, false, false, false, false] rfl rfl (by kernel_rfl) (fun _ _ _ h => h) (Or.inl ⟨by rfl, ?_⟩) ?_ ?_
    rotate_left
    · intro w'
      go_simp
      with_reducible rfl
    rotate_left
    · simp only [Act.put, List.setIfInBounds_toArray, List.set_cons_zero, List.set_cons_succ, i64_w, i32_w]
      rfl
    refine one_ (i := 4) (N := some 42) #[true, true, true, true, true, false, false, false, false, false, false, false, false, false, false, false, false, false, false] rfl rfl (by kernel_rfl) (by decide) (fun K hK => ?_)
    refine goes_ Try.func38 (by kernel_rfl) rfl #[.slice C gs.length c2, .slice C5 gs.length c5] (by rfl) rfl rfl (by simp only [List.map_toArray, List.map_cons, List.map_nil]; rfl) ?_
    with_reducible refine (HSm.out _ _ _ _ _ L1.out L2.out).mono ?_
    rintro e w21 ⟨rfl, hb⟩
    refine ⟨_, rfl, ?_⟩
    have L1 := Aside0.mk (L1.out.below hb)
    have L2 := Aside0.mk (L2.out.below hb)
    refine hK.out _ _ ⟨blk_keep hb hHeld.1, (fun i => blk_cell (blk_keep hb hHeld.1) i), via hHeld.2.2 hb⟩ (fun hHeld => ?_)
    clear hK K
    refine norm_ (a' := ?_) ?_ ?_
    rotate_left
    · show Act.put _ (some 42) _ = _
      simp only [Act.put, List.setIfInBounds_toArray, List.set_cons_zero, List.set_cons_succ, i64_w, i32_w]
      rfl
    refine pure_ (i := 5) (N := some 43) (v := ?_) (a' := ?_) #[true, true, true, true, true, true, false, false, false, false, false, false, false, false, false, false, false, false, false] rfl rfl (by kernel_rfl) (fun _ _ _ h => h) (Or.inl ⟨by rfl, ?_⟩) ?_ ?_
    rotate_left
    · intro w'
      go_simp
      with_reducible rfl
    rotate_left
    · simp only [Act.put, List.setIfInBounds_toArray, List.set_cons_zero, List.set_cons_succ, i64_w, i32_w]
      rfl
    refine pure_ (i := 6) (N := some 44) (v := ?_) (a' := ?_) #[true, true, true, true, true, true, true, false, false, false, false, false, false, false, false, false, false, false, false] rfl rfl (by kernel_rfl) (fun _ _ _ h => h) (Or.inl ⟨by rfl, ?_⟩) ?_ ?_
    rotate_left
    · intro w'
      go_simp
      with_reducible rfl
    rotate_left
    · simp only [Act.put, List.setIfInBounds_toArray, List.set_cons_zero, List.set_cons_succ, i64_w, i32_w]
      rfl
    refine pure_ (i := 7) (N := some 45) (v := ?_) (a' := ?_) #[true, true, true, true, true, true, true, true, false, false, false, false, false, false, false, false, false, false, false] rfl rfl (by kernel_rfl) (fun _ _ _ h => h) (Or.inl ⟨by rfl, ?_⟩) ?_ ?_
    rotate_left
    · intro w'
      go_simp
      with_reducible rfl
    rotate_left
    · simp only [Act.put, List.setIfInBounds_toArray, List.set_cons_zero, List.set_cons_succ, i64_w, i32_w]
      rfl
    refine pure_ (i := 8) (N := some 46) (v := ?_) (a' := ?_) #[true, true, true, true, true, true, true, true, true, false, false, false, false, false, false, false, false, false, false] rfl rfl (by kernel_rfl) (fun _ _ _ h => h) (Or.inl ⟨by rfl, ?_⟩) ?_ ?_
    rotate_left
    · intro w'
      go_simp
      with_reducible rfl
    rotate_left
    · simp only [Act.put, List.setIfInBounds_toArray, List.set_cons_zero, List.set_cons_succ, i64_w, i32_w]
      rfl
    refine pure_ (i := 9) (N := some 47) (v := ?_) (a' := ?_) #[true, true, true, true, true, true, true, true, true, true, false, false, false, false, false, false, false, false, false] rfl rfl (by kernel_rfl) (fun _ _ _ h => h) (Or.inl ⟨by rfl, ?_⟩) ?_ ?_
    rotate_left
    · intro w'
      go_simp
      with_reducible rfl
    rotate_left
    · simp only [Act.put, List.setIfInBounds_toArray, List.set_cons_zero, List.set_cons_succ, i64_w, i32_w]
      rfl
    refine pure_ (i := 10) (N := some 48) (v := ?_) (a' := ?_) #[true, true, true, true, true, true, true, true, true, true, true, false, false, false, false, false, false, false, false] rfl rfl (by kernel_rfl) (fun _ _ _ h => h) (Or.inl ⟨by rfl, ?_⟩) ?_ ?_
    rotate_left
    · intro w'
      go_simp
      with_reducible rfl
    rotate_left
    · simp only [Act.put, List.setIfInBounds_toArray, List.set_cons_zero, List.set_cons_succ, i64_w, i32_w]
      rfl
    refine pure_ (i := 11) (N := some 49) (v := ?_) (a' := ?_) #[true, true, true, true, true, true, true, true, true, true, true, true, false, false, false, false, false, false, false] rfl rfl (by kernel_rfl) (fun _ _ _ h => h) (Or.inl ⟨by rfl, ?_⟩) ?_ ?_
    rotate_left
    · intro w'
      go_simp
      with_reducible rfl
    rotate_left
    · simp only [Act.put, List.setIfInBounds_toArray, List.set_cons_zero, List.set_cons_succ, i64_w, i32_w]
      rfl
    refine pure_ (i := 12) (N := some 50) (v := ?_) (a' := ?_) #[true, true, true, true, true, true, true, true, true, true, true, true, true, false, false, false, false, false, false] rfl rfl (by kernel_rfl) (fun _ _ _ h => h) (Or.inl ⟨by rfl, ?_⟩) ?_ ?_
    rotate_left
    · intro w'
      go_simp
      with_reducible rfl
    rotate_left
    · simp only [Act.put, List.setIfInBounds_toArray, List.set_cons_zero, List.set_cons_succ, i64_w, i32_w]
      rfl
    refine pure_ (i := 13) (N := some 51) (v := ?_) (a' := ?_) #[true, true, true, true, true, true, true, true, true, true, true, true, true, true, false, false, false, false, false] rfl rfl (by kernel_rfl) (fun _ _ _ h => h) (Or.inl ⟨by rfl, ?_⟩) ?_ ?_
    rotate_left
    · intro w'
      go_simp
      with_reducible rfl
    rotate_left
    · simp only [Act.put, List.setIfInBounds_toArray, List.set_cons_zero, List.set_cons_succ, i64_w, i32_w]
      rfl
    refine take_ (i := 15) (N := some 53) (v := ?_) (a' := ?_) #[true, true, true, true, true, true, true, true, true, true, true, true, true, true, false, true, false, false, false] rfl rfl (by kernel_rfl) (fun _ _ _ h => h) (Or.inl ⟨by rfl, ?_⟩) hHeld ?_ ?_
    rotate_left
    · rintro w' ⟨s0, s1, s2⟩
      go_simp
      with_reducible rfl
    rotate_left
    · simp only [Act.put, List.setIfInBounds_toArray, List.set_cons_zero, List.set_cons_succ, i64_w, i32_w]
      rfl
    refine one_ (i := 14) (N := some 52) #[true, true, true, true, true, true, true, true, true, true, true, true, true, true, true, true, false, false, false] rfl rfl (by kernel_rfl) (by decide) (fun K hK => ?_)
    refine goes_ Try.func39 (by kernel_rfl) rfl #[.slice A l.length c, .slice B on.length d] (by rfl) rfl rfl (by simp only [List.map_toArray, List.map_cons, List.map_nil]; rfl) ?_
    with_reducible refine (HT.out _ (via HB9.out hHeld.2.2)).mono ?_
    rintro e w22 ⟨rfl, hb⟩
    refine ⟨_, rfl, ?_⟩
    have L1 := Aside0.mk (L1.out.below hb)
    have L2 := Aside0.mk (L2.out.below hb)
    refine hK.out _ _ ⟨blk_keep hb hHeld.1, (fun i => blk_cell (blk_keep hb hHeld.1) i), via hHeld.2.2 hb⟩ (fun hHeld => ?_)
    clear hK K
    refine norm_ (a' := ?_) ?_ ?_
    rotate_left
    · show Act.put _ (some 52) _ = _
      simp only [Act.put, List.setIfInBounds_toArray, List.set_cons_zero, List.set_cons_succ, i64_w, i32_w]
      rfl
    refine pure_ (i := 16) (N := some 54) (v := ?_) (a' := ?_) #[true, true, true, true, true, true, true, true, true, true, true, true, true, true, true, true, true, false, false] rfl rfl (by kernel_rfl) (fun _ _ _ h => h) (Or.inl ⟨by rfl, ?_⟩) ?_ ?_
    rotate_left
    · intro w'
      go_simp
      with_reducible rfl
    rotate_left
    · simp only [Act.put, List.setIfInBounds_toArray, List.set_cons_zero, List.set_cons_succ, i64_w, i32_w]
      rfl
    refine pure_ (i := 17) (N := some 55) (v := ?_) (a' := ?_) #[true, true, true, true, true, true, true, true, true, true, true, true, true, true, true, true, true, true, false] rfl rfl (by kernel_rfl) (fun _ _ _ h => h) (Or.inl ⟨by rfl, ?_⟩) ?_ ?_
    rotate_left
    · intro w'
      go_simp
      with_reducible rfl
    rotate_left
    · simp only [Act.put, List.setIfInBounds_toArray, List.set_cons_zero, List.set_cons_succ, i64_w, i32_w]
      rfl
    refine pure_ (i := 18) (N := some 6) (v := ?_) (a' := ?_) #[true, true, true, true, true, true, true, true, true, true, true, true, true, true, true, true, true, true, true] rfl rfl (by kernel_rfl) (fun _ _ _ h => h) (Or.inl ⟨by rfl, ?_⟩) ?_ ?_
    rotate_left
    · intro w'
      go_simp
      with_reducible rfl
    rotate_left
    · simp only [Act.put, List.setIfInBounds_toArray, List.set_cons_zero, List.set_cons_succ, i64_w, i32_w]
      rfl
    refine done_ (by kernel_rfl) ?_

    go_wp2
    go_ret
    exact ⟨rfl, via HB9.out hHeld.2.2⟩

end Go.Proofs.Ytoeipkjpgbdioaa
