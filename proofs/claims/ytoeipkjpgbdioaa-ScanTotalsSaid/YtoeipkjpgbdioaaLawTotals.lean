/- The law ScanTotals: what it answers. -/
import Derived.Test.YtoeipkjpgbdioaaGroupsLaw
import Derived.Test.YtoeipkjpgbdioaaPlaces
set_option linter.unusedVariables false
set_option linter.unusedSimpArgs false
namespace Go.Proofs.Ytoeipkjpgbdioaa
open Go.RowKit Go.Shelf Go.Proofs.YtoeipkjpgbdioaaW.PrintWords

theorem accN_succ (gs : List Group) (k : Nat) (hk : k < gs.length) : accN (gs.take (k + 1)) = accN (gs.take k) + gs[k].n := by
  rw [accN, accN, List.take_succ_eq_append_getElem hk, List.map_append, List.sum_append]; simp
theorem accS_succ (gs : List Group) (k : Nat) (hk : k < gs.length) : accS (gs.take (k + 1)) = accS (gs.take k) + gs[k].sum := by
  rw [accS, accS, List.take_succ_eq_append_getElem hk, List.map_append, List.sum_append]; simp
theorem accL_succ (gs : List Group) (k : Nat) (hk : k < gs.length) : accL (gs.take (k + 1)) = min (accL (gs.take k)) gs[k].least := by
  rw [accL, accL, List.take_succ_eq_append_getElem hk, List.map_append, List.foldl_append]; rfl
theorem accM_succ (gs : List Group) (k : Nat) (hk : k < gs.length) : accM (gs.take (k + 1)) = max (accM (gs.take k)) gs[k].most := by
  rw [accM, accM, List.take_succ_eq_append_getElem hk, List.map_append, List.foldl_append]; rfl
theorem sum_le (l : List Int) (b : Int) (hb : 0 ≤ b) (h : ∀ x ∈ l, -b ≤ x ∧ x ≤ b) : -(b * l.length : Int) ≤ l.sum ∧ l.sum ≤ (b * l.length : Int) := by
  induction l with
  | nil => simp
  | cons a l ih =>
    have h1 := ih (fun x hx => h x (List.mem_cons_of_mem _ hx))
    have h2 := h a List.mem_cons_self
    simp only [List.sum_cons, List.length_cons, Int.natCast_add, Int.mul_add]
    omega

theorem groups_sum {l : List Pair} (hok : ∀ p ∈ l, okPair p = true) (hl : l.length ≤ 100) (wd : Int) (i : Nat) (h : i < (groups wd l).length) : -109951162777600 ≤ (groups wd l)[i].sum ∧ (groups wd l)[i].sum ≤ 109951162777600 := by
  have hl2 := groups_length wd l
  have e : (groups wd l)[i].sum = (vals ((l.take ((cuts (togW wd) l)[i]'(by omega)).2).drop ((cuts (togW wd) l)[i]'(by omega)).1)).sum := by simp [groups, gAt, grp]
  rw [e]
  generalize (cuts (togW wd) l)[i] = p
  have hb := sum_bounds (vals ((l.take p.2).drop p.1)) (fun x hx => by
    simp only [vals, List.mem_map] at hx
    obtain ⟨q, hq, rfl⟩ := hx
    exact okPair_val (hok q (List.mem_of_mem_take (List.mem_of_mem_drop hq))))
  have hn : (vals ((l.take p.2).drop p.1)).length ≤ 100 := by simp [vals]; omega
  omega

theorem acc_bounds {l : List Pair} (hok : ∀ p ∈ l, okPair p = true) (hl : l.length ≤ 100) {wd : Int} (hw : 1 ≤ wd) : ∀ k, k ≤ (groups wd l).length → 0 ≤ accN ((groups wd l).take k) ∧ accN ((groups wd l).take k) ≤ 100 * k ∧ -109951162777600 * k ≤ accS ((groups wd l).take k) ∧ accS ((groups wd l).take k) ≤ 109951162777600 * k
  | 0, _ => by simp [accN, accS]
  | k + 1, hk => by
    have ih := acc_bounds hok hl hw k (by omega)
    have h1 := groups_mem hok hw k (by omega)
    have h2 := groups_sum hok hl wd k (by omega)
    rw [accN_succ _ k (by omega), accS_succ _ k (by omega)]
    omega

set_option maxHeartbeats 4000000 in
set_option maxRecDepth 100000 in
theorem law22_ScanTotals (A B : Option Addr) (c d : Nat) (l : List Pair) (on : List Span) (wd : Int) (w : World) (hr : Sl kPair w A c l) (hs : Sl kSpan w B d on) :
    Calls Try.prog 7 #[.slice A l.length c, .slice B on.length d, .int .i64 wd] w fun e w' => e = .returned (.bool true) ∧ Below w.heap.size w w' := by
  have HFew := Aside0.mk (law22_few A B c d l on w)
  have HAw := Aside0.mk (fun W => law22_awake W)
  have hr0 := Aside0.mk hr
  have hs0 := Aside0.mk hs
  clear hr hs
  cases ef : few l on with
  | false =>
    rw [ef] at HFew
    clear ef
    go_enter Try.func7, Try.ntmps7
    go_wp2_with (first | (go_at_call 24; with_reducible refine HFew.out.mono ?_; rintro e w1 ⟨rfl, hb⟩; have HB1 := Aside0.mk hb; clear hb) | (go_at_call 25; with_reducible refine (HAw.out _).mono ?_; rintro e w4 ⟨rfl, hb⟩; have HB4 := Aside0.mk (via HB1.out hb); clear hb))
    go_ret
    exact ⟨rfl, HB4.out⟩
  | true =>
    have hl : l.length ≤ 100 ∧ on.length ≤ 100 := by simpa [few] using ef
    rw [ef] at HFew
    clear ef
    have hal : (clip l on).length ≤ 100 := by have := clip_length l on; omega
    have HT := Aside0.mk (fun W (h : Below w.heap.size w W) => scan_Total A B c d l on W (hr0.out.below h) (hs0.out.below h) (by omega))
    cases eg : gBad l on wd with
    | true =>
      have HG := Aside0.mk (fun W (h : Below w.heap.size w W) => scan_Groups_bad A B c d l on wd W (hr0.out.below h) (hs0.out.below h) eg)
      clear eg
      generalize totalOf (clip l on) = tot at *
      go_enter Try.func7, Try.ntmps7
      go_wp2_with (first
        | (go_at_call 24; with_reducible refine HFew.out.mono ?_; rintro e w1 ⟨rfl, hb⟩; have HB1 := Aside0.mk hb; clear hb)
        | (go_at_call 35; with_reducible refine (HG.out _ HB1.out).mono ?_; rintro e w2 ⟨rfl, hb⟩; have HB2 := Aside0.mk (via HB1.out hb); clear hb)
        | (go_at_call 39; with_reducible refine (HT.out _ HB2.out).mono ?_; rintro e w3 ⟨rfl, hb⟩; have HB3 := Aside0.mk (below_alloc (via HB2.out hb) (.cells #[.int .i64 tot.key, .int .i64 tot.n, .int .i64 tot.sum, .int .i64 tot.least, .int .i64 tot.most] 80)); clear hb)
        | (go_at_call 25; with_reducible refine (HAw.out _).mono ?_; rintro e w4 ⟨rfl, hb⟩; have HB4 := Aside0.mk (via HB3.out hb); clear hb))
      go_ret
      exact ⟨rfl, HB4.out⟩
    | false =>
      have HG := Aside0.mk (fun W (h : Below w.heap.size w W) => scan_Groups_good A B c d l on wd W (hr0.out.below h) (hs0.out.below h) (by omega) eg)
      have hw : 1 ≤ wd ∧ wd ≤ 4096 := by
        simp [gBad] at eg
        omega
      have hok : ∀ p ∈ clip l on, okPair p = true := fun p hp => clip_ok hp
      have hpw := clip_pairwise l on
      have HTT := Aside0.mk (groups_total hok wd)
      have HRI := Aside0.mk (show ∀ i (h : i + 1 < (groups wd (clip l on)).length), ((groups wd (clip l on))[i]'(Nat.lt_of_succ_lt h)).key < ((groups wd (clip l on))[i + 1]'h).key from fun i h => groups_rise hpw hw.1 i h)
      have HME := Aside0.mk (fun i h => groups_mem hok hw.1 i h)
      have HSU := Aside0.mk (fun i h => groups_sum hok hal wd i h)
      have HAB := Aside0.mk (acc_bounds hok hal hw.1)
      have hgl : (groups wd (clip l on)).length ≤ 100 := by
        have h1 := groups_length wd (clip l on)
        have h2 := cuts_length (togW wd) (clip l on)
        omega
      have HTO := Aside0.mk (show totalOf (clip l on) = if (clip l on).length = 0 then zeroGroup else grp 0 (clip l on) from rfl)
      clear eg hok hpw
      obtain ⟨hw1, hw2⟩ := hw
      generalize totalOf (clip l on) = tot at *
      generalize groups wd (clip l on) = gs at *
      generalize clip l on = all at *
      go_enter Try.func7, Try.ntmps7
      go_wp2_with (first
        | (go_at_call 24; with_reducible refine HFew.out.mono ?_; rintro e w1 ⟨rfl, hb⟩; have HB1 := Aside0.mk hb; clear hb)
        | (go_at_call 35; with_reducible refine (HG.out _ HB1.out).mono ?_; rintro e w2 ⟨C, c2, rfl, ho, hb⟩; have HB2 := Aside0.mk (via HB1.out hb); have HS2 := Aside0.mk ho.sl'; clear ho hb)
        | (go_at_call 39; with_reducible refine (HT.out _ HB2.out).mono ?_; rintro e w3 ⟨rfl, hb⟩; have HS3 := Aside0.mk ((HS2.out.below hb).below (below_alloc (Below.refl _ _) (.cells #[.int .i64 tot.key, .int .i64 tot.n, .int .i64 tot.sum, .int .i64 tot.least, .int .i64 tot.most] 80))); have b0 := Aside0.mk (box_top w3 (.cells #[.int .i64 tot.key, .int .i64 tot.n, .int .i64 tot.sum, .int .i64 tot.least, .int .i64 tot.most] 80)); have HB3 := Aside0.mk (below_alloc (via HB2.out hb) (.cells #[.int .i64 tot.key, .int .i64 tot.n, .int .i64 tot.sum, .int .i64 tot.least, .int .i64 tot.most] 80)); clear hb))
      go_loopw [10, 11, 12, 13, 14] (fun a b x y i wr => ∃ k : Nat, k ≤ gs.length ∧ i = .int .i64 k ∧ a = .int .i64 (accN (gs.take k)) ∧ b = .int .i64 (accS (gs.take k)) ∧ x = .int .i64 (accL (gs.take k)) ∧ y = .int .i64 (accM (gs.take k)) ∧ Aside0 (Below (w3.alloc (.cells #[.int .i64 tot.key, .int .i64 tot.n, .int .i64 tot.sum, .int .i64 tot.least, .int .i64 tot.most] 80)).heap.size (w3.alloc (.cells #[.int .i64 tot.key, .int .i64 tot.n, .int .i64 tot.sum, .int .i64 tot.least, .int .i64 tot.most] 80)) wr)) (fun _ _ _ _ i _ => gs.length - (intOf i).toNat)
      case atStart => exact ⟨0, by omega, rfl, rfl, rfl, rfl, rfl, ⟨Below.refl _ _⟩⟩
      case round =>
        obtain ⟨k, hk, rfl, rfl, rfl, rfl, rfl, hB⟩ := hrel
        by_cases hlt : k < gs.length
        · have hgn := HAB.out k hk
          have hme := HME.out k hlt
          have hsu := HSU.out k hlt
          have s1 := Aside0.mk (accN_succ gs k hlt)
          have s2 := Aside0.mk (accS_succ gs k hlt)
          have s3 := Aside0.mk (accL_succ gs k hlt)
          have s4 := Aside0.mk (accM_succ gs k hlt)
          obtain ⟨ad, rfl, a0, a1, a2, a3, a4⟩ := group_at (HS3.out.below hB.out) k hlt
          have n0 : (wd == 0) = false := by simp; omega
          have n1 : ¬ wd = 0 := by omega
          generalize accN (gs.take k) = an at *
          generalize accS (gs.take k) = as' at *
          generalize accL (gs.take k) = al at *
          generalize accM (gs.take k) = am at *
          have hw3 : IntKind.i64.wrap (an + gs[k].n) = an + gs[k].n := IntWalk.i64_in _ (by omega)
          have hw4 : IntKind.i64.wrap (as' + gs[k].sum) = as' + gs[k].sum := IntWalk.i64_in _ (by omega)
          have hw5 : wrap64 (an + gs[k].n) = an + gs[k].n := IntWalk.wrap64_in _ (by omega)
          have hw6 : wrap64 (as' + gs[k].sum) = as' + gs[k].sum := IntWalk.wrap64_in _ (by omega)
          have hrem : IntKind.i64.wrap (gs[k].key.tmod wd) = 0 := by rw [Int.tmod_eq_emod_of_nonneg hme.2.1, hme.1]; decide
          have hrem2 : wrap64 (gs[k].key.tmod wd) = 0 := by rw [Int.tmod_eq_emod_of_nonneg hme.2.1, hme.1]; exact IntWalk.wrap64_in _ (by omega)
          have t5 : decide (gs[k].n < 1) = false := by simp; omega
          clear hsu hgn
          by_cases h0 : k = 0
          · subst h0
            rw [show ad.add (0 * 5) = ad from rfl] at a0 a1 a2 a3 a4
            go_wp2
            go_quiet (fail)
            go_wp2
            go_roundw
            case rel => exact ⟨1, by omega, rfl, by rw [s1.out], by rw [s2.out], by rw [s3.out], by rw [s4.out], ⟨(by repeat (with_reducible (first | exact Below.refl _ _ | exact Aside0.out (by assumption) | apply below_alloc | apply pw_below_drewN | apply below_drew | refine below_set ?_ (by (first | omega | (simp; done) | (simp; omega))) | refine via ?_ (Aside0.out (by assumption)))))⟩⟩
            case measure => simp [intOf]; omega
          · obtain ⟨j, rfl⟩ : ∃ j, k = j + 1 := ⟨k - 1, by omega⟩
            obtain ⟨_, e1, b0, _⟩ := group_at (HS3.out.below hB.out) j (by omega)
            cases e1
            have hri := HRI.out j hlt
            have hj : decide (0 < (j : Int) + 1) = true := decide_eq_true (by omega)
            have hj1 : IntKind.i64.wrap (j : Int) = (j : Int) := IntWalk.i64_in _ (by omega)
            have d5 : decide (gs[j+1].key ≤ gs[j].key) = false := decide_eq_false (by omega)
            clear hri
            go_wp2
            go_quiet (fail)
            go_wp2
            go_roundw
            case rel => exact ⟨j + 1 + 1, by omega, by go_num, by rw [s1.out], by rw [s2.out], by rw [s3.out], by rw [s4.out], ⟨(by repeat (with_reducible (first | exact Below.refl _ _ | exact Aside0.out (by assumption) | apply below_alloc | apply pw_below_drewN | apply below_drew | refine below_set ?_ (by (first | omega | (simp; done) | (simp; omega))) | refine via ?_ (Aside0.out (by assumption)))))⟩⟩
            case measure => simp [intOf]; omega
        · obtain rfl : k = gs.length := by omega
          rw [List.take_length] at *
          obtain ⟨q1, q2, q3⟩ := HTT.out
          have hto := HTO.out
          have hq := Aside0.mk (via (below_alloc (Below.refl _ _) _) hB.out)
          by_cases h0 : all.length = 0
          · rw [if_pos h0] at hto
            have t1 : (accN gs == 0) = true := by rw [q1, h0]; rfl
            subst hto
            clear q1 q2 q3 h0 HTO HTT
            go_wp2_with (go_at_call 25; with_reducible refine (HAw.out _).mono ?_; rintro e w4 ⟨rfl, hb⟩; obtain ⟨y0, y1, y2⟩ := box_later (via hB.out hb) b0.out; have HB4 := Aside0.mk (via (via HB3.out hB.out) hb); clear hb)
            go_ret
            exact ⟨rfl, HB4.out⟩
          · rw [if_neg h0] at hto
            have t1 : (accN gs == 0) = false := by rw [q1]; exact beq_eq_false_iff_ne.2 (by omega)
            obtain ⟨q3, q4⟩ := q3 (by omega)
            have e : tot = ⟨0, accN gs, accS gs, accL gs, accM gs⟩ := by rw [hto, q1, q2, q3, q4]; rfl
            subst e
            clear q1 q2 q3 q4 h0 HTO HTT hto
            generalize accN gs = an at *
            generalize accS gs = as' at *
            generalize accL gs = al at *
            generalize accM gs = am at *
            go_wp2_with (go_at_call 25; with_reducible refine (HAw.out _).mono ?_; rintro e w4 ⟨rfl, hb⟩; obtain ⟨y0, y1, y2⟩ := box_later (via hB.out hb) b0.out; have HB4 := Aside0.mk (via (via HB3.out hB.out) hb); clear hb)
            go_ret
            exact ⟨rfl, HB4.out⟩

end Go.Proofs.Ytoeipkjpgbdioaa
