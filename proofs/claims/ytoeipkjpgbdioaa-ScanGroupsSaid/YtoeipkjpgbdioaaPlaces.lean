/- scan.Nth, scan.Rank, and the reference's Rank. -/
import Derived.Test.YtoeipkjpgbdioaaAwake
set_option linter.unusedVariables false
set_option linter.unusedSimpArgs false
namespace Go.Proofs.Ytoeipkjpgbdioaa
open Go.RowKit Go.Shelf Go.Proofs.YtoeipkjpgbdioaaW.PrintWords

theorem scan_Rank_1 (p : Pair) (k : Int) (w : World) :
    Calls Try.prog 106 #[.agg #[.int .i64 p.key, .int .i64 p.val], .int .i64 k] w fun e w' => e = .returned (.int .i64 (cmpInt p.key k)) ∧ Below w.heap.size w w' := by
  have HX := Aside0.mk (below_alloc (Below.refl w.heap.size w) (.cells #[.int .i64 p.key, .int .i64 p.val] 84))
  have HC := Aside0.mk (cmp_Compare p.key k (w.alloc (.cells #[.int .i64 p.key, .int .i64 p.val] 84)))
  go_enter Try.func106, Try.ntmps106
  go_wp2_with (go_at_call 92; refine HC.out.mono ?_; rintro e w1 ⟨rfl, hb⟩; have HB := Aside0.mk (via HX.out hb); clear hb)
  go_ret
  exact ⟨rfl, HB.out⟩

def rank (l : List Pair) (key : Int) : Nat := l.countP fun p => decide (p.key < key)
theorem ahead_rank (l : List Pair) (key : Int) : ahead (fun p => cmpInt p.key key) l = rank l key := by
  unfold ahead rank
  congr 1
  funext p
  rw [decide_eq_decide, cmpInt_neg]
theorem scan_Rank (A B : Option Addr) (c d : Nat) (l : List Pair) (on : List Span) (key : Int) (w : World) (hr : Sl kPair w A c l) (hs : Sl kSpan w B d on) (hbig : l.length ≤ 1000000) :
    Calls Try.prog 42 #[.slice A l.length c, .slice B on.length d, .int .i64 key] w fun e w' => e = .returned (.int .i64 (rank (clip l on) key : Nat)) ∧ Below w.heap.size w w' := by
  have HE := Aside0.mk (calls_own (table_Clip A B c d l on w hr hs hbig))
  have HF := Aside0.mk (fun C c' W (h : Sl kPair W C c' (clip l on)) => calls_some (BinarySearch_Pair C c' (clip l on) key (fun p => cmpInt p.key key) 106 #[] (enters_of Try.func106 (by kernel_rfl) rfl) W h (by have := clip_length l on; omega) (fun p W' _ => scan_Rank_1 p key W') (clip_mono l on _)))
  rw [ahead_rank] at HF
  clear hr hs
  generalize rank (clip l on) key = r at *
  generalize clip l on = all at *
  go_enter Try.func42, Try.ntmps42
  go_wp2_with (first | (go_at_call 45; refine HE.out.mono ?_; rintro e w1 ⟨C, c1, rfl, ho, hs1, hb⟩; have HS1 := Aside0.mk hs1; have HB1 := Aside0.mk hb; clear ho hb hs1) | (go_at_call 90; refine (HF.out _ _ _ HS1.out).mono ?_; rintro e w4 ⟨fb, rfl, hb⟩; have HB4 := Aside0.mk (via HB1.out hb); clear hb))
  go_ret
  exact ⟨rfl, HB4.out⟩

def nthOf (l : List Pair) (n : Int) : Pair × Bool := if h : 0 ≤ n ∧ n.toNat < l.length then (l[n.toNat], true) else (⟨0, 0⟩, false)
set_option maxRecDepth 100000 in
theorem scan_Nth (A B : Option Addr) (c d : Nat) (l : List Pair) (on : List Span) (n : Int) (w : World) (hr : Sl kPair w A c l) (hs : Sl kSpan w B d on) (hbig : l.length ≤ 1000000) :
    Calls Try.prog 40 #[.slice A l.length c, .slice B on.length d, .int .i64 n] w fun e w' => e = .returned (.tuple #[.agg #[.int .i64 (nthOf (clip l on) n).1.key, .int .i64 (nthOf (clip l on) n).1.val], .bool (nthOf (clip l on) n).2]) ∧ Below w.heap.size w w' := by
  have HX := Aside0.mk (below_alloc (Below.refl w.heap.size w) (.cells #[.int .i64 0, .int .i64 0] 84))
  have b0 := Aside0.mk (box_top w (.cells #[.int .i64 0, .int .i64 0] 84))
  have HE := Aside0.mk (calls_own (table_Clip A B c d l on _ (hr.below HX.out) (hs.below HX.out) hbig))
  clear hr hs
  generalize clip l on = all at *
  by_cases h0 : n < 0
  · have t1 : decide (n < 0) = true := decide_eq_true h0
    have E := Aside0.mk (show nthOf all n = (⟨0, 0⟩, false) by unfold nthOf; rw [dif_neg (by omega)])
    clear h0
    go_enter Try.func40, Try.ntmps40
    go_wp2_with (go_at_call 45; refine HE.out.mono ?_; rintro e w1 ⟨C, c1, rfl, ho, hs1, hb⟩; obtain ⟨x0, x1, x2⟩ := box_later hb b0.out; have BK := Aside0.mk ((hb.block _ (blk_lt b0.out)).trans b0.out); have HB1 := Aside0.mk (via HX.out hb); have HS1 := Aside0.mk hs1; clear ho hb hs1)
    have z1 := blk_cell (blk_set (blk_set BK.out 0 (.int .i64 0)) 1 (.int .i64 0))
    refine bodyPost_ret (v := .tuple #[.agg #[.int .i64 0, .int .i64 0], .bool false]) (by simp [results, Try.results40, go_sem, z1]) rfl ⟨by rw [E.out], ?_⟩
    exact below_set (below_set HB1.out (Nat.le_refl _)) (Nat.le_refl _)
  · have t1 : decide (n < 0) = false := decide_eq_false h0
    obtain ⟨k, rfl⟩ : ∃ k : Nat, n = k := ⟨n.toNat, by omega⟩
    by_cases h1 : k < all.length
    · have t2 : decide ((all.length : Int) ≤ (k : Int)) = false := by simp; omega
      have z2 : (k : Int) < (all.length : Int) := by omega
      have E := Aside0.mk (show nthOf all k = (all[k], true) by unfold nthOf; rw [dif_pos ⟨by omega, by simpa using h1⟩]; rfl)
      clear h0
      go_enter Try.func40, Try.ntmps40
      go_wp2_with (go_at_call 45; refine HE.out.mono ?_; rintro e w1 ⟨C, c1, rfl, ho, hs1, hb⟩; obtain ⟨x0, x1, x2⟩ := box_later hb b0.out; have BK := Aside0.mk ((hb.block _ (blk_lt b0.out)).trans b0.out); have HB1 := Aside0.mk (via HX.out hb); have HS1 := Aside0.mk hs1; clear ho hb hs1; obtain ⟨ad, rfl, c0, c1'⟩ := pair_at HS1.out k h1)

      have z1 := blk_cell (blk_set (blk_set BK.out 0 (.int .i64 all[k].key)) 1 (.int .i64 all[k].val))
      refine bodyPost_ret (v := .tuple #[.agg #[.int .i64 all[k].key, .int .i64 all[k].val], .bool true]) (by simp [results, Try.results40, go_sem, z1]) rfl ⟨by rw [E.out], ?_⟩
      exact below_set (below_set HB1.out (Nat.le_refl _)) (Nat.le_refl _)
    · have t2 : decide ((all.length : Int) ≤ (k : Int)) = true := by simp; omega
      have t3 : decide (all.length ≤ k) = true := by simp; omega
      have t4 : all.length ≤ k := by omega
      have E := Aside0.mk (show nthOf all k = (⟨0, 0⟩, false) by unfold nthOf; rw [dif_neg (by simp; omega)])
      clear h0 h1
      go_enter Try.func40, Try.ntmps40
      go_wp2_with (go_at_call 45; refine HE.out.mono ?_; rintro e w1 ⟨C, c1, rfl, ho, hs1, hb⟩; obtain ⟨x0, x1, x2⟩ := box_later hb b0.out; have BK := Aside0.mk ((hb.block _ (blk_lt b0.out)).trans b0.out); have HB1 := Aside0.mk (via HX.out hb); have HS1 := Aside0.mk hs1; clear ho hb hs1)
      have z1 := blk_cell (blk_set (blk_set BK.out 0 (.int .i64 0)) 1 (.int .i64 0))
      refine bodyPost_ret (v := .tuple #[.agg #[.int .i64 0, .int .i64 0], .bool false]) (by simp [results, Try.results40, go_sem, z1]) rfl ⟨by rw [E.out], ?_⟩
      exact below_set (below_set HB1.out (Nat.le_refl _)) (Nat.le_refl _)

theorem rank_take (l : List Pair) (key : Int) (k : Nat) (hk : k < l.length) : rank (l.take (k + 1)) key = rank (l.take k) key + if l[k].key < key then 1 else 0 := by
  rw [rank, List.take_succ_eq_append_getElem hk, List.countP_append, rank]
  simp [List.countP_cons]
theorem rank_le (l : List Pair) (key : Int) : rank l key ≤ l.length := List.countP_le_length
theorem ref22_Rank (A B : Option Addr) (c d : Nat) (l : List Pair) (on : List Span) (key : Int) (w : World) (hr : Sl kPair w A c l) (hs : Sl kSpan w B d on) (hbig : l.length ≤ 1000000) :
    Calls Try.prog 43 #[.slice A l.length c, .slice B on.length d, .int .i64 key] w fun e w' => e = .returned (.int .i64 (rank (clip l on) key : Nat)) ∧ Below w.heap.size w w' := by
  have HE := Aside0.mk (calls_own (ref05_Clip A B c d l on w hr hs hbig))
  have hal : (clip l on).length ≤ 1000000 := by have := clip_length l on; omega
  clear hr hs
  generalize clip l on = all at *
  go_enter Try.func43, Try.ntmps43
  go_wp2_with (go_at_call 41; refine HE.out.mono ?_; rintro e w1 ⟨C, c1, rfl, ho, hs1, hb⟩; have HS1 := Aside0.mk hs1; have HB1 := Aside0.mk hb; clear ho hb hs1)
  go_loopw [8, 9] (fun r i wr => ∃ k : Nat, k ≤ all.length ∧ i = .int .i64 k ∧ r = .int .i64 (rank (all.take k) key : Nat) ∧ Aside0 (Below w1.heap.size w1 wr)) (fun _ i _ => all.length - (intOf i).toNat)
  case atStart => exact ⟨0, by omega, rfl, rfl, ⟨Below.refl _ _⟩⟩
  case round =>
    obtain ⟨k, hk, rfl, rfl, hB⟩ := hrel
    by_cases hlt : k < all.length
    · obtain ⟨ad, rfl, c0, _⟩ := pair_at (HS1.out.below hB.out) k hlt
      have ht := Aside0.mk (rank_take all key k hlt)
      have hrl := rank_le (all.take k) key
      have hrl2 : rank (all.take k) key ≤ 1000000 := by have : (all.take k).length ≤ all.length := by rw [List.length_take]; omega
                                                        omega
      clear hrl
      generalize rank (all.take k) key = r at *
      generalize all[k].key = x at *
      by_cases hx : x < key
      · have t1 : decide (x < key) = true := decide_eq_true hx
        rw [if_pos hx] at ht
        clear hx
        go_wp2
        go_roundw
        case rel => exact ⟨k + 1, by omega, by go_num, by rw [ht.out]; go_num, hB⟩
        case measure => simp [intOf]; omega
      · have t1 : decide (x < key) = false := decide_eq_false hx
        rw [if_neg hx] at ht
        clear hx
        go_wp2
        go_roundw
        case rel => exact ⟨k + 1, by omega, by go_num, by rw [ht.out]; rfl, hB⟩
        case measure => simp [intOf]; omega
    · have e : all.take k = all := List.take_of_length_le (by omega)
      rw [e]
      go_wp2
      go_ret
      exact ⟨rfl, via HB1.out hB.out⟩

end Go.Proofs.Ytoeipkjpgbdioaa
