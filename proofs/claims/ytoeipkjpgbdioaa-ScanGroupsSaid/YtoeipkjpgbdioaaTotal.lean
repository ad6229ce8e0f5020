/- scan.Total: the group of all. -/
import Derived.Test.YtoeipkjpgbdioaaAwake
set_option linter.unusedVariables false
set_option linter.unusedSimpArgs false
namespace Go.Proofs.Ytoeipkjpgbdioaa
open Go.RowKit Go.Shelf Go.Proofs.YtoeipkjpgbdioaaW.PrintWords

def zeroGroup : Group := ⟨0, 0, 0, 0, 0⟩
def totalOf (l : List Pair) : Group := if l.length = 0 then zeroGroup else grp 0 l
set_option maxRecDepth 100000 in
set_option maxHeartbeats 1000000 in
theorem scan_Total (A B : Option Addr) (c d : Nat) (l : List Pair) (on : List Span) (w : World) (hr : Sl kPair w A c l) (hs : Sl kSpan w B d on) (hbig : l.length ≤ 1000000) :
    Calls Try.prog 39 #[.slice A l.length c, .slice B on.length d] w fun e w' => e = .returned (vGroup (totalOf (clip l on))) ∧ Below w.heap.size w w' := by
  have HX := Aside0.mk (below_alloc (Below.refl w.heap.size w) (.cells #[.int .i64 0, .int .i64 0, .int .i64 0, .int .i64 0, .int .i64 0] 80))
  have b0 := Aside0.mk (box_top w (.cells #[.int .i64 0, .int .i64 0, .int .i64 0, .int .i64 0, .int .i64 0] 80))
  have HE := Aside0.mk (calls_own (table_Clip A B c d l on _ (hr.below HX.out) (hs.below HX.out) hbig))
  have hok := Aside0.mk (fun p (h : p ∈ clip l on) => clip_ok h)
  have hal : (clip l on).length ≤ 1000000 := by have := clip_length l on; omega
  clear hr hs
  generalize clip l on = all at *
  by_cases h0 : all.length = 0
  · have t1 : ((all.length : Int) == 0) = true := by simp [h0]
    have E := Aside0.mk (show totalOf all = zeroGroup from if_pos h0)
    clear h0
    go_enter Try.func39, Try.ntmps39
    go_wp2_with (go_at_call 45; refine HE.out.mono ?_; rintro e w1 ⟨C, c1, rfl, ho, hs1, hb⟩; obtain ⟨x0, x1, x2⟩ := box_later hb b0.out; have BK := Aside0.mk ((hb.block _ (blk_lt b0.out)).trans b0.out); have HB1 := Aside0.mk (via HX.out hb); clear ho hb hs1)
    have z := blk_set (blk_set (blk_set (blk_set (blk_set BK.out 0 (.int .i64 0)) 1 (.int .i64 0)) 2 (.int .i64 0)) 3 (.int .i64 0)) 4 (.int .i64 0)
    have z1 := blk_cell z
    refine bodyPost_ret (v := vGroup (totalOf all)) (by rw [E.out]; simp [results, Try.results39, go_sem, z1, zeroGroup, vGroup]) rfl ⟨rfl, ?_⟩
    exact below_set (below_set (below_set (below_set (below_set HB1.out (Nat.le_refl _)) (Nat.le_refl _)) (Nat.le_refl _)) (Nat.le_refl _)) (Nat.le_refl _)
  · have t1 : ((all.length : Int) == 0) = false := by simp [h0]
    have E := Aside0.mk (show totalOf all = grp 0 all from if_neg h0)
    have HG := Aside0.mk (fun C c' W (h : Sl kPair W C c' all) => scan_group 0 C c' all W h (by omega) hal hok.out)
    clear h0
    generalize grp 0 all = g at *
    go_enter Try.func39, Try.ntmps39
    go_wp2_with (first
      | (go_at_call 45; refine HE.out.mono ?_; rintro e w1 ⟨C, c1, rfl, ho, hs1, hb⟩; have HS1 := Aside0.mk hs1; have HB0 := Aside0.mk hb; have HB1 := Aside0.mk (via HX.out hb); clear ho hb hs1)
      | (go_at_call 104; refine (HG.out _ _ _ HS1.out).mono ?_; rintro e w2 ⟨rfl, hb⟩; have hq := via HB0.out hb; obtain ⟨x0, x1, x2⟩ := box_later hq b0.out; have BK := Aside0.mk ((hq.block _ (blk_lt b0.out)).trans b0.out); have HB2 := Aside0.mk (via HB1.out hb); clear hb hq))
    have z := blk_set (blk_set (blk_set (blk_set (blk_set BK.out 0 (.int .i64 g.key)) 1 (.int .i64 g.n)) 2 (.int .i64 g.sum)) 3 (.int .i64 g.least)) 4 (.int .i64 g.most)
    have z1 := blk_cell z
    refine bodyPost_ret (v := vGroup g) (by simp [results, Try.results39, go_sem, z1, vGroup]) rfl ⟨by rw [E.out], ?_⟩
    exact below_set (below_set (below_set (below_set (below_set HB2.out (Nat.le_refl _)) (Nat.le_refl _)) (Nat.le_refl _)) (Nat.le_refl _)) (Nat.le_refl _)

end Go.Proofs.Ytoeipkjpgbdioaa
