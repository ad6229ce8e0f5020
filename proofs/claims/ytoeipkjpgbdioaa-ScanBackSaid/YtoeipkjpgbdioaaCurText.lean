/- scan.Text: a cursor's bytes. -/
import Derived.Test.YtoeipkjpgbdioaaBuilder
import Derived.Test.YtoeipkjpgbdioaaVint
import Derived.Test.YtoeipkjpgbdioaaCursor
import Derived.Test.YtoeipkjpgbdioaaWLast
set_option linter.unusedVariables false
set_option linter.unusedSimpArgs false
namespace Go.Proofs.Ytoeipkjpgbdioaa
open Go.RowKit Go.Shelf Go.Proofs.YtoeipkjpgbdioaaW.PrintWords Go.Proofs.YtoeipkjpgbdioaaW.PrintLast

def spanL (s : Span) : List UInt8 := numL s.lo.toNat ++ numL s.hi.toNat
def headL (x : Cursor) : List UInt8 := wholeL x.after ++ numL x.limit.toNat ++ numL x.on.length
def encC (x : Cursor) : List UInt8 := headL x ++ (x.on.map spanL).flatten
def curText (x : Cursor) : List UInt8 := if okCur x then encC x else []

theorem numL_len (n : Nat) : ∀ k, n < 128 ^ (k + 1) → (numL n).length ≤ k + 1 := by
  induction n using Nat.strongRecOn with
  | ind n ih =>
    intro k hk
    by_cases h : n < 128
    · rw [numL_small h]; simp
    · rw [numL_big h]
      cases k with
      | zero => simp at hk; omega
      | succ k =>
        rw [Nat.pow_succ] at hk
        have := ih (n / 128) (by omega) k (Nat.div_lt_of_lt_mul (by rw [Nat.mul_comm]; exact hk))
        simp; omega
theorem numL_len10 {n : Nat} (h : n < 100000) : (numL n).length ≤ 10 := by
  have := numL_len n 2 (Nat.lt_of_lt_of_le h (by decide))
  omega
theorem isB_below {b : Nat} {l : List UInt8} {w W : World} (h : IsB b l w) (hb : Below w.heap.size w W) : IsB b l W := by
  have key : ∀ p, Lib.BuilderAt 144 5 b b p (Lib.byteCells l) w → Lib.BuilderAt 144 5 b b p (Lib.byteCells l) W := by
    rintro p ⟨h1, v, hv, ⟨ho1, ho⟩, hn⟩
    refine ⟨h1, v, blk_keep hb hv, ⟨ho1, ?_⟩, hn⟩
    rcases ho with ho | ⟨g, cap, cur, e1, e2, e3, e4⟩
    · exact .inl ho
    · exact .inr ⟨g, cap, cur, e1, e2, blk_keep hb e3, e4⟩
  rcases h with h | h
  · exact .inl (key _ h)
  · exact .inr (key _ h)
theorem isB_lt {b : Nat} {l : List UInt8} {w : World} (h : IsB b l w) : b < w.heap.size := by rcases h with h | h <;> exact h.lt
theorem okCur_facts {x : Cursor} (h : okCur x = true) : isSet x.on = true ∧ -1 ≤ x.after ∧ x.after < 4096 ∧ 1 ≤ x.limit ∧ x.limit ≤ 500 := by
  simpa [okCur] using h
theorem isSet_facts {l : List Span} (h : isSet l = true) : l.length ≤ 64 ∧ ∀ i (hi : i < l.length), 0 ≤ l[i].lo ∧ l[i].lo < l[i].hi ∧ l[i].hi ≤ 4096 := by
  simp only [isSet, Bool.and_eq_true, decide_eq_true_eq] at h
  refine ⟨by omega, fun i hi => ?_⟩
  have := ((chk_iff _ _ _).1 h.1).1 i hi
  simpa [oneSpan] using this
theorem flat_len (l : List Span) (h : ∀ i (hi : i < l.length), 0 ≤ l[i].lo ∧ l[i].lo < l[i].hi ∧ l[i].hi ≤ 4096) (k : Nat) (hk : k ≤ l.length) : ((l.take k).map spanL).flatten.length ≤ 20 * k := by
  induction k with
  | zero => simp
  | succ k ih =>
    have h1 := h k (by omega)
    have h2 := numL_len10 (n := l[k].lo.toNat) (by omega)
    have h3 := numL_len10 (n := l[k].hi.toNat) (by omega)
    have h4 := ih (by omega)
    rw [List.take_succ_eq_append_getElem (by omega), List.map_append, List.flatten_append, List.length_append]
    simp only [List.map_cons, List.map_nil, List.flatten_cons, List.flatten_nil, List.append_nil, spanL, List.length_append]
    omega
theorem flat_step (a : List UInt8) (l : List Span) (k : Nat) (hk : k < l.length) : a ++ ((l.take (k + 1)).map spanL).flatten = (a ++ ((l.take k).map spanL).flatten) ++ spanL l[k] := by
  rw [List.take_succ_eq_append_getElem hk, List.map_append, List.flatten_append, ← List.append_assoc]
  simp only [List.map_cons, List.map_nil, List.flatten_cons, List.flatten_nil, List.append_nil]
theorem ba_add (a b : List UInt8) : (ByteArray.mk a.toArray) ++ (ByteArray.mk b.toArray) = ⟨(a ++ b).toArray⟩ := by
  apply ByteArray.ext
  simp

set_option maxRecDepth 100000 in
set_option maxHeartbeats 4000000 in
theorem scan_Text (A : Option Addr) (c : Nat) (x : Cursor) (w : World) (hs : Sl kSpan w A c x.on) :
    Calls Try.prog 46 #[vCur A c x] w fun e w' => e = .returned (.string ⟨(curText x).toArray⟩) ∧ Below w.heap.size w w' := by
  have hck := Aside0.mk (fun W (h : Below w.heap.size w W) => scan_check A c x W (hs.below h))
  have HS := Aside0.mk hs
  clear hs
  cases e1 : okCur x with
  | false =>
    rw [e1] at hck
    have E := Aside0.mk (show curText x = [] by rw [curText, e1]; rfl)
    clear e1
    go_enter Try.func46, Try.ntmps46
    go_wp2_with (go_at_call 89; go_must (with_reducible refine calls_box1 (fun W0 hb0 hp0 => ?_)); with_reducible refine (hck.out _ hb0).mono ?_; rintro e w1 ⟨rfl, hb1⟩; have HB1 := Aside0.mk (below_then hb0 hb0.size hb1); clear hb1 hb0 hp0)
    go_ret
    exact ⟨by rw [E.out]; rfl, HB1.out⟩
  | true =>
    rw [e1] at hck
    have E := Aside0.mk (show curText x = encC x by rw [curText, e1]; rfl)
    obtain ⟨hset, ha1, ha2, hm1, hm2⟩ := okCur_facts e1
    obtain ⟨hl64, hsp⟩ := isSet_facts hset
    have HSP := Aside0.mk hsp
    have hnn := Aside0.mk (fun (n : Int) W (h0 : 0 ≤ n) (h1 : n ≤ 9223372036854775807) => vint_NumI n W h0 h1)
    have hwh := Aside0.mk (fun W => vint_Whole x.after W (by simp [mayZ]; omega))
    have hlen := Aside0.mk (show (headL x).length ≤ 30 by
      have h1 := numL_len10 (n := wholeN x.after) (by unfold wholeN; split <;> omega)
      have h2 := numL_len10 (n := x.limit.toNat) (by omega)
      have h3 := numL_len10 (n := x.on.length) (by omega)
      simp only [headL, List.length_append, wholeL]
      omega)
    have hlen2 := Aside0.mk (show ([] : List UInt8).length + ((⟨(wholeL x.after).toArray⟩ ++ ⟨(numL x.limit.toNat).toArray⟩ ++ ⟨(numL x.on.length).toArray⟩ : ByteArray)).size ≤ 1000000 by
      have := hlen.out
      simp only [headL, List.length_append] at this
      rw [ba_add, ba_add]
      simp only [ByteArray.size, List.size_toArray, List.length_append, List.length_nil]
      omega)
    have n1 : ¬ 9223372036854775807 < (wholeL x.after).length + (numL x.limit.toNat).length := by have := hlen.out; simp only [headL, List.length_append] at this; omega
    have n2 : ¬ 9223372036854775807 < (wholeL x.after).length + (numL x.limit.toNat).length + (numL x.on.length).length := by have := hlen.out; simp only [headL, List.length_append] at this; omega
    clear e1 hset hsp
    go_enter Try.func46, Try.ntmps46
    go_wp2_with (go_at_call 89; go_must (with_reducible refine calls_box1 (fun W0 hb0 hp0 => ?_)); with_reducible refine (hck.out _ hb0).mono ?_; rintro e w1 ⟨rfl, hb1⟩; have HB1 := Aside0.mk (below_then hb0 hb0.size hb1); have HP1 := Aside0.mk (blk_keep hb1 hp0); clear hb1 hb0 hp0)
    have hib0 : Aside0 (IsB w1.heap.size [] (w1.alloc (.cells #[.pointer none, .slice none 0 0] 144))) := ⟨Lib.fresh_isBuilder _ _ w1⟩
    have hpb := blk_lt HP1.out
    have hp2 := Aside0.mk (blk_alloc HP1.out (.cells #[.pointer none, .slice none 0 0] 144))
    have hb2 := Aside0.mk (below_alloc HB1.out (.cells #[.pointer none, .slice none 0 0] 144))
    generalize w1.alloc (.cells #[.pointer none, .slice none 0 0] 144) = w2 at *
    generalize w1.heap.size = b at *
    refine start_ (n := 13) (S := fun w' => w'.heap[w.heap.size]? = some (.cells #[.slice A x.on.length c, .int .i64 x.after, .int .i64 x.limit] 50 (0, 0)) ∧ (∀ i, w'.cell? ⟨w.heap.size, i, none⟩ = (#[.slice A x.on.length c, .int .i64 x.after, .int .i64 x.limit] : Array Value)[i]?)) (ds := []) #[false, false, false, false, false, false, false, false, false, false, false, false, false] (by kernel_rfl) rfl rfl ⟨blk_drew hp2.out, (fun i => blk_cell hp2.out i)⟩ (fun hHeld => ?_)
    refine pure_ (i := 0) (N := some 9) (v := ?_) (a' := ?_) #[true, false, false, false, false, false, false, false, false, false, false, false, false] rfl rfl (by kernel_rfl) (fun _ _ _ h => h) (Or.inl ⟨by rfl, ?_⟩) ?_ ?_
    rotate_left
    · intro w'
      go_simp
      with_reducible rfl
    rotate_left
    · simp only [Act.put, List.setIfInBounds_toArray, List.set_cons_zero, List.set_cons_succ, i64_w, i32_w]
      rfl
    refine pure_ (i := 3) (N := some 12) (v := ?_) (a' := ?_) #[true, false, false, true, false, false, false, false, false, false, false, false, false] rfl rfl (by kernel_rfl) (fun _ _ _ h => h) (Or.inl ⟨by rfl, ?_⟩) ?_ ?_
    rotate_left
    · intro w'
      go_simp
      with_reducible rfl
    rotate_left
    · simp only [Act.put, List.setIfInBounds_toArray, List.set_cons_zero, List.set_cons_succ, i64_w, i32_w]
      rfl
    refine pure_ (i := 7) (N := some 16) (v := ?_) (a' := ?_) #[true, false, false, true, false, false, false, true, false, false, false, false, false] rfl rfl (by kernel_rfl) (fun _ _ _ h => h) (Or.inl ⟨by rfl, ?_⟩) ?_ ?_
    rotate_left
    · intro w'
      go_simp
      with_reducible rfl
    rotate_left
    · simp only [Act.put, List.setIfInBounds_toArray, List.set_cons_zero, List.set_cons_succ, i64_w, i32_w]
      rfl
    refine take_ (i := 1) (N := some 10) (v := ?_) (a' := ?_) #[true, true, false, true, false, false, false, true, false, false, false, false, false] rfl rfl (by kernel_rfl) (fun _ _ _ h => h) (Or.inl ⟨by rfl, ?_⟩) hHeld ?_ ?_
    rotate_left
    · rintro w' ⟨s0, s1⟩
      go_simp
      with_reducible rfl
    rotate_left
    · simp only [Act.put, List.setIfInBounds_toArray, List.set_cons_zero, List.set_cons_succ, i64_w, i32_w]
      rfl
    refine take_ (i := 4) (N := some 13) (v := ?_) (a' := ?_) #[true, true, false, true, true, false, false, true, false, false, false, false, false] rfl rfl (by kernel_rfl) (fun _ _ _ h => h) (Or.inl ⟨by rfl, ?_⟩) hHeld ?_ ?_
    rotate_left
    · rintro w' ⟨s0, s1⟩
      go_simp
      with_reducible rfl
    rotate_left
    · simp only [Act.put, List.setIfInBounds_toArray, List.set_cons_zero, List.set_cons_succ, i64_w, i32_w]
      rfl
    refine take_ (i := 8) (N := some 17) (v := ?_) (a' := ?_) #[true, true, false, true, true, false, false, true, true, false, false, false, false] rfl rfl (by kernel_rfl) (fun _ _ _ h => h) (Or.inl ⟨by rfl, ?_⟩) hHeld ?_ ?_
    rotate_left
    · rintro w' ⟨s0, s1⟩
      go_simp
      with_reducible rfl
    rotate_left
    · simp only [Act.put, List.setIfInBounds_toArray, List.set_cons_zero, List.set_cons_succ, i64_w, i32_w]
      rfl
    refine pure_ (i := 9) (N := some 18) (v := ?_) (a' := ?_) #[true, true, false, true, true, false, false, true, true, true, false, false, false] rfl rfl (by kernel_rfl) (fun _ _ _ h => h) (Or.inl ⟨by rfl, ?_⟩) ?_ ?_
    rotate_left
    · intro w'
      go_simp
      with_reducible rfl
    rotate_left
    · simp only [Act.put, List.setIfInBounds_toArray, List.set_cons_zero, List.set_cons_succ, i64_w, i32_w]
      rfl
    refine one_ (i := 2) (N := some 11) #[true, true, true, true, true, false, false, true, true, true, false, false, false] rfl rfl (by kernel_rfl) (by decide) (fun K hK => ?_)
    refine goes_ Try.func74 (by kernel_rfl) rfl #[.int .i64 x.after] (by rfl) rfl rfl (by simp only [List.map_toArray, List.map_cons, List.map_nil]; rfl) ?_
    with_reducible refine (hwh.out _).mono ?_
    rintro r w3 ⟨rfl, hb⟩
    refine ⟨_, rfl, ?_⟩
    have HI3 := Aside0.mk (isB_below (w := w2.drew) hib0.out hb)
    have HB3 := Aside0.mk (below_then (below_drew hb2.out) (below_drew hb2.out).size hb)
    refine hK.out _ _ ⟨blk_keep hb hHeld.1, (fun i => blk_cell (blk_keep hb hHeld.1) i)⟩ (fun hHeld => ?_)
    clear hK K
    refine norm_ (a' := ?_) ?_ ?_
    rotate_left
    · show Act.put _ (some 11) _ = _
      simp only [Act.put, List.setIfInBounds_toArray, List.set_cons_zero, List.set_cons_succ, i64_w, i32_w]
      rfl
    refine one_ (i := 5) (N := some 14) #[true, true, true, true, true, true, false, true, true, true, false, false, false] rfl rfl (by kernel_rfl) (by decide) (fun K hK => ?_)
    refine goes_ Try.func75 (by kernel_rfl) rfl #[.int .i64 x.limit] (by rfl) rfl rfl (by simp only [List.map_toArray, List.map_cons, List.map_nil]; rfl) ?_
    with_reducible refine (hnn.out _ _ (by omega) (by omega)).mono ?_
    rintro r w4 ⟨rfl, hb⟩
    refine ⟨_, rfl, ?_⟩
    have HI4 := Aside0.mk (isB_below HI3.out hb)
    have HB4 := Aside0.mk (below_then HB3.out HB3.out.size hb)
    refine hK.out _ _ ⟨blk_keep hb hHeld.1, (fun i => blk_cell (blk_keep hb hHeld.1) i)⟩ (fun hHeld => ?_)
    clear hK K
    refine norm_ (a' := ?_) ?_ ?_
    rotate_left
    · show Act.put _ (some 14) _ = _
      simp only [Act.put, List.setIfInBounds_toArray, List.set_cons_zero, List.set_cons_succ, i64_w, i32_w]
      rfl
    refine pure_ (i := 6) (N := some 15) (v := ?_) (a' := ?_) #[true, true, true, true, true, true, true, true, true, true, false, false, false] rfl rfl (by kernel_rfl) (fun _ _ _ h => h) (Or.inl ⟨by rfl, ?_⟩) ?_ ?_
    rotate_left
    · intro w'
      go_simp
      with_reducible rfl
    rotate_left
    · simp only [Act.put, List.setIfInBounds_toArray, List.set_cons_zero, List.set_cons_succ, i64_w, i32_w]
      rfl
    refine one_ (i := 10) (N := some 19) #[true, true, true, true, true, true, true, true, true, true, true, false, false] rfl rfl (by kernel_rfl) (by decide) (fun K hK => ?_)
    refine goes_ Try.func75 (by kernel_rfl) rfl #[.int .i64 x.on.length] (by rfl) rfl rfl (by simp only [List.map_toArray, List.map_cons, List.map_nil]; rfl) ?_
    with_reducible refine (hnn.out _ _ (by omega) (by omega)).mono ?_
    rintro r w5 ⟨rfl, hb⟩
    refine ⟨_, rfl, ?_⟩
    have HI5 := Aside0.mk (isB_below HI4.out hb)
    have HB5 := Aside0.mk (below_then HB4.out HB4.out.size hb)
    refine hK.out _ _ ⟨blk_keep hb hHeld.1, (fun i => blk_cell (blk_keep hb hHeld.1) i)⟩ (fun hHeld => ?_)
    clear hK K
    refine norm_ (a' := ?_) ?_ ?_
    rotate_left
    · show Act.put _ (some 19) _ = _
      simp only [Act.put, List.setIfInBounds_toArray, List.set_cons_zero, List.set_cons_succ, i64_w, i32_w]
      rfl
    refine pure_ (i := 11) (N := some 20) (v := ?_) (a' := ?_) #[true, true, true, true, true, true, true, true, true, true, true, true, false] rfl rfl (by kernel_rfl) (fun _ _ _ h => h) (Or.inl ⟨by rfl, ?_⟩) ?_ ?_
    rotate_left
    · intro w'
      go_simp
      with_reducible rfl
    rotate_left
    · simp only [Act.put, List.setIfInBounds_toArray, List.set_cons_zero, List.set_cons_succ, i64_w, i32_w]
      rfl
    refine one_ (i := 12) (N := some 21) #[true, true, true, true, true, true, true, true, true, true, true, true, true] rfl rfl (by kernel_rfl) (by decide) (fun K hK => ?_)
    refine goes_ Try.func73 (by kernel_rfl) rfl #[.pointer (some ⟨b, 0, none⟩), .string (⟨(wholeL x.after).toArray⟩ ++ ⟨(numL x.limit.toNat).toArray⟩ ++ ⟨(numL x.on.length).toArray⟩)] (by rfl) rfl rfl (by simp only [List.map_toArray, List.map_cons, List.map_nil]; rfl) ?_
    with_reducible refine (isB_WriteString b [] _ _ HI5.out hlen2.out).mono ?_
    rintro r w6 ⟨rfl, hi6, hb6⟩
    refine ⟨_, rfl, ?_⟩
    have HI6 := Aside0.mk hi6
    have HB6 := Aside0.mk (HB5.out.trans (hb6.mono (by omega)))
    have HP6 := Aside0.mk (blk_same hb6 hpb hHeld.1)
    refine hK.out _ _ ⟨blk_same hb6 hpb hHeld.1, (fun i => blk_cell (blk_same hb6 hpb hHeld.1) i)⟩ (fun hHeld => ?_)
    clear hK K
    refine norm_ (a' := ?_) ?_ ?_
    rotate_left
    · show Act.put _ (some 21) _ = _
      simp only [Act.put, List.setIfInBounds_toArray, List.set_cons_zero, List.set_cons_succ, i64_w, i32_w]
      rfl
    refine done_ (by kernel_rfl) ?_

    have hih : Aside0 (IsB b (headL x) w6) := ⟨by have h := HI6.out; rw [ba_add, ba_add] at h; exact h⟩
    have c0 := blk_cell HP6.out
    clear hi6 HI6 HI5 HI4 HI3 hib0 hp2 hb2 HB1 HP1 HB3 HB4 HB5 n1 n2 hHeld
    go_wp2
    clear c0
    go_loopw [25] (fun i wr => ∃ k : Nat, k ≤ x.on.length ∧ i = .int .i64 k ∧ Aside0 (IsB b (headL x ++ ((x.on.take k).map spanL).flatten) wr) ∧ Aside0 (Below w.heap.size w wr)) (fun i _ => x.on.length - (intOf i).toNat)
    case atStart => exact ⟨0, by omega, rfl, ⟨by simpa using hih.out⟩, HB6⟩
    case round =>
      obtain ⟨k, hk, rfl, hI, hB⟩ := hrel
      by_cases hlt : k < x.on.length
      · obtain ⟨ad, rfl, c0, c1⟩ := span_at (HS.out.below hB.out) k hlt
        have t1 : decide ((k : Int) < (x.on.length : Int)) = true := by simp; omega
        obtain ⟨s1, s2, s3⟩ := HSP.out k hlt
        have l1 := numL_len10 (n := x.on[k].lo.toNat) (by omega)
        have l2 := numL_len10 (n := x.on[k].hi.toNat) (by omega)
        have hst := Aside0.mk (show (headL x ++ ((x.on.take (k + 1)).map spanL).flatten) = (headL x ++ ((x.on.take k).map spanL).flatten) ++ spanL x.on[k] from flat_step _ _ k hlt)
        have hacc := Aside0.mk (show (headL x ++ ((x.on.take k).map spanL).flatten).length ≤ 30 + 20 * k by
          have h1 := flat_len x.on HSP.out k hk
          have h2 := hlen.out
          rw [List.length_append]; omega)
        generalize headL x ++ ((x.on.take k).map spanL).flatten = acc at *
        have hl3 := Aside0.mk (show acc.length + (ByteArray.mk (numL x.on[k].lo.toNat).toArray ++ ByteArray.mk (numL x.on[k].hi.toNat).toArray).size ≤ 1000000 by
          have := hacc.out
          rw [ba_add]
          simp only [ByteArray.size, List.size_toArray, List.length_append]
          omega)
        have n1 : ¬ 9223372036854775807 < (numL x.on[k].lo.toNat).length + (numL x.on[k].hi.toNat).length := by omega
        have i0 := Aside0.mk (isB_below hI.out (below_alloc (Below.refl _ wr) (.cells #[.int .i64 x.on[k].lo, .int .i64 x.on[k].hi] 162)))
        have b0 := Aside0.mk (below_alloc hB.out (.cells #[.int .i64 x.on[k].lo, .int .i64 x.on[k].hi] 162))
        have g0 := Aside0.mk (blk_new wr (.cells #[.int .i64 x.on[k].lo, .int .i64 x.on[k].hi] 162))
        clear l1 l2
        go_wp2
        generalize wr.alloc (.cells #[.int .i64 x.on[k].lo, .int .i64 x.on[k].hi] 162) = w7 at *
        generalize wr.heap.size = g at *
        refine start_ (n := 8) (S := fun w' => w'.heap[g]? = some (.cells #[.int .i64 x.on[k].lo, .int .i64 x.on[k].hi] 162 (0, 0)) ∧ (∀ i, w'.cell? ⟨g, i, none⟩ = (#[.int .i64 x.on[k].lo, .int .i64 x.on[k].hi] : Array Value)[i]?)) (ds := [7]) #[false, false, false, false, false, false, false, false] (by kernel_rfl) rfl rfl ⟨blk_drew g0.out, (fun i => blk_cell g0.out i)⟩ (fun hHeld => ?_)
        refine pure_ (i := 0) (N := some 29) (v := ?_) (a' := ?_) #[true, false, false, false, false, false, false, false] rfl rfl (by kernel_rfl) (fun _ _ _ h => h) (Or.inl ⟨by rfl, ?_⟩) ?_ ?_
        rotate_left
        · intro w'
          go_simp
          with_reducible rfl
        rotate_left
        · simp only [Act.put, List.setIfInBounds_toArray, List.set_cons_zero, List.set_cons_succ, i64_w, i32_w]
          rfl
        refine pure_ (i := 3) (N := some 32) (v := ?_) (a' := ?_) #[true, false, false, true, false, false, false, false] rfl rfl (by kernel_rfl) (fun _ _ _ h => h) (Or.inl ⟨by rfl, ?_⟩) ?_ ?_
        rotate_left
        · intro w'
          go_simp
          with_reducible rfl
        rotate_left
        · simp only [Act.put, List.setIfInBounds_toArray, List.set_cons_zero, List.set_cons_succ, i64_w, i32_w]
          rfl
        refine take_ (i := 1) (N := some 30) (v := ?_) (a' := ?_) #[true, true, false, true, false, false, false, false] rfl rfl (by kernel_rfl) (fun _ _ _ h => h) (Or.inl ⟨by rfl, ?_⟩) hHeld ?_ ?_
        rotate_left
        · rintro w' ⟨s0, s1⟩
          go_simp
          with_reducible rfl
        rotate_left
        · simp only [Act.put, List.setIfInBounds_toArray, List.set_cons_zero, List.set_cons_succ, i64_w, i32_w]
          rfl
        refine take_ (i := 4) (N := some 33) (v := ?_) (a' := ?_) #[true, true, false, true, true, false, false, false] rfl rfl (by kernel_rfl) (fun _ _ _ h => h) (Or.inl ⟨by rfl, ?_⟩) hHeld ?_ ?_
        rotate_left
        · rintro w' ⟨s0, s1⟩
          go_simp
          with_reducible rfl
        rotate_left
        · simp only [Act.put, List.setIfInBounds_toArray, List.set_cons_zero, List.set_cons_succ, i64_w, i32_w]
          rfl
        refine one_ (i := 2) (N := some 31) #[true, true, true, true, true, false, false, false] rfl rfl (by kernel_rfl) (by decide) (fun K hK => ?_)
        refine goes_ Try.func75 (by kernel_rfl) rfl #[.int .i64 x.on[k].lo] (by rfl) rfl rfl (by simp only [List.map_toArray, List.map_cons, List.map_nil]; rfl) ?_
        with_reducible refine (hnn.out _ _ (by omega) (by omega)).mono ?_
        rintro r w8 ⟨rfl, hb⟩
        refine ⟨_, rfl, ?_⟩
        have i8 := Aside0.mk (isB_below (w := w7.drew) i0.out hb)
        have b8 := Aside0.mk (below_then (below_drew b0.out) (below_drew b0.out).size hb)
        refine hK.out _ _ ⟨blk_keep hb hHeld.1, (fun i => blk_cell (blk_keep hb hHeld.1) i)⟩ (fun hHeld => ?_)
        clear hK K
        refine norm_ (a' := ?_) ?_ ?_
        rotate_left
        · show Act.put _ (some 31) _ = _
          simp only [Act.put, List.setIfInBounds_toArray, List.set_cons_zero, List.set_cons_succ, i64_w, i32_w]
          rfl
        refine one_ (i := 5) (N := some 34) #[true, true, true, true, true, true, false, false] rfl rfl (by kernel_rfl) (by decide) (fun K hK => ?_)
        refine goes_ Try.func75 (by kernel_rfl) rfl #[.int .i64 x.on[k].hi] (by rfl) rfl rfl (by simp only [List.map_toArray, List.map_cons, List.map_nil]; rfl) ?_
        with_reducible refine (hnn.out _ _ (by omega) (by omega)).mono ?_
        rintro r w9 ⟨rfl, hb⟩
        refine ⟨_, rfl, ?_⟩
        have i9 := Aside0.mk (isB_below i8.out hb)
        have b9 := Aside0.mk (below_then b8.out b8.out.size hb)
        refine hK.out _ _ ⟨blk_keep hb hHeld.1, (fun i => blk_cell (blk_keep hb hHeld.1) i)⟩ (fun hHeld => ?_)
        clear hK K
        refine norm_ (a' := ?_) ?_ ?_
        rotate_left
        · show Act.put _ (some 34) _ = _
          simp only [Act.put, List.setIfInBounds_toArray, List.set_cons_zero, List.set_cons_succ, i64_w, i32_w]
          rfl
        refine pure_ (i := 6) (N := some 35) (v := ?_) (a' := ?_) #[true, true, true, true, true, true, true, false] rfl rfl (by kernel_rfl) (fun _ _ _ h => h) (Or.inl ⟨by rfl, ?_⟩) ?_ ?_
        rotate_left
        · intro w'
          go_simp
          with_reducible rfl
        rotate_left
        · simp only [Act.put, List.setIfInBounds_toArray, List.set_cons_zero, List.set_cons_succ, i64_w, i32_w]
          rfl
        refine last_ (i := 7) (N := some 36) #[true, true, true, true, true, true, true, true] rfl rfl (by kernel_rfl) (by decide) (fun K hK => ?_)
        refine goes_ Try.func73 (by kernel_rfl) rfl #[.pointer (some ⟨b, 0, none⟩), .string (⟨(numL x.on[k].lo.toNat).toArray⟩ ++ ⟨(numL x.on[k].hi.toNat).toArray⟩)] (by rfl) rfl rfl (by simp only [List.map_toArray, List.map_cons, List.map_nil]; rfl) ?_
        with_reducible refine (isB_WriteString b acc _ _ i9.out hl3.out).mono ?_
        rintro r w10 ⟨rfl, hi10, hb10⟩
        refine ⟨_, rfl, ?_⟩
        have i10 := Aside0.mk hi10
        have b10 := Aside0.mk (b9.out.trans (hb10.mono (by omega)))
        clear hi10
        refine hK.out _ _ ?_
        clear hK K
        refine norm_ (a' := ?_) ?_ ?_
        rotate_left
        · show Act.put _ (some 36) _ = _
          simp only [Act.put, List.setIfInBounds_toArray, List.set_cons_zero, List.set_cons_succ, i64_w, i32_w]
          rfl
        refine done_ (by kernel_rfl) ?_

        go_wp2
        refine ⟨⟨k + 1, by omega, by go_num, ⟨?_⟩, b10⟩, by simp [intOf]; omega⟩
        rw [hst.out]
        have h := i10.out
        rw [ba_add] at h
        exact h
      · obtain rfl : k = x.on.length := by omega
        have t1 : decide ((x.on.length : Int) < (x.on.length : Int)) = false := by simp
        rw [List.take_length] at hI
        go_wp2_with (go_at_call 76; go_must (with_reducible refine (Try.Builder_String_any b b _ _ hI.out (Nat.le_of_lt (isB_lt hI.out))).mono ?_); rintro e w9 ⟨rfl, hb9⟩; have HB9 := Aside0.mk (hB.out.trans (hb9.mono (by omega))))
        go_ret
        exact ⟨by rw [E.out]; rfl, HB9.out⟩

end Go.Proofs.Ytoeipkjpgbdioaa
