/- The law ScanBack: what it answers. -/
import Derived.Test.YtoeipkjpgbdioaaBackLaw
import Derived.Test.YtoeipkjpgbdioaaAwake
import Derived.Test.YtoeipkjpgbdioaaRefPage
import Derived.Test.YtoeipkjpgbdioaaBoxes
set_option linter.unusedVariables false
set_option linter.unusedSimpArgs false
namespace Go.Proofs.Ytoeipkjpgbdioaa
open Go.RowKit Go.Shelf Go.Proofs.YtoeipkjpgbdioaaW.PrintWords Go.Proofs.YtoeipkjpgbdioaaW.PrintLast

theorem encC_len {x : Cursor} (h : okCur x = true) : (encC x).length ≤ 10000 := by
  obtain ⟨hset, ha1, ha2, hm1, hm2⟩ := okCur_facts h
  obtain ⟨hl, hsp⟩ := isSet_facts hset
  have h1 := numL_len10 (n := wholeN x.after) (by unfold wholeN; split <;> omega)
  have h2 := numL_len10 (n := x.limit.toNat) (by omega)
  have h3 := numL_len10 (n := x.on.length) (by omega)
  have h4 := flat_len x.on hsp x.on.length (Nat.le_refl _)
  rw [List.take_length] at h4
  simp only [encC, headL, List.length_append, wholeL]
  omega
set_option maxHeartbeats 4000000 in
set_option maxRecDepth 100000 in
theorem law22_ScanBack (A : Option Addr) (c : Nat) (x : Cursor) (s : ByteArray) (w : World) (hs : Sl kSpan w A c x.on) (ws : s.size ≤ maxLen) :
    Calls Try.prog 10 #[vCur A c x, .string s] w fun e w' => e = .returned (.bool true) ∧ Below w.heap.size w w' := by
  obtain ⟨l, rfl⟩ : ∃ l : List UInt8, s = ⟨l.toArray⟩ := ⟨s.data.toList, by cases s; simp⟩
  have hmax : l.length ≤ maxLen := ws
  have HAw := Aside0.mk (fun W => law22_awake W)
  have HS := Aside0.mk hs
  clear ws hs
  by_cases h1 : 100 < x.on.length
  · have t1 : decide (100 < (x.on.length : Int)) = true := by simp; omega
    go_enter Try.func10, Try.ntmps10
    go_wp2_with (go_at_call 25; go_must (with_reducible refine calls_box1 (fun W0 hb0 hp0 => ?_)); with_reducible refine (HAw.out _).mono ?_; rintro e w1 ⟨rfl, hb⟩; have HB := Aside0.mk (below_then hb0 hb0.size hb); clear hb hb0 hp0)
    go_ret
    exact ⟨rfl, HB.out⟩
  · have t1 : decide (100 < (x.on.length : Int)) = false := by simp; omega
    by_cases h2 : 2000 < l.length
    · have t2 : decide (2000 < (l.length : Int)) = true := by simp; omega
      go_enter Try.func10, Try.ntmps10
      go_wp2_with (go_at_call 25; go_must (with_reducible refine calls_box1 (fun W0 hb0 hp0 => ?_)); with_reducible refine (HAw.out _).mono ?_; rintro e w1 ⟨rfl, hb⟩; have HB := Aside0.mk (below_then hb0 hb0.size hb); clear hb hb0 hp0)
      go_ret
      exact ⟨rfl, HB.out⟩
    · have t2 : decide (2000 < (l.length : Int)) = false := by simp; omega
      have HR2 := Aside0.mk (fun W => scan_Read l W (by omega))
      cases hok : okCur x with
      | false =>
        have HT := Aside0.mk (fun W (h : Below w.heap.size w W) => scan_Text A c x W (HS.out.below h))
        rw [show curText x = [] by rw [curText, hok]; rfl] at HT
        clear hok
        by_cases hc0 : curErr l = 0
        · skip
          have t4 : (l == l) = true := by simp
          obtain ⟨c1, c2, c3⟩ := written_read hc0
          have hR2 := HR2.out
          rw [hc0] at hR2
          have HR2 : Aside0 _ := ⟨hR2⟩
          clear hR2
          rw [← c1] at c2 c3
          have HTY := Aside0.mk (fun A c W (h : Sl kSpan W A c (curOut l).on) => scan_Text A c (curOut l) W h)
          rw [show curText (curOut l) = l by rw [curText, if_pos c2, c3]] at HTY
          have hset := (okCur_facts c2).1
          have hl64 := (isSet_facts hset).1
          clear c1 c2 c3 hc0
          generalize curOut l = y at *
          go_enter Try.func10, Try.ntmps10
          go_wp2_with (first | (go_at_call 46; with_reducible refine calls_box1 (fun W0 hb0 hp0 => ?_); with_reducible refine (HT.out _ hb0).mono ?_; rintro e w1 ⟨rfl, hb⟩; have HP1 := Aside0.mk (blk_keep hb hp0); have HBW := Aside0.mk (below_then hb0 hb0.size hb); have q1 := blk_cell HP1.out; clear hb hb0 hp0) | (first | (go_at_call 47; with_reducible refine (HR2.out _).mono ?_; rintro e w5 ⟨E5, f5, rfl, hse, hb⟩; have HSE := Aside0.mk hse; have HB5 := Aside0.mk (below_then HBW.out HBW.out.size hb); clear hse hb) | (go_at_call 25; go_must (with_reducible refine calls_box1 (fun W6 hb6 hp6 => ?_)); with_reducible refine (HAw.out _).mono ?_; rintro e w7 ⟨rfl, hb⟩; have HSE7 := Aside0.mk ((HSE.out.below hb6).below hb); have HP7 := Aside0.mk (blk_keep hb hp6); have HB7 := Aside0.mk (below_then (below_then HB5.out HB5.out.size hb6) (below_then HB5.out HB5.out.size hb6).size hb); have q7 := blk_cell HP7.out; clear hb hb6 hp6 HB5 HSE) | (go_at_call 29; go_must (with_reducible refine (HRZ.out _ _ _ HSE7.out).mono ?_); rintro e w8 ⟨B8, d8, rfl, ho, hb⟩; have HS8 := Aside0.mk (show Sl kSpan w8 B8 d8 [] from ho.sl'); have HB8 := Aside0.mk (below_then HB7.out HB7.out.size hb); clear ho hb) | (go_at_call 31; go_must (refine (ref22_Same B8 none d8 0 ⟨[], 0, 0⟩ ⟨[], 0, 0⟩ _ HS8.out (Sl.nil _ _ _ _)).mono ?_); rintro e w9 ⟨rfl, hb⟩; have HB9 := Aside0.mk (below_then HB8.out HB8.out.size hb); clear hb) | (go_at_call 46; go_must (with_reducible refine (HTY.out _ _ _ HSE7.out).mono ?_); rintro e w8 ⟨rfl, hb⟩; have HSE8 := Aside0.mk (HSE7.out.below hb); have HP8 := Aside0.mk (blk_keep hb HP7.out); have HB8 := Aside0.mk (below_then HB7.out HB7.out.size hb); have q8 := blk_cell HP8.out; clear hb) | (go_at_call 34; go_must (refine (calls_own (law03_Refs _ _ y.on _ HSE8.out (by omega))).mono ?_); rintro e w9 ⟨B9, d9, rfl, ho, hs9, hb⟩; have HS9 := Aside0.mk hs9; have HB9 := Aside0.mk (below_then HB8.out HB8.out.size hb); clear ho hs9 hb) | (go_at_call 48; go_must (refine (ref03_Check _ _ y.on _ HS9.out).mono ?_); rintro e w10 ⟨rfl, hb⟩; have HB10 := Aside0.mk (below_then HB9.out HB9.out.size hb); clear hb)))
          go_ret
          exact ⟨by simp [*], HB10.out⟩
        · skip
          have hz := Aside0.mk (show curOut l = ⟨[], 0, 0⟩ by rw [curOut, if_neg hc0])
          have hR2 := HR2.out
          rw [hz.out] at hR2
          have HR2 : Aside0 _ := ⟨hR2⟩
          clear hR2 hz
          have HRZ : Aside0 (∀ A c W, Sl kSpan W A c [] → Calls Try.prog 29 #[.agg #[.slice A 0 c, .int .i64 0, .int .i64 0]] W fun e w' => ∃ B d, e = .returned (vCur B d ⟨[], 0, 0⟩) ∧ Own kSpan 178 w' W.heap.size (.slice B 0 d) [] ∧ Below W.heap.size W w') := ⟨fun A c W h => law22_ref A c ⟨[], 0, 0⟩ W h (by simp)⟩
          have t9 : (curErr l == 0) = false := by simp [hc0]
          have t8 : (curErr l != 0) = true := by simp [hc0]
          clear hc0
          generalize curErr l = ce at *
          go_enter Try.func10, Try.ntmps10
          go_wp2_with (first | (go_at_call 46; with_reducible refine calls_box1 (fun W0 hb0 hp0 => ?_); with_reducible refine (HT.out _ hb0).mono ?_; rintro e w1 ⟨rfl, hb⟩; have HP1 := Aside0.mk (blk_keep hb hp0); have HBW := Aside0.mk (below_then hb0 hb0.size hb); have q1 := blk_cell HP1.out; clear hb hb0 hp0) | (first | (go_at_call 47; with_reducible refine (HR2.out _).mono ?_; rintro e w5 ⟨E5, f5, rfl, hse, hb⟩; have HSE := Aside0.mk hse; have HB5 := Aside0.mk (below_then HBW.out HBW.out.size hb); clear hse hb) | (go_at_call 25; go_must (with_reducible refine calls_box1 (fun W6 hb6 hp6 => ?_)); with_reducible refine (HAw.out _).mono ?_; rintro e w7 ⟨rfl, hb⟩; have HSE7 := Aside0.mk ((HSE.out.below hb6).below hb); have HP7 := Aside0.mk (blk_keep hb hp6); have HB7 := Aside0.mk (below_then (below_then HB5.out HB5.out.size hb6) (below_then HB5.out HB5.out.size hb6).size hb); have q7 := blk_cell HP7.out; clear hb hb6 hp6 HB5 HSE) | (go_at_call 29; go_must (with_reducible refine (HRZ.out _ _ _ HSE7.out).mono ?_); rintro e w8 ⟨B8, d8, rfl, ho, hb⟩; have HS8 := Aside0.mk (show Sl kSpan w8 B8 d8 [] from ho.sl'); have HB8 := Aside0.mk (below_then HB7.out HB7.out.size hb); clear ho hb) | (go_at_call 31; go_must (refine (ref22_Same B8 none d8 0 ⟨[], 0, 0⟩ ⟨[], 0, 0⟩ _ HS8.out (Sl.nil _ _ _ _)).mono ?_); rintro e w9 ⟨rfl, hb⟩; have HB9 := Aside0.mk (below_then HB8.out HB8.out.size hb); clear hb) | (go_at_call 46; go_must (with_reducible refine (HTY.out _ _ _ HSE7.out).mono ?_); rintro e w8 ⟨rfl, hb⟩; have HSE8 := Aside0.mk (HSE7.out.below hb); have HP8 := Aside0.mk (blk_keep hb HP7.out); have HB8 := Aside0.mk (below_then HB7.out HB7.out.size hb); have q8 := blk_cell HP8.out; clear hb) | (go_at_call 34; go_must (refine (calls_own (law03_Refs _ _ y.on _ HSE8.out (by omega))).mono ?_); rintro e w9 ⟨B9, d9, rfl, ho, hs9, hb⟩; have HS9 := Aside0.mk hs9; have HB9 := Aside0.mk (below_then HB8.out HB8.out.size hb); clear ho hs9 hb) | (go_at_call 48; go_must (refine (ref03_Check _ _ y.on _ HS9.out).mono ?_); rintro e w10 ⟨rfl, hb⟩; have HB10 := Aside0.mk (below_then HB9.out HB9.out.size hb); clear hb)))
          go_ret
          exact ⟨by simp [*], HB9.out⟩
      | true =>
        obtain ⟨r1, r2⟩ := read_written hok
        have hne := encC_ne x
        have htl := encC_len hok
        have HT := Aside0.mk (fun W (h : Below w.heap.size w W) => scan_Text A c x W (HS.out.below h))
        rw [show curText x = encC x by rw [curText, hok]; rfl] at HT
        have HR1 := Aside0.mk (fun W => scan_Read (encC x) W (by omega))
        rw [r1, r2] at HR1
        have hsl := (isSet_facts (okCur_facts hok).1).1
        generalize encC x = tx at *
        have t5 : (tx == []) = false := by simp [hne]
        have t6 : tx.isEmpty = false := by simp [hne]
        clear hok r1 r2 hne htl
        go_enter Try.func10, Try.ntmps10
        go_wp2_with (first | (go_at_call 46; with_reducible refine calls_box1 (fun W0 hb0 hp0 => ?_); with_reducible refine (HT.out _ hb0).mono ?_; rintro e w1 ⟨rfl, hb⟩; have HP1 := Aside0.mk (blk_keep hb hp0); have HBW := Aside0.mk (below_then hb0 hb0.size hb); have q1 := blk_cell HP1.out; clear hb hb0 hp0) | (go_at_call 47; go_must (with_reducible refine (HR1.out _).mono ?_); rintro e w2 ⟨D, d, rfl, hsd, hb⟩; have HSD := Aside0.mk hsd; have HP2 := Aside0.mk (blk_keep hb HP1.out); have HB2 := Aside0.mk (below_then HBW.out HBW.out.size hb); clear hsd hb q1))
        have hp3 := Aside0.mk (blk_alloc HP2.out (.cells #[.slice D x.on.length d, .int .i64 x.after, .int .i64 x.limit] 50))
        have hd3 := Aside0.mk (blk_new w2 (.cells #[.slice D x.on.length d, .int .i64 x.after, .int .i64 x.limit] 50))
        have hb3 := Aside0.mk (below_alloc HB2.out (.cells #[.slice D x.on.length d, .int .i64 x.after, .int .i64 x.limit] 50))
        have hs3 := Aside0.mk (HSD.out.below (below_alloc (Below.refl _ w2) (.cells #[.slice D x.on.length d, .int .i64 x.after, .int .i64 x.limit] 50)))
        generalize w2.alloc (.cells #[.slice D x.on.length d, .int .i64 x.after, .int .i64 x.limit] 50) = w3 at *
        generalize w2.heap.size = q at *
        have on6 : (!decide (x = x)) = false := by simp
        refine start_ (n := 10) (S := fun w' => w'.heap[w.heap.size]? = some (.cells #[.slice A x.on.length c, .int .i64 x.after, .int .i64 x.limit] 50 (0, 0)) ∧ (∀ i, w'.cell? ⟨w.heap.size, i, none⟩ = (#[.slice A x.on.length c, .int .i64 x.after, .int .i64 x.limit] : Array Value)[i]?) ∧ w'.heap[q]? = some (.cells #[.slice D x.on.length d, .int .i64 x.after, .int .i64 x.limit] 50 (0, 0)) ∧ (∀ i, w'.cell? ⟨q, i, none⟩ = (#[.slice D x.on.length d, .int .i64 x.after, .int .i64 x.limit] : Array Value)[i]?)) (ds := []) #[false, false, false, false, false, false, false, false, false, false] (by kernel_rfl) rfl rfl ⟨blk_drew hp3.out, (fun i => blk_cell hp3.out i), blk_drew hd3.out, (fun i => blk_cell hd3.out i)⟩ (fun hHeld => ?_)
        refine pure_ (i := 0) (N := some 29) (v := ?_) (a' := ?_) #[true, false, false, false, false, false, false, false, false, false] rfl rfl (by kernel_rfl) (fun _ _ _ h => h) (Or.inl ⟨by rfl, ?_⟩) ?_ ?_
        rotate_left
        · intro w'
          go_simp
          with_reducible rfl
        rotate_left
        · simp only [Act.put, List.setIfInBounds_toArray, List.set_cons_zero, List.set_cons_succ, i64_w, i32_w]
          rfl
        refine pure_ (i := 1) (N := some 30) (v := ?_) (a' := ?_) #[true, true, false, false, false, false, false, false, false, false] rfl rfl (by kernel_rfl) (fun _ _ _ h => h) (Or.inl ⟨by rfl, ?_⟩) ?_ ?_
        rotate_left
        · intro w'
          go_simp
          with_reducible rfl
        rotate_left
        · simp only [Act.put, List.setIfInBounds_toArray, List.set_cons_zero, List.set_cons_succ, i64_w, i32_w]
          rfl
        refine pure_ (i := 2) (N := some 31) (v := ?_) (a' := ?_) #[true, true, true, false, false, false, false, false, false, false] rfl rfl (by kernel_rfl) (fun _ _ _ h => h) (Or.inl ⟨by rfl, ?_⟩) ?_ ?_
        rotate_left
        · intro w'
          go_simp
          with_reducible rfl
        rotate_left
        · simp only [Act.put, List.setIfInBounds_toArray, List.set_cons_zero, List.set_cons_succ, i64_w, i32_w]
          rfl
        refine take_ (i := 3) (N := some 32) (v := ?_) (a' := ?_) #[true, true, true, true, false, false, false, false, false, false] rfl rfl (by kernel_rfl) (fun _ _ _ h => h) (Or.inl ⟨by rfl, ?_⟩) hHeld ?_ ?_
        rotate_left
        · rintro w' ⟨s0, s1, s2, s3⟩
          go_simp
          with_reducible rfl
        rotate_left
        · simp only [Act.put, List.setIfInBounds_toArray, List.set_cons_zero, List.set_cons_succ, i64_w, i32_w]
          rfl
        refine take_ (i := 5) (N := some 34) (v := ?_) (a' := ?_) #[true, true, true, true, false, true, false, false, false, false] rfl rfl (by kernel_rfl) (fun _ _ _ h => h) (Or.inl ⟨by rfl, ?_⟩) hHeld ?_ ?_
        rotate_left
        · rintro w' ⟨s0, s1, s2, s3⟩
          go_simp
          with_reducible rfl
        rotate_left
        · simp only [Act.put, List.setIfInBounds_toArray, List.set_cons_zero, List.set_cons_succ, i64_w, i32_w]
          rfl
        refine one_ (i := 4) (N := some 33) #[true, true, true, true, true, true, false, false, false, false] rfl rfl (by kernel_rfl) (by decide) (fun K hK => ?_)
        refine goes_ Try.func29 (by kernel_rfl) rfl #[vCur D d x] (by rfl) rfl rfl (by simp only [List.map_toArray, List.map_cons, List.map_nil]; rfl) ?_
        with_reducible refine ((law22_ref D d x _ (hs3.out.below (below_drew (Below.refl _ _))) (by omega))).mono ?_
        rintro r w4 ⟨B4, e4, rfl, ho4, hb⟩
        refine ⟨_, rfl, ?_⟩
        have HS4 := Aside0.mk ho4.sl2
        have HB4 := Aside0.mk (below_then (below_drew hb3.out) (below_drew hb3.out).size hb)
        refine hK.out _ _ ⟨blk_keep hb hHeld.1, (fun i => blk_cell (blk_keep hb hHeld.1) i), blk_keep hb hHeld.2.2.1, (fun i => blk_cell (blk_keep hb hHeld.2.2.1) i)⟩ (fun hHeld => ?_)
        clear hK K
        refine norm_ (a' := ?_) ?_ ?_
        rotate_left
        · show Act.put _ (some 33) _ = _
          simp only [Act.put, List.setIfInBounds_toArray, List.set_cons_zero, List.set_cons_succ, i64_w, i32_w]
          rfl
        refine one_ (i := 6) (N := some 35) #[true, true, true, true, true, true, true, false, false, false] rfl rfl (by kernel_rfl) (by decide) (fun K hK => ?_)
        refine goes_ Try.func29 (by kernel_rfl) rfl #[vCur A c x] (by rfl) rfl rfl (by simp only [List.map_toArray, List.map_cons, List.map_nil]; rfl) ?_
        with_reducible refine ((law22_ref A c x _ (HS.out.below HB4.out) (by omega))).mono ?_
        rintro r w5 ⟨B5, e5, rfl, ho5, hb⟩
        refine ⟨_, rfl, ?_⟩
        have HS5 := Aside0.mk ho5.sl2
        have HS4b := Aside0.mk (HS4.out.below hb)
        have HB5 := Aside0.mk (below_then HB4.out HB4.out.size hb)
        refine hK.out _ _ ⟨blk_keep hb hHeld.1, (fun i => blk_cell (blk_keep hb hHeld.1) i), blk_keep hb hHeld.2.2.1, (fun i => blk_cell (blk_keep hb hHeld.2.2.1) i)⟩ (fun hHeld => ?_)
        clear hK K
        refine norm_ (a' := ?_) ?_ ?_
        rotate_left
        · show Act.put _ (some 35) _ = _
          simp only [Act.put, List.setIfInBounds_toArray, List.set_cons_zero, List.set_cons_succ, i64_w, i32_w]
          rfl
        refine one_ (i := 7) (N := some 36) #[true, true, true, true, true, true, true, true, false, false] rfl rfl (by kernel_rfl) (by decide) (fun K hK => ?_)
        refine goes_ Try.func31 (by kernel_rfl) rfl #[vCur B4 e4 x, vCur B5 e5 x] (by rfl) rfl rfl (by simp only [List.map_toArray, List.map_cons, List.map_nil]; rfl) ?_
        with_reducible refine ((ref22_Same B4 B5 e4 e5 x x _ HS4b.out HS5.out)).mono ?_
        rintro r w6 ⟨rfl, hb⟩
        refine ⟨_, rfl, ?_⟩
        have HBW := Aside0.mk (below_then HB5.out HB5.out.size hb)
        refine hK.out _ _ ⟨blk_keep hb hHeld.1, (fun i => blk_cell (blk_keep hb hHeld.1) i), blk_keep hb hHeld.2.2.1, (fun i => blk_cell (blk_keep hb hHeld.2.2.1) i)⟩ (fun hHeld => ?_)
        clear hK K
        refine norm_ (a' := ?_) ?_ ?_
        rotate_left
        · show Act.put _ (some 36) _ = _
          simp only [Act.put, List.setIfInBounds_toArray, List.set_cons_zero, List.set_cons_succ, i64_w, i32_w]
          rfl
        refine pure_ (i := 8) (N := some 37) (v := ?_) (a' := ?_) #[true, true, true, true, true, true, true, true, true, false] rfl rfl (by kernel_rfl) (fun _ _ _ h => h) (Or.inl ⟨by rfl, ?_⟩) ?_ ?_
        rotate_left
        · intro w'
          go_simp
          with_reducible rfl
        rotate_left
        · simp only [Act.put, List.setIfInBounds_toArray, List.set_cons_zero, List.set_cons_succ, i64_w, i32_w]
          rfl
        refine pure_ (i := 9) (N := some 38) (v := ?_) (a' := ?_) #[true, true, true, true, true, true, true, true, true, true] rfl rfl (by kernel_rfl) (fun _ _ _ h => h) (Or.inl ⟨by rfl, ?_⟩) ?_ ?_
        rotate_left
        · intro w'
          go_simp
          with_reducible rfl
        rotate_left
        · simp only [Act.put, List.setIfInBounds_toArray, List.set_cons_zero, List.set_cons_succ, i64_w, i32_w]
          rfl
        refine done_ (by kernel_rfl) ?_

        clear hHeld
        by_cases hc0 : curErr l = 0
        · skip
          have t4 : (l == l) = true := by simp
          obtain ⟨c1, c2, c3⟩ := written_read hc0
          have hR2 := HR2.out
          rw [hc0] at hR2
          have HR2 : Aside0 _ := ⟨hR2⟩
          clear hR2
          rw [← c1] at c2 c3
          have HTY := Aside0.mk (fun A c W (h : Sl kSpan W A c (curOut l).on) => scan_Text A c (curOut l) W h)
          rw [show curText (curOut l) = l by rw [curText, if_pos c2, c3]] at HTY
          have hset := (okCur_facts c2).1
          have hl64 := (isSet_facts hset).1
          clear c1 c2 c3 hc0
          generalize curOut l = y at *
          go_wp2_with (first | (go_at_call 47; with_reducible refine (HR2.out _).mono ?_; rintro e w5 ⟨E5, f5, rfl, hse, hb⟩; have HSE := Aside0.mk hse; have HB5 := Aside0.mk (below_then HBW.out HBW.out.size hb); clear hse hb) | (go_at_call 25; go_must (with_reducible refine calls_box1 (fun W6 hb6 hp6 => ?_)); with_reducible refine (HAw.out _).mono ?_; rintro e w7 ⟨rfl, hb⟩; have HSE7 := Aside0.mk ((HSE.out.below hb6).below hb); have HP7 := Aside0.mk (blk_keep hb hp6); have HB7 := Aside0.mk (below_then (below_then HB5.out HB5.out.size hb6) (below_then HB5.out HB5.out.size hb6).size hb); have q7 := blk_cell HP7.out; clear hb hb6 hp6 HB5 HSE) | (go_at_call 29; go_must (with_reducible refine (HRZ.out _ _ _ HSE7.out).mono ?_); rintro e w8 ⟨B8, d8, rfl, ho, hb⟩; have HS8 := Aside0.mk (show Sl kSpan w8 B8 d8 [] from ho.sl'); have HB8 := Aside0.mk (below_then HB7.out HB7.out.size hb); clear ho hb) | (go_at_call 31; go_must (refine (ref22_Same B8 none d8 0 ⟨[], 0, 0⟩ ⟨[], 0, 0⟩ _ HS8.out (Sl.nil _ _ _ _)).mono ?_); rintro e w9 ⟨rfl, hb⟩; have HB9 := Aside0.mk (below_then HB8.out HB8.out.size hb); clear hb) | (go_at_call 46; go_must (with_reducible refine (HTY.out _ _ _ HSE7.out).mono ?_); rintro e w8 ⟨rfl, hb⟩; have HSE8 := Aside0.mk (HSE7.out.below hb); have HP8 := Aside0.mk (blk_keep hb HP7.out); have HB8 := Aside0.mk (below_then HB7.out HB7.out.size hb); have q8 := blk_cell HP8.out; clear hb) | (go_at_call 34; go_must (refine (calls_own (law03_Refs _ _ y.on _ HSE8.out (by omega))).mono ?_); rintro e w9 ⟨B9, d9, rfl, ho, hs9, hb⟩; have HS9 := Aside0.mk hs9; have HB9 := Aside0.mk (below_then HB8.out HB8.out.size hb); clear ho hs9 hb) | (go_at_call 48; go_must (refine (ref03_Check _ _ y.on _ HS9.out).mono ?_); rintro e w10 ⟨rfl, hb⟩; have HB10 := Aside0.mk (below_then HB9.out HB9.out.size hb); clear hb))
          go_ret
          exact ⟨by simp [*], HB10.out⟩
        · skip
          have hz := Aside0.mk (show curOut l = ⟨[], 0, 0⟩ by rw [curOut, if_neg hc0])
          have hR2 := HR2.out
          rw [hz.out] at hR2
          have HR2 : Aside0 _ := ⟨hR2⟩
          clear hR2 hz
          have HRZ : Aside0 (∀ A c W, Sl kSpan W A c [] → Calls Try.prog 29 #[.agg #[.slice A 0 c, .int .i64 0, .int .i64 0]] W fun e w' => ∃ B d, e = .returned (vCur B d ⟨[], 0, 0⟩) ∧ Own kSpan 178 w' W.heap.size (.slice B 0 d) [] ∧ Below W.heap.size W w') := ⟨fun A c W h => law22_ref A c ⟨[], 0, 0⟩ W h (by simp)⟩
          have t9 : (curErr l == 0) = false := by simp [hc0]
          have t8 : (curErr l != 0) = true := by simp [hc0]
          clear hc0
          generalize curErr l = ce at *
          go_wp2_with (first | (go_at_call 47; with_reducible refine (HR2.out _).mono ?_; rintro e w5 ⟨E5, f5, rfl, hse, hb⟩; have HSE := Aside0.mk hse; have HB5 := Aside0.mk (below_then HBW.out HBW.out.size hb); clear hse hb) | (go_at_call 25; go_must (with_reducible refine calls_box1 (fun W6 hb6 hp6 => ?_)); with_reducible refine (HAw.out _).mono ?_; rintro e w7 ⟨rfl, hb⟩; have HSE7 := Aside0.mk ((HSE.out.below hb6).below hb); have HP7 := Aside0.mk (blk_keep hb hp6); have HB7 := Aside0.mk (below_then (below_then HB5.out HB5.out.size hb6) (below_then HB5.out HB5.out.size hb6).size hb); have q7 := blk_cell HP7.out; clear hb hb6 hp6 HB5 HSE) | (go_at_call 29; go_must (with_reducible refine (HRZ.out _ _ _ HSE7.out).mono ?_); rintro e w8 ⟨B8, d8, rfl, ho, hb⟩; have HS8 := Aside0.mk (show Sl kSpan w8 B8 d8 [] from ho.sl'); have HB8 := Aside0.mk (below_then HB7.out HB7.out.size hb); clear ho hb) | (go_at_call 31; go_must (refine (ref22_Same B8 none d8 0 ⟨[], 0, 0⟩ ⟨[], 0, 0⟩ _ HS8.out (Sl.nil _ _ _ _)).mono ?_); rintro e w9 ⟨rfl, hb⟩; have HB9 := Aside0.mk (below_then HB8.out HB8.out.size hb); clear hb) | (go_at_call 46; go_must (with_reducible refine (HTY.out _ _ _ HSE7.out).mono ?_); rintro e w8 ⟨rfl, hb⟩; have HSE8 := Aside0.mk (HSE7.out.below hb); have HP8 := Aside0.mk (blk_keep hb HP7.out); have HB8 := Aside0.mk (below_then HB7.out HB7.out.size hb); have q8 := blk_cell HP8.out; clear hb) | (go_at_call 34; go_must (refine (calls_own (law03_Refs _ _ y.on _ HSE8.out (by omega))).mono ?_); rintro e w9 ⟨B9, d9, rfl, ho, hs9, hb⟩; have HS9 := Aside0.mk hs9; have HB9 := Aside0.mk (below_then HB8.out HB8.out.size hb); clear ho hs9 hb) | (go_at_call 48; go_must (refine (ref03_Check _ _ y.on _ HS9.out).mono ?_); rintro e w10 ⟨rfl, hb⟩; have HB10 := Aside0.mk (below_then HB9.out HB9.out.size hb); clear hb))
          go_ret
          exact ⟨by simp [*], HB9.out⟩

end Go.Proofs.Ytoeipkjpgbdioaa
