/- The law ScanAll: what it answers. -/
import Derived.Test.YtoeipkjpgbdioaaAllPages
set_option linter.unusedVariables false
set_option linter.unusedSimpArgs false
namespace Go.Proofs.Ytoeipkjpgbdioaa
open Go.RowKit Go.Shelf Go.Proofs.YtoeipkjpgbdioaaW.PrintWords Go.Proofs.YtoeipkjpgbdioaaW.PrintLast

set_option maxHeartbeats 4000000 in
set_option maxRecDepth 100000 in
theorem law22_ScanAll (A B : Option Addr) (c d : Nat) (l : List Pair) (x : Cursor) (w : World) (hr : Sl kPair w A c l) (hs : Sl kSpan w B d x.on) :
    Calls Try.prog 9 #[.slice A l.length c, vCur B d x] w fun e w' => e = .returned (.bool true) ∧ Below w.heap.size w w' := by
  have HFew := Aside0.mk (fun W => law22_few A B c d l x.on W)
  have HAw := Aside0.mk (fun W => law22_awake W)
  have hr0 := Aside0.mk hr
  have hs0 := Aside0.mk hs
  clear hr hs
  cases ef : few l x.on with
  | false =>
    rw [ef] at HFew
    clear ef
    go_enter Try.func9, Try.ntmps9
    go_wp2_with (first | (go_at_call 24; refine calls_box1 ?_; intro W0 hX hb0; have HX := Aside0.mk hX; have b0 := Aside0.mk hb0; clear hX hb0; have HQ := Aside0.mk (Below.refl W0.heap.size W0); refine (HFew.out _).mono ?_; rintro e w1 ⟨rfl, hb⟩; have hq := via HQ.out hb; clear HQ hb; have HQ := Aside0.mk hq; (try clear x0 x1 x2); obtain ⟨x0, x1, x2⟩ := box_later hq b0.out; clear hq) | (go_at_call 25; with_reducible refine (HAw.out _).mono ?_; rintro e w4 ⟨rfl, hb⟩; have hq := via HQ.out hb; clear HQ hb; have HQ := Aside0.mk hq; (try clear x0 x1 x2); obtain ⟨x0, x1, x2⟩ := box_later hq b0.out; clear hq))
    go_ret
    exact ⟨rfl, via HX.out HQ.out⟩
  | true =>
    have hl : l.length ≤ 100 ∧ x.on.length ≤ 100 := by simpa [few] using ef
    rw [ef] at HFew
    clear ef
    obtain ⟨hl1, hl2⟩ := hl
    have HR := Aside0.mk (fun C c' m W (hm : m.length ≤ 100) (h : Sl kPair W C c' m) => calls_own (law05_Refs C c' m W h (by omega)))
    have HC := Aside0.mk (fun D d' (y : Cursor) W (hm : y.on.length ≤ 100) (h : Sl kSpan W D d' y.on) => law22_ref D d' y W h (by omega))
    have HRP := Aside0.mk (fun C c' D d' W (h1 : Sl kPair W C c' l) (h2 : Sl kSpan W D d' x.on) => ref22_Page C D c' d' l x W h1 h2 (by omega))
    cases hb : pgBad l x with
    | true =>
      have HP := Aside0.mk (fun W (h : Below w.heap.size w W) => scan_All_bad A B c d l x W (hr0.out.below h) (hs0.out.below h) hb)
      have he := Aside0.mk (show paErr l x = 1 by simp [paErr, hb])
      clear hb
      go_enter Try.func9, Try.ntmps9
      go_wp2_with (first
        | (go_at_call 24; refine calls_box1 ?_; intro W0 hX hb0; have HX := Aside0.mk hX; have b0 := Aside0.mk hb0; clear hX hb0; have HQ := Aside0.mk (Below.refl W0.heap.size W0); refine (HFew.out _).mono ?_; rintro e w1 ⟨rfl, hb⟩; have hq := via HQ.out hb; clear HQ hb; have HQ := Aside0.mk hq; (try clear x0 x1 x2); obtain ⟨x0, x1, x2⟩ := box_later hq b0.out; clear hq)
        | (go_at_call 44; with_reducible refine (HP.out _ (via HX.out HQ.out)).mono ?_; rintro e w2 ⟨rfl, hb⟩; have hq := via HQ.out hb; clear HQ hb; have HQ := Aside0.mk hq; (try clear x0 x1 x2); obtain ⟨x0, x1, x2⟩ := box_later hq b0.out; clear hq))
      have hX9 := Aside0.mk (via HX.out HQ.out)
      have b9 := Aside0.mk (blk_keep HQ.out b0.out)
      clear x0 x1 x2 b0
      refine start_ (n := 7) (S := fun w' => w'.heap[w.heap.size]? = some (.cells #[.slice B x.on.length d, .int .i64 x.after, .int .i64 x.limit] 50 (0, 0)) ∧ (∀ i, w'.cell? ⟨w.heap.size, i, none⟩ = (#[.slice B x.on.length d, .int .i64 x.after, .int .i64 x.limit] : Array Value)[i]?) ∧ Below w2.heap.size w2 w') (ds := [6]) #[false, false, false, false, false, false, false] (by kernel_rfl) rfl rfl ⟨b9.out, (fun i => blk_cell b9.out i), below_drew (Below.refl _ _)⟩ (fun hHeld => ?_)
      refine pure_ (i := 0) (N := some 25) (v := ?_) (a' := ?_) #[true, false, false, false, false, false, false] rfl rfl (by kernel_rfl) (fun _ _ _ h => h) (Or.inl ⟨by rfl, ?_⟩) ?_ ?_
      rotate_left
      · intro w'
        go_simp
        with_reducible rfl
      rotate_left
      · simp only [Act.put, List.setIfInBounds_toArray, List.set_cons_zero, List.set_cons_succ, i64_w, i32_w]
        rfl
      refine take_ (i := 2) (N := some 27) (v := ?_) (a' := ?_) #[true, false, true, false, false, false, false] rfl rfl (by kernel_rfl) (fun _ _ _ h => h) (Or.inl ⟨by rfl, ?_⟩) hHeld ?_ ?_
      rotate_left
      · rintro w' ⟨s0, s1, s2⟩
        go_simp
        with_reducible rfl
      rotate_left
      · simp only [Act.put, List.setIfInBounds_toArray, List.set_cons_zero, List.set_cons_succ, i64_w, i32_w]
        rfl
      refine join_ (σ := (Option Addr) × (Nat) × (Option Addr) × (Nat) × (Option Addr) × (Nat) × (Nat)) 1 #[true, true, true, true, true, true, false] (fun s => [(26, .slice s.1 l.length s.2.1), (28, vCur s.2.2.1 s.2.2.2.1 x), (29, vPaged s.2.2.2.2.1 (paOut l x).length s.2.2.2.2.2.1 (paA l x s.2.2.1) (paNext l x).on.length (paD l x s.2.2.2.1) (paNext l x).after (paNext l x).limit (paMore l x) (paErr l x)), (7, .pointer (some ⟨s.2.2.2.2.2.2, 0, none⟩))]) (fun s w' => (w'.heap[w.heap.size]? = some (.cells #[.slice B x.on.length d, .int .i64 x.after, .int .i64 x.limit] 50 (0, 0))) ∧ ((∀ i, w'.cell? ⟨w.heap.size, i, none⟩ = (#[.slice B x.on.length d, .int .i64 x.after, .int .i64 x.limit] : Array Value)[i]?)) ∧ (Below w2.heap.size w2 w') ∧ (Sl kPair w' s.1 s.2.1 l) ∧ (Sl kSpan w' s.2.2.1 s.2.2.2.1 x.on) ∧ (w'.heap[s.2.2.2.2.2.2]? = some (.cells #[.slice none 0 0, .slice none 0 0, .int .i64 0, .int .i64 0, .bool false, .int .i64 0] 59 (0, 0))) ∧ (w2.heap.size ≤ s.2.2.2.2.2.2)) ?_ ?_
      rotate_left
      · intro hCont
        refine two_ (i := 1) (j := 5) (Ni := some 26) (Nj := some 7) #[true, true, true, false, false, false, false] #[true, false, true, false, false, true, false] rfl rfl rfl rfl (by kernel_rfl) (by decide) (by decide) (fun K hK => ?_) (fun K hK => ?_)
        · skip
          refine goes_ Try.func28 (by kernel_rfl) rfl #[.slice A l.length c] (by rfl) rfl rfl (by simp only [List.map_toArray, List.map_cons, List.map_nil]; rfl) ?_
          with_reducible refine (HR.out _ _ l _ hl1 (hr0.out.below (via hX9.out hHeld.2.2))).mono ?_
          rintro e w8 ⟨C1, c1, rfl, ho1, hs1, hb⟩
          refine ⟨_, rfl, ?_⟩
          have HL1 : Aside0 (Sl kPair w8 C1 c1 l) := ⟨hs1⟩
          refine hK.out _ _ ⟨blk_keep hb hHeld.1, (fun i => blk_cell (blk_keep hb hHeld.1) i), via hHeld.2.2 hb⟩ (fun hHeld => ?_)
          clear hK K
          refine norm_ (a' := ?_) ?_ ?_
          rotate_left
          · show Act.put _ (some 26) _ = _
            simp only [Act.put, List.setIfInBounds_toArray, List.set_cons_zero, List.set_cons_succ, i64_w, i32_w]
            rfl
          refine two_ (i := 3) (j := 5) (Ni := some 28) (Nj := some 7) #[true, true, true, true, false, false, false] #[true, true, true, false, false, true, false] rfl rfl rfl rfl (by kernel_rfl) (by decide) (by decide) (fun K hK => ?_) (fun K hK => ?_)
          · skip
            refine goes_ Try.func29 (by kernel_rfl) rfl #[vCur B d x] (by rfl) rfl rfl (by simp only [List.map_toArray, List.map_cons, List.map_nil]; rfl) ?_
            with_reducible refine (HC.out _ _ x _ hl2 (hs0.out.below (via hX9.out hHeld.2.2))).mono ?_
            rintro e w10 ⟨D1, d1, rfl, ho2, hb⟩
            refine ⟨_, rfl, ?_⟩
            have HL1 := Aside0.mk (HL1.out.below hb)
            have HL2 : Aside0 (Sl kSpan w10 D1 d1 x.on) := ⟨ho2.sl2⟩
            refine hK.out _ _ ⟨blk_keep hb hHeld.1, (fun i => blk_cell (blk_keep hb hHeld.1) i), via hHeld.2.2 hb⟩ (fun hHeld => ?_)
            clear hK K
            refine norm_ (a' := ?_) ?_ ?_
            rotate_left
            · show Act.put _ (some 28) _ = _
              simp only [Act.put, List.setIfInBounds_toArray, List.set_cons_zero, List.set_cons_succ, i64_w, i32_w]
              rfl
            refine two_ (i := 4) (j := 5) (Ni := some 29) (Nj := some 7) #[true, true, true, true, true, false, false] #[true, true, true, true, false, true, false] rfl rfl rfl rfl (by kernel_rfl) (by decide) (by decide) (fun K hK => ?_) (fun K hK => ?_)
            · skip
              refine goes_ Try.func27 (by kernel_rfl) rfl #[.slice C1 l.length c1, vCur D1 d1 x] (by rfl) rfl rfl (by simp only [List.map_toArray, List.map_cons, List.map_nil]; rfl) ?_
              with_reducible refine (HRP.out _ _ _ _ _ HL1.out HL2.out).mono ?_
              rintro e w11 ⟨C3, c3, rfl, ho3, hb⟩
              refine ⟨_, rfl, ?_⟩
              have HL1 := Aside0.mk (HL1.out.below hb)
              have HL2 := Aside0.mk (HL2.out.below hb)
              refine hK.out _ _ ⟨blk_keep hb hHeld.1, (fun i => blk_cell (blk_keep hb hHeld.1) i), via hHeld.2.2 hb⟩ (fun hHeld => ?_)
              clear hK K
              refine norm_ (a' := ?_) ?_ ?_
              rotate_left
              · show Act.put _ (some 29) _ = _
                simp only [Act.put, List.setIfInBounds_toArray, List.set_cons_zero, List.set_cons_succ, i64_w, i32_w]
                rfl
              refine one_ (i := 5) (N := some 7) #[true, true, true, true, true, true, false] rfl rfl (by kernel_rfl) (by decide) (fun K hK => ?_)
              have hga_ := Aside0.mk (box_top w11 (.cells #[.slice none 0 0, .slice none 0 0, .int .i64 0, .int .i64 0, .bool false, .int .i64 0] 59))
              refine value_ (w1 := ?_) (v := ?_) (by rfl) rfl ?_ ?_
              rotate_left 2
              · go_simp
                constructor
                · rfl
                · rfl
              have HL1 := Aside0.mk (HL1.out.below (below_alloc (Below.refl _ _) (.cells #[.slice none 0 0, .slice none 0 0, .int .i64 0, .int .i64 0, .bool false, .int .i64 0] 59)))
              have HL2 := Aside0.mk (HL2.out.below (below_alloc (Below.refl _ _) (.cells #[.slice none 0 0, .slice none 0 0, .int .i64 0, .int .i64 0, .bool false, .int .i64 0] 59)))
              have Bg9 := hga_
              have hg9 : Aside0 (w2.heap.size ≤ w11.heap.size) := ⟨hHeld.2.2.size⟩
              refine hK.out _ _ ⟨blk_keep (below_alloc (Below.refl _ _) (.cells #[.slice none 0 0, .slice none 0 0, .int .i64 0, .int .i64 0, .bool false, .int .i64 0] 59)) hHeld.1, (fun i => blk_cell (blk_keep (below_alloc (Below.refl _ _) (.cells #[.slice none 0 0, .slice none 0 0, .int .i64 0, .int .i64 0, .bool false, .int .i64 0] 59)) hHeld.1) i), via hHeld.2.2 (below_alloc (Below.refl _ _) (.cells #[.slice none 0 0, .slice none 0 0, .int .i64 0, .int .i64 0, .bool false, .int .i64 0] 59))⟩ (fun hHeld => ?_)
              clear hK K
              refine norm_ (a' := ?_) ?_ ?_
              rotate_left
              · show Act.put _ (some 7) _ = _
                simp only [Act.put, List.setIfInBounds_toArray, List.set_cons_zero, List.set_cons_succ, i64_w, i32_w]
                rfl
              exact norm_ (by simp only [putAll, Act.put, List.setIfInBounds_toArray, List.set_cons_zero, List.set_cons_succ]) (hCont (C1, c1, D1, d1, C3, c3, (w11.heap.size)) _ ⟨(hHeld.1), (hHeld.2.1), (hHeld.2.2), HL1.out, HL2.out, Bg9.out, hg9.out⟩)
            · skip
              have hga_ := Aside0.mk (box_top w10 (.cells #[.slice none 0 0, .slice none 0 0, .int .i64 0, .int .i64 0, .bool false, .int .i64 0] 59))
              refine value_ (w1 := ?_) (v := ?_) (by rfl) rfl ?_ ?_
              rotate_left 2
              · go_simp
                constructor
                · rfl
                · rfl
              have HL1 := Aside0.mk (HL1.out.below (below_alloc (Below.refl _ _) (.cells #[.slice none 0 0, .slice none 0 0, .int .i64 0, .int .i64 0, .bool false, .int .i64 0] 59)))
              have HL2 := Aside0.mk (HL2.out.below (below_alloc (Below.refl _ _) (.cells #[.slice none 0 0, .slice none 0 0, .int .i64 0, .int .i64 0, .bool false, .int .i64 0] 59)))
              have Bg9 := hga_
              have hg9 : Aside0 (w2.heap.size ≤ w10.heap.size) := ⟨hHeld.2.2.size⟩
              refine hK.out _ _ ⟨blk_keep (below_alloc (Below.refl _ _) (.cells #[.slice none 0 0, .slice none 0 0, .int .i64 0, .int .i64 0, .bool false, .int .i64 0] 59)) hHeld.1, (fun i => blk_cell (blk_keep (below_alloc (Below.refl _ _) (.cells #[.slice none 0 0, .slice none 0 0, .int .i64 0, .int .i64 0, .bool false, .int .i64 0] 59)) hHeld.1) i), via hHeld.2.2 (below_alloc (Below.refl _ _) (.cells #[.slice none 0 0, .slice none 0 0, .int .i64 0, .int .i64 0, .bool false, .int .i64 0] 59))⟩ (fun hHeld => ?_)
              clear hK K
              refine norm_ (a' := ?_) ?_ ?_
              rotate_left
              · show Act.put _ (some 7) _ = _
                simp only [Act.put, List.setIfInBounds_toArray, List.set_cons_zero, List.set_cons_succ, i64_w, i32_w]
                rfl
              refine one_ (i := 4) (N := some 29) #[true, true, true, true, true, true, false] rfl rfl (by kernel_rfl) (by decide) (fun K hK => ?_)
              refine goes_ Try.func27 (by kernel_rfl) rfl #[.slice C1 l.length c1, vCur D1 d1 x] (by rfl) rfl rfl (by simp only [List.map_toArray, List.map_cons, List.map_nil]; rfl) ?_
              with_reducible refine (HRP.out _ _ _ _ _ HL1.out HL2.out).mono ?_
              rintro e w11 ⟨C3, c3, rfl, ho3, hb⟩
              refine ⟨_, rfl, ?_⟩
              have HL1 := Aside0.mk (HL1.out.below hb)
              have HL2 := Aside0.mk (HL2.out.below hb)
              have Bg9 := Aside0.mk (blk_keep hb Bg9.out)
              refine hK.out _ _ ⟨blk_keep hb hHeld.1, (fun i => blk_cell (blk_keep hb hHeld.1) i), via hHeld.2.2 hb⟩ (fun hHeld => ?_)
              clear hK K
              refine norm_ (a' := ?_) ?_ ?_
              rotate_left
              · show Act.put _ (some 29) _ = _
                simp only [Act.put, List.setIfInBounds_toArray, List.set_cons_zero, List.set_cons_succ, i64_w, i32_w]
                rfl
              exact norm_ (by simp only [putAll, Act.put, List.setIfInBounds_toArray, List.set_cons_zero, List.set_cons_succ]) (hCont (C1, c1, D1, d1, C3, c3, (w10.heap.size)) _ ⟨(hHeld.1), (hHeld.2.1), (hHeld.2.2), HL1.out, HL2.out, Bg9.out, hg9.out⟩)
          · skip
            have hga_ := Aside0.mk (box_top w8 (.cells #[.slice none 0 0, .slice none 0 0, .int .i64 0, .int .i64 0, .bool false, .int .i64 0] 59))
            refine value_ (w1 := ?_) (v := ?_) (by rfl) rfl ?_ ?_
            rotate_left 2
            · go_simp
              constructor
              · rfl
              · rfl
            have HL1 := Aside0.mk (HL1.out.below (below_alloc (Below.refl _ _) (.cells #[.slice none 0 0, .slice none 0 0, .int .i64 0, .int .i64 0, .bool false, .int .i64 0] 59)))
            have Bg9 := hga_
            have hg9 : Aside0 (w2.heap.size ≤ w8.heap.size) := ⟨hHeld.2.2.size⟩
            refine hK.out _ _ ⟨blk_keep (below_alloc (Below.refl _ _) (.cells #[.slice none 0 0, .slice none 0 0, .int .i64 0, .int .i64 0, .bool false, .int .i64 0] 59)) hHeld.1, (fun i => blk_cell (blk_keep (below_alloc (Below.refl _ _) (.cells #[.slice none 0 0, .slice none 0 0, .int .i64 0, .int .i64 0, .bool false, .int .i64 0] 59)) hHeld.1) i), via hHeld.2.2 (below_alloc (Below.refl _ _) (.cells #[.slice none 0 0, .slice none 0 0, .int .i64 0, .int .i64 0, .bool false, .int .i64 0] 59))⟩ (fun hHeld => ?_)
            clear hK K
            refine norm_ (a' := ?_) ?_ ?_
            rotate_left
            · show Act.put _ (some 7) _ = _
              simp only [Act.put, List.setIfInBounds_toArray, List.set_cons_zero, List.set_cons_succ, i64_w, i32_w]
              rfl
            refine one_ (i := 3) (N := some 28) #[true, true, true, true, false, true, false] rfl rfl (by kernel_rfl) (by decide) (fun K hK => ?_)
            refine goes_ Try.func29 (by kernel_rfl) rfl #[vCur B d x] (by rfl) rfl rfl (by simp only [List.map_toArray, List.map_cons, List.map_nil]; rfl) ?_
            with_reducible refine (HC.out _ _ x _ hl2 (hs0.out.below (via hX9.out hHeld.2.2))).mono ?_
            rintro e w10 ⟨D1, d1, rfl, ho2, hb⟩
            refine ⟨_, rfl, ?_⟩
            have HL1 := Aside0.mk (HL1.out.below hb)
            have Bg9 := Aside0.mk (blk_keep hb Bg9.out)
            have HL2 : Aside0 (Sl kSpan w10 D1 d1 x.on) := ⟨ho2.sl2⟩
            refine hK.out _ _ ⟨blk_keep hb hHeld.1, (fun i => blk_cell (blk_keep hb hHeld.1) i), via hHeld.2.2 hb⟩ (fun hHeld => ?_)
            clear hK K
            refine norm_ (a' := ?_) ?_ ?_
            rotate_left
            · show Act.put _ (some 28) _ = _
              simp only [Act.put, List.setIfInBounds_toArray, List.set_cons_zero, List.set_cons_succ, i64_w, i32_w]
              rfl
            refine one_ (i := 4) (N := some 29) #[true, true, true, true, true, true, false] rfl rfl (by kernel_rfl) (by decide) (fun K hK => ?_)
            refine goes_ Try.func27 (by kernel_rfl) rfl #[.slice C1 l.length c1, vCur D1 d1 x] (by rfl) rfl rfl (by simp only [List.map_toArray, List.map_cons, List.map_nil]; rfl) ?_
            with_reducible refine (HRP.out _ _ _ _ _ HL1.out HL2.out).mono ?_
            rintro e w11 ⟨C3, c3, rfl, ho3, hb⟩
            refine ⟨_, rfl, ?_⟩
            have HL1 := Aside0.mk (HL1.out.below hb)
            have Bg9 := Aside0.mk (blk_keep hb Bg9.out)
            have HL2 := Aside0.mk (HL2.out.below hb)
            refine hK.out _ _ ⟨blk_keep hb hHeld.1, (fun i => blk_cell (blk_keep hb hHeld.1) i), via hHeld.2.2 hb⟩ (fun hHeld => ?_)
            clear hK K
            refine norm_ (a' := ?_) ?_ ?_
            rotate_left
            · show Act.put _ (some 29) _ = _
              simp only [Act.put, List.setIfInBounds_toArray, List.set_cons_zero, List.set_cons_succ, i64_w, i32_w]
              rfl
            exact norm_ (by simp only [putAll, Act.put, List.setIfInBounds_toArray, List.set_cons_zero, List.set_cons_succ]) (hCont (C1, c1, D1, d1, C3, c3, (w8.heap.size)) _ ⟨(hHeld.1), (hHeld.2.1), (hHeld.2.2), HL1.out, HL2.out, Bg9.out, hg9.out⟩)
        · skip
          have hga_ := Aside0.mk (box_top w2.drew (.cells #[.slice none 0 0, .slice none 0 0, .int .i64 0, .int .i64 0, .bool false, .int .i64 0] 59))
          refine value_ (w1 := ?_) (v := ?_) (by rfl) rfl ?_ ?_
          rotate_left 2
          · go_simp
            constructor
            · rfl
            · rfl
          have Bg9 := hga_
          have hg9 : Aside0 (w2.heap.size ≤ w2.heap.size) := ⟨hHeld.2.2.size⟩
          refine hK.out _ _ ⟨blk_keep (below_alloc (Below.refl _ _) (.cells #[.slice none 0 0, .slice none 0 0, .int .i64 0, .int .i64 0, .bool false, .int .i64 0] 59)) hHeld.1, (fun i => blk_cell (blk_keep (below_alloc (Below.refl _ _) (.cells #[.slice none 0 0, .slice none 0 0, .int .i64 0, .int .i64 0, .bool false, .int .i64 0] 59)) hHeld.1) i), via hHeld.2.2 (below_alloc (Below.refl _ _) (.cells #[.slice none 0 0, .slice none 0 0, .int .i64 0, .int .i64 0, .bool false, .int .i64 0] 59))⟩ (fun hHeld => ?_)
          clear hK K
          refine norm_ (a' := ?_) ?_ ?_
          rotate_left
          · show Act.put _ (some 7) _ = _
            simp only [Act.put, List.setIfInBounds_toArray, List.set_cons_zero, List.set_cons_succ, i64_w, i32_w]
            rfl
          refine one_ (i := 1) (N := some 26) #[true, true, true, false, false, true, false] rfl rfl (by kernel_rfl) (by decide) (fun K hK => ?_)
          refine goes_ Try.func28 (by kernel_rfl) rfl #[.slice A l.length c] (by rfl) rfl rfl (by simp only [List.map_toArray, List.map_cons, List.map_nil]; rfl) ?_
          with_reducible refine (HR.out _ _ l _ hl1 (hr0.out.below (via hX9.out hHeld.2.2))).mono ?_
          rintro e w8 ⟨C1, c1, rfl, ho1, hs1, hb⟩
          refine ⟨_, rfl, ?_⟩
          have Bg9 := Aside0.mk (blk_keep hb Bg9.out)
          have HL1 : Aside0 (Sl kPair w8 C1 c1 l) := ⟨hs1⟩
          refine hK.out _ _ ⟨blk_keep hb hHeld.1, (fun i => blk_cell (blk_keep hb hHeld.1) i), via hHeld.2.2 hb⟩ (fun hHeld => ?_)
          clear hK K
          refine norm_ (a' := ?_) ?_ ?_
          rotate_left
          · show Act.put _ (some 26) _ = _
            simp only [Act.put, List.setIfInBounds_toArray, List.set_cons_zero, List.set_cons_succ, i64_w, i32_w]
            rfl
          refine one_ (i := 3) (N := some 28) #[true, true, true, true, false, true, false] rfl rfl (by kernel_rfl) (by decide) (fun K hK => ?_)
          refine goes_ Try.func29 (by kernel_rfl) rfl #[vCur B d x] (by rfl) rfl rfl (by simp only [List.map_toArray, List.map_cons, List.map_nil]; rfl) ?_
          with_reducible refine (HC.out _ _ x _ hl2 (hs0.out.below (via hX9.out hHeld.2.2))).mono ?_
          rintro e w10 ⟨D1, d1, rfl, ho2, hb⟩
          refine ⟨_, rfl, ?_⟩
          have Bg9 := Aside0.mk (blk_keep hb Bg9.out)
          have HL1 := Aside0.mk (HL1.out.below hb)
          have HL2 : Aside0 (Sl kSpan w10 D1 d1 x.on) := ⟨ho2.sl2⟩
          refine hK.out _ _ ⟨blk_keep hb hHeld.1, (fun i => blk_cell (blk_keep hb hHeld.1) i), via hHeld.2.2 hb⟩ (fun hHeld => ?_)
          clear hK K
          refine norm_ (a' := ?_) ?_ ?_
          rotate_left
          · show Act.put _ (some 28) _ = _
            simp only [Act.put, List.setIfInBounds_toArray, List.set_cons_zero, List.set_cons_succ, i64_w, i32_w]
            rfl
          refine one_ (i := 4) (N := some 29) #[true, true, true, true, true, true, false] rfl rfl (by kernel_rfl) (by decide) (fun K hK => ?_)
          refine goes_ Try.func27 (by kernel_rfl) rfl #[.slice C1 l.length c1, vCur D1 d1 x] (by rfl) rfl rfl (by simp only [List.map_toArray, List.map_cons, List.map_nil]; rfl) ?_
          with_reducible refine (HRP.out _ _ _ _ _ HL1.out HL2.out).mono ?_
          rintro e w11 ⟨C3, c3, rfl, ho3, hb⟩
          refine ⟨_, rfl, ?_⟩
          have Bg9 := Aside0.mk (blk_keep hb Bg9.out)
          have HL1 := Aside0.mk (HL1.out.below hb)
          have HL2 := Aside0.mk (HL2.out.below hb)
          refine hK.out _ _ ⟨blk_keep hb hHeld.1, (fun i => blk_cell (blk_keep hb hHeld.1) i), via hHeld.2.2 hb⟩ (fun hHeld => ?_)
          clear hK K
          refine norm_ (a' := ?_) ?_ ?_
          rotate_left
          · show Act.put _ (some 29) _ = _
            simp only [Act.put, List.setIfInBounds_toArray, List.set_cons_zero, List.set_cons_succ, i64_w, i32_w]
            rfl
          exact norm_ (by simp only [putAll, Act.put, List.setIfInBounds_toArray, List.set_cons_zero, List.set_cons_succ]) (hCont (C1, c1, D1, d1, C3, c3, (w2.heap.size)) _ ⟨(hHeld.1), (hHeld.2.1), (hHeld.2.2), HL1.out, HL2.out, Bg9.out, hg9.out⟩)
      rintro ⟨C1, c1, D1, d1, C3, c3, g9⟩ w9 ⟨hS0_, hS1_, hS2_, hHL1_, hHL2_, hBg9_, hhg9_⟩
      have hHeld : (w9.heap[w.heap.size]? = some (.cells #[.slice B x.on.length d, .int .i64 x.after, .int .i64 x.limit] 50 (0, 0))) ∧ ((∀ i, w9.cell? ⟨w.heap.size, i, none⟩ = (#[.slice B x.on.length d, .int .i64 x.after, .int .i64 x.limit] : Array Value)[i]?)) ∧ (Below w2.heap.size w2 w9) := ⟨hS0_, hS1_, hS2_⟩
      have HL1 : Aside0 (Sl kPair w9 C1 c1 l) := ⟨hHL1_⟩
      have HL2 : Aside0 (Sl kSpan w9 D1 d1 x.on) := ⟨hHL2_⟩
      have Bg9 : Aside0 (w9.heap[g9]? = some (.cells #[.slice none 0 0, .slice none 0 0, .int .i64 0, .int .i64 0, .bool false, .int .i64 0] 59 (0, 0))) := ⟨hBg9_⟩
      have hg9 : Aside0 (w2.heap.size ≤ g9) := ⟨hhg9_⟩
      clear hHL1_ hHL2_ hBg9_ hhg9_ hS0_ hS1_ hS2_
      refine norm_ (a' := ?_) ?_ ?_
      rotate_left
      · simp only [putAll, Act.put, List.setIfInBounds_toArray, List.set_cons_zero, List.set_cons_succ]
        rfl
      refine last_ (i := 6) (N := none) #[true, true, true, true, true, true, true] rfl rfl (by kernel_rfl) (by decide) (fun K hK => ?_)
      have q0 := blk_cell Bg9.out
      have q1 := blk_frozen Bg9.out
      have q2 := blk_lt Bg9.out
      refine skip_ (w1 := ?_) (by rfl) rfl ?_ ?_
      rotate_left
      · go_simp
        rfl
      refine hK.out _ _ ?_
      clear hK K
      refine done_ (by kernel_rfl) ?_

      have hG : (((((((w9.setCell ⟨g9, 0, none⟩ (.slice C3 (paOut l x).length c3)).setCell ⟨g9, 1, none⟩ (.slice (paA l x D1) (paNext l x).on.length (paD l x d1))).setCell ⟨g9, 2, none⟩ (.int .i64 (paNext l x).after)).setCell ⟨g9, 3, none⟩ (.int .i64 (paNext l x).limit)).setCell ⟨g9, 4, none⟩ (.bool (paMore l x))).setCell ⟨g9, 5, none⟩ (.int .i64 (paErr l x)))).heap[g9]? = some (.cells #[.slice C3 (paOut l x).length c3, .slice (paA l x D1) (paNext l x).on.length (paD l x d1), .int .i64 (paNext l x).after, .int .i64 (paNext l x).limit, .bool (paMore l x), .int .i64 (paErr l x)] 59 (0, 0)) := blk_set (blk_set (blk_set (blk_set (blk_set (blk_set Bg9.out 0 (.slice C3 (paOut l x).length c3)) 1 (.slice (paA l x D1) (paNext l x).on.length (paD l x d1))) 2 (.int .i64 (paNext l x).after)) 3 (.int .i64 (paNext l x).limit)) 4 (.bool (paMore l x))) 5 (.int .i64 (paErr l x))
      have hbw := hHeld.2.2
      have hgg : w2.heap.size ≤ g9 := hg9.out
      have hBB := Aside0.mk (show Below w2.heap.size w2 ((((((w9.setCell ⟨g9, 0, none⟩ (.slice C3 (paOut l x).length c3)).setCell ⟨g9, 1, none⟩ (.slice (paA l x D1) (paNext l x).on.length (paD l x d1))).setCell ⟨g9, 2, none⟩ (.int .i64 (paNext l x).after)).setCell ⟨g9, 3, none⟩ (.int .i64 (paNext l x).limit)).setCell ⟨g9, 4, none⟩ (.bool (paMore l x))).setCell ⟨g9, 5, none⟩ (.int .i64 (paErr l x))) from by
        repeat (with_reducible refine below_set ?_ hgg)
        exact hbw)
      clear q0 q1 q2
      generalize ((((((w9.setCell ⟨g9, 0, none⟩ (.slice C3 (paOut l x).length c3)).setCell ⟨g9, 1, none⟩ (.slice (paA l x D1) (paNext l x).on.length (paD l x d1))).setCell ⟨g9, 2, none⟩ (.int .i64 (paNext l x).after)).setCell ⟨g9, 3, none⟩ (.int .i64 (paNext l x).limit)).setCell ⟨g9, 4, none⟩ (.bool (paMore l x))).setCell ⟨g9, 5, none⟩ (.int .i64 (paErr l x))) = W5 at *
      have hG := Aside0.mk hG
      have z3 : W5.cell? ⟨g9, 5, none⟩ = some (.int .i64 (paErr l x)) := blk_cell hG.out 5
      rw [he.out] at z3
      have hHA := Aside0.mk (fun W (h : Below W5.heap.size W5 W) => (blk_cell (blk_keep h hG.out) 5).trans (show _ = some (Value.int .i64 1) by rw [← he.out]; rfl))
      go_wp2_with (go_at_call 25; with_reducible refine (HAw.out _).mono ?_; rintro e w4 ⟨rfl, hb⟩; have z4 := hHA.out _ hb; have HB4 := Aside0.mk (via (via hX9.out hBB.out) hb); clear hb)
      go_ret
      exact ⟨rfl, HB4.out⟩
    | false =>
      have HP := Aside0.mk (fun W (h : Below w.heap.size w W) => scan_All_good A B c d l x W (hr0.out.below h) (hs0.out.below h) (by omega) hb)
      have he := Aside0.mk (show paErr l x = 0 by simp [paErr, hb])
      have hcl := Aside0.mk (rpAll_clip hb)
      have hal : (rpAll l x).length ≤ 100 := Nat.le_trans (List.length_filter_le _ _) hl1
      have HCl := Aside0.mk (fun W (h : Below w.heap.size w W) => calls_own (table_Clip A B c d l x.on W (hr0.out.below h) (hs0.out.below h) (by omega)))
      have hcll : (clip l x.on).length ≤ 100 := by have := clip_length l x.on; omega
      have hlim : 1 ≤ x.limit := (pg_good hb).2.2
      clear hb
      go_enter Try.func9, Try.ntmps9
      go_wp2_with (first
        | (go_at_call 24; refine calls_box1 ?_; intro W0 hX hb0; have HX := Aside0.mk hX; have b0 := Aside0.mk hb0; clear hX hb0; have HQ := Aside0.mk (Below.refl W0.heap.size W0); refine (HFew.out _).mono ?_; rintro e w1 ⟨rfl, hb⟩; have hq := via HQ.out hb; clear HQ hb; have HQ := Aside0.mk hq; (try clear x0 x1 x2); obtain ⟨x0, x1, x2⟩ := box_later hq b0.out; clear hq)
        | (go_at_call 44; with_reducible refine (HP.out _ (via HX.out HQ.out)).mono ?_; rintro e w2 ⟨ps, C, c2, rfl, hs1, hs2, hp1, hp2, hp3, hp4, hb⟩; have HS2 := Aside0.mk hs1; have HQ2 := Aside0.mk hs2; have hrow := Aside0.mk hp1; have hpl := hp2; have hp3 := Aside0.mk hp3; have hp4 := Aside0.mk hp4; clear hs1 hs2 hp1 hp2; have hq := via HQ.out hb; clear HQ hb; have HQ := Aside0.mk hq; (try clear x0 x1 x2); obtain ⟨x0, x1, x2⟩ := box_later hq b0.out; clear hq))
      have hX9 := Aside0.mk (via HX.out HQ.out)
      have b9 := Aside0.mk (blk_keep HQ.out b0.out)
      clear x0 x1 x2 b0
      refine start_ (n := 7) (S := fun w' => w'.heap[w.heap.size]? = some (.cells #[.slice B x.on.length d, .int .i64 x.after, .int .i64 x.limit] 50 (0, 0)) ∧ (∀ i, w'.cell? ⟨w.heap.size, i, none⟩ = (#[.slice B x.on.length d, .int .i64 x.after, .int .i64 x.limit] : Array Value)[i]?) ∧ Below w2.heap.size w2 w') (ds := [6]) #[false, false, false, false, false, false, false] (by kernel_rfl) rfl rfl ⟨b9.out, (fun i => blk_cell b9.out i), below_drew (Below.refl _ _)⟩ (fun hHeld => ?_)
      refine pure_ (i := 0) (N := some 25) (v := ?_) (a' := ?_) #[true, false, false, false, false, false, false] rfl rfl (by kernel_rfl) (fun _ _ _ h => h) (Or.inl ⟨by rfl, ?_⟩) ?_ ?_
      rotate_left
      · intro w'
        go_simp
        with_reducible rfl
      rotate_left
      · simp only [Act.put, List.setIfInBounds_toArray, List.set_cons_zero, List.set_cons_succ, i64_w, i32_w]
        rfl
      refine take_ (i := 2) (N := some 27) (v := ?_) (a' := ?_) #[true, false, true, false, false, false, false] rfl rfl (by kernel_rfl) (fun _ _ _ h => h) (Or.inl ⟨by rfl, ?_⟩) hHeld ?_ ?_
      rotate_left
      · rintro w' ⟨s0, s1, s2⟩
        go_simp
        with_reducible rfl
      rotate_left
      · simp only [Act.put, List.setIfInBounds_toArray, List.set_cons_zero, List.set_cons_succ, i64_w, i32_w]
        rfl
      refine join_ (σ := (Option Addr) × (Nat) × (Option Addr) × (Nat) × (Option Addr) × (Nat) × (Nat)) 1 #[true, true, true, true, true, true, false] (fun s => [(26, .slice s.1 l.length s.2.1), (28, vCur s.2.2.1 s.2.2.2.1 x), (29, vPaged s.2.2.2.2.1 (paOut l x).length s.2.2.2.2.2.1 (paA l x s.2.2.1) (paNext l x).on.length (paD l x s.2.2.2.1) (paNext l x).after (paNext l x).limit (paMore l x) (paErr l x)), (7, .pointer (some ⟨s.2.2.2.2.2.2, 0, none⟩))]) (fun s w' => (w'.heap[w.heap.size]? = some (.cells #[.slice B x.on.length d, .int .i64 x.after, .int .i64 x.limit] 50 (0, 0))) ∧ ((∀ i, w'.cell? ⟨w.heap.size, i, none⟩ = (#[.slice B x.on.length d, .int .i64 x.after, .int .i64 x.limit] : Array Value)[i]?)) ∧ (Below w2.heap.size w2 w') ∧ (Sl kPair w' s.1 s.2.1 l) ∧ (Sl kSpan w' s.2.2.1 s.2.2.2.1 x.on) ∧ (w'.heap[s.2.2.2.2.2.2]? = some (.cells #[.slice none 0 0, .slice none 0 0, .int .i64 0, .int .i64 0, .bool false, .int .i64 0] 59 (0, 0))) ∧ (w2.heap.size ≤ s.2.2.2.2.2.2)) ?_ ?_
      rotate_left
      · intro hCont
        refine two_ (i := 1) (j := 5) (Ni := some 26) (Nj := some 7) #[true, true, true, false, false, false, false] #[true, false, true, false, false, true, false] rfl rfl rfl rfl (by kernel_rfl) (by decide) (by decide) (fun K hK => ?_) (fun K hK => ?_)
        · skip
          refine goes_ Try.func28 (by kernel_rfl) rfl #[.slice A l.length c] (by rfl) rfl rfl (by simp only [List.map_toArray, List.map_cons, List.map_nil]; rfl) ?_
          with_reducible refine (HR.out _ _ l _ hl1 (hr0.out.below (via hX9.out hHeld.2.2))).mono ?_
          rintro e w8 ⟨C1, c1, rfl, ho1, hs1, hb⟩
          refine ⟨_, rfl, ?_⟩
          have HL1 : Aside0 (Sl kPair w8 C1 c1 l) := ⟨hs1⟩
          refine hK.out _ _ ⟨blk_keep hb hHeld.1, (fun i => blk_cell (blk_keep hb hHeld.1) i), via hHeld.2.2 hb⟩ (fun hHeld => ?_)
          clear hK K
          refine norm_ (a' := ?_) ?_ ?_
          rotate_left
          · show Act.put _ (some 26) _ = _
            simp only [Act.put, List.setIfInBounds_toArray, List.set_cons_zero, List.set_cons_succ, i64_w, i32_w]
            rfl
          refine two_ (i := 3) (j := 5) (Ni := some 28) (Nj := some 7) #[true, true, true, true, false, false, false] #[true, true, true, false, false, true, false] rfl rfl rfl rfl (by kernel_rfl) (by decide) (by decide) (fun K hK => ?_) (fun K hK => ?_)
          · skip
            refine goes_ Try.func29 (by kernel_rfl) rfl #[vCur B d x] (by rfl) rfl rfl (by simp only [List.map_toArray, List.map_cons, List.map_nil]; rfl) ?_
            with_reducible refine (HC.out _ _ x _ hl2 (hs0.out.below (via hX9.out hHeld.2.2))).mono ?_
            rintro e w10 ⟨D1, d1, rfl, ho2, hb⟩
            refine ⟨_, rfl, ?_⟩
            have HL1 := Aside0.mk (HL1.out.below hb)
            have HL2 : Aside0 (Sl kSpan w10 D1 d1 x.on) := ⟨ho2.sl2⟩
            refine hK.out _ _ ⟨blk_keep hb hHeld.1, (fun i => blk_cell (blk_keep hb hHeld.1) i), via hHeld.2.2 hb⟩ (fun hHeld => ?_)
            clear hK K
            refine norm_ (a' := ?_) ?_ ?_
            rotate_left
            · show Act.put _ (some 28) _ = _
              simp only [Act.put, List.setIfInBounds_toArray, List.set_cons_zero, List.set_cons_succ, i64_w, i32_w]
              rfl
            refine two_ (i := 4) (j := 5) (Ni := some 29) (Nj := some 7) #[true, true, true, true, true, false, false] #[true, true, true, true, false, true, false] rfl rfl rfl rfl (by kernel_rfl) (by decide) (by decide) (fun K hK => ?_) (fun K hK => ?_)
            · skip
              refine goes_ Try.func27 (by kernel_rfl) rfl #[.slice C1 l.length c1, vCur D1 d1 x] (by rfl) rfl rfl (by simp only [List.map_toArray, List.map_cons, List.map_nil]; rfl) ?_
              with_reducible refine (HRP.out _ _ _ _ _ HL1.out HL2.out).mono ?_
              rintro e w11 ⟨C3, c3, rfl, ho3, hb⟩
              refine ⟨_, rfl, ?_⟩
              have HL1 := Aside0.mk (HL1.out.below hb)
              have HL2 := Aside0.mk (HL2.out.below hb)
              refine hK.out _ _ ⟨blk_keep hb hHeld.1, (fun i => blk_cell (blk_keep hb hHeld.1) i), via hHeld.2.2 hb⟩ (fun hHeld => ?_)
              clear hK K
              refine norm_ (a' := ?_) ?_ ?_
              rotate_left
              · show Act.put _ (some 29) _ = _
                simp only [Act.put, List.setIfInBounds_toArray, List.set_cons_zero, List.set_cons_succ, i64_w, i32_w]
                rfl
              refine one_ (i := 5) (N := some 7) #[true, true, true, true, true, true, false] rfl rfl (by kernel_rfl) (by decide) (fun K hK => ?_)
              have hga_ := Aside0.mk (box_top w11 (.cells #[.slice none 0 0, .slice none 0 0, .int .i64 0, .int .i64 0, .bool false, .int .i64 0] 59))
              refine value_ (w1 := ?_) (v := ?_) (by rfl) rfl ?_ ?_
              rotate_left 2
              · go_simp
                constructor
                · rfl
                · rfl
              have HL1 := Aside0.mk (HL1.out.below (below_alloc (Below.refl _ _) (.cells #[.slice none 0 0, .slice none 0 0, .int .i64 0, .int .i64 0, .bool false, .int .i64 0] 59)))
              have HL2 := Aside0.mk (HL2.out.below (below_alloc (Below.refl _ _) (.cells #[.slice none 0 0, .slice none 0 0, .int .i64 0, .int .i64 0, .bool false, .int .i64 0] 59)))
              have Bg9 := hga_
              have hg9 : Aside0 (w2.heap.size ≤ w11.heap.size) := ⟨hHeld.2.2.size⟩
              refine hK.out _ _ ⟨blk_keep (below_alloc (Below.refl _ _) (.cells #[.slice none 0 0, .slice none 0 0, .int .i64 0, .int .i64 0, .bool false, .int .i64 0] 59)) hHeld.1, (fun i => blk_cell (blk_keep (below_alloc (Below.refl _ _) (.cells #[.slice none 0 0, .slice none 0 0, .int .i64 0, .int .i64 0, .bool false, .int .i64 0] 59)) hHeld.1) i), via hHeld.2.2 (below_alloc (Below.refl _ _) (.cells #[.slice none 0 0, .slice none 0 0, .int .i64 0, .int .i64 0, .bool false, .int .i64 0] 59))⟩ (fun hHeld => ?_)
              clear hK K
              refine norm_ (a' := ?_) ?_ ?_
              rotate_left
              · show Act.put _ (some 7) _ = _
                simp only [Act.put, List.setIfInBounds_toArray, List.set_cons_zero, List.set_cons_succ, i64_w, i32_w]
                rfl
              exact norm_ (by simp only [putAll, Act.put, List.setIfInBounds_toArray, List.set_cons_zero, List.set_cons_succ]) (hCont (C1, c1, D1, d1, C3, c3, (w11.heap.size)) _ ⟨(hHeld.1), (hHeld.2.1), (hHeld.2.2), HL1.out, HL2.out, Bg9.out, hg9.out⟩)
            · skip
              have hga_ := Aside0.mk (box_top w10 (.cells #[.slice none 0 0, .slice none 0 0, .int .i64 0, .int .i64 0, .bool false, .int .i64 0] 59))
              refine value_ (w1 := ?_) (v := ?_) (by rfl) rfl ?_ ?_
              rotate_left 2
              · go_simp
                constructor
                · rfl
                · rfl
              have HL1 := Aside0.mk (HL1.out.below (below_alloc (Below.refl _ _) (.cells #[.slice none 0 0, .slice none 0 0, .int .i64 0, .int .i64 0, .bool false, .int .i64 0] 59)))
              have HL2 := Aside0.mk (HL2.out.below (below_alloc (Below.refl _ _) (.cells #[.slice none 0 0, .slice none 0 0, .int .i64 0, .int .i64 0, .bool false, .int .i64 0] 59)))
              have Bg9 := hga_
              have hg9 : Aside0 (w2.heap.size ≤ w10.heap.size) := ⟨hHeld.2.2.size⟩
              refine hK.out _ _ ⟨blk_keep (below_alloc (Below.refl _ _) (.cells #[.slice none 0 0, .slice none 0 0, .int .i64 0, .int .i64 0, .bool false, .int .i64 0] 59)) hHeld.1, (fun i => blk_cell (blk_keep (below_alloc (Below.refl _ _) (.cells #[.slice none 0 0, .slice none 0 0, .int .i64 0, .int .i64 0, .bool false, .int .i64 0] 59)) hHeld.1) i), via hHeld.2.2 (below_alloc (Below.refl _ _) (.cells #[.slice none 0 0, .slice none 0 0, .int .i64 0, .int .i64 0, .bool false, .int .i64 0] 59))⟩ (fun hHeld => ?_)
              clear hK K
              refine norm_ (a' := ?_) ?_ ?_
              rotate_left
              · show Act.put _ (some 7) _ = _
                simp only [Act.put, List.setIfInBounds_toArray, List.set_cons_zero, List.set_cons_succ, i64_w, i32_w]
                rfl
              refine one_ (i := 4) (N := some 29) #[true, true, true, true, true, true, false] rfl rfl (by kernel_rfl) (by decide) (fun K hK => ?_)
              refine goes_ Try.func27 (by kernel_rfl) rfl #[.slice C1 l.length c1, vCur D1 d1 x] (by rfl) rfl rfl (by simp only [List.map_toArray, List.map_cons, List.map_nil]; rfl) ?_
              with_reducible refine (HRP.out _ _ _ _ _ HL1.out HL2.out).mono ?_
              rintro e w11 ⟨C3, c3, rfl, ho3, hb⟩
              refine ⟨_, rfl, ?_⟩
              have HL1 := Aside0.mk (HL1.out.below hb)
              have HL2 := Aside0.mk (HL2.out.below hb)
              have Bg9 := Aside0.mk (blk_keep hb Bg9.out)
              refine hK.out _ _ ⟨blk_keep hb hHeld.1, (fun i => blk_cell (blk_keep hb hHeld.1) i), via hHeld.2.2 hb⟩ (fun hHeld => ?_)
              clear hK K
              refine norm_ (a' := ?_) ?_ ?_
              rotate_left
              · show Act.put _ (some 29) _ = _
                simp only [Act.put, List.setIfInBounds_toArray, List.set_cons_zero, List.set_cons_succ, i64_w, i32_w]
                rfl
              exact norm_ (by simp only [putAll, Act.put, List.setIfInBounds_toArray, List.set_cons_zero, List.set_cons_succ]) (hCont (C1, c1, D1, d1, C3, c3, (w10.heap.size)) _ ⟨(hHeld.1), (hHeld.2.1), (hHeld.2.2), HL1.out, HL2.out, Bg9.out, hg9.out⟩)
          · skip
            have hga_ := Aside0.mk (box_top w8 (.cells #[.slice none 0 0, .slice none 0 0, .int .i64 0, .int .i64 0, .bool false, .int .i64 0] 59))
            refine value_ (w1 := ?_) (v := ?_) (by rfl) rfl ?_ ?_
            rotate_left 2
            · go_simp
              constructor
              · rfl
              · rfl
            have HL1 := Aside0.mk (HL1.out.below (below_alloc (Below.refl _ _) (.cells #[.slice none 0 0, .slice none 0 0, .int .i64 0, .int .i64 0, .bool false, .int .i64 0] 59)))
            have Bg9 := hga_
            have hg9 : Aside0 (w2.heap.size ≤ w8.heap.size) := ⟨hHeld.2.2.size⟩
            refine hK.out _ _ ⟨blk_keep (below_alloc (Below.refl _ _) (.cells #[.slice none 0 0, .slice none 0 0, .int .i64 0, .int .i64 0, .bool false, .int .i64 0] 59)) hHeld.1, (fun i => blk_cell (blk_keep (below_alloc (Below.refl _ _) (.cells #[.slice none 0 0, .slice none 0 0, .int .i64 0, .int .i64 0, .bool false, .int .i64 0] 59)) hHeld.1) i), via hHeld.2.2 (below_alloc (Below.refl _ _) (.cells #[.slice none 0 0, .slice none 0 0, .int .i64 0, .int .i64 0, .bool false, .int .i64 0] 59))⟩ (fun hHeld => ?_)
            clear hK K
            refine norm_ (a' := ?_) ?_ ?_
            rotate_left
            · show Act.put _ (some 7) _ = _
              simp only [Act.put, List.setIfInBounds_toArray, List.set_cons_zero, List.set_cons_succ, i64_w, i32_w]
              rfl
            refine one_ (i := 3) (N := some 28) #[true, true, true, true, false, true, false] rfl rfl (by kernel_rfl) (by decide) (fun K hK => ?_)
            refine goes_ Try.func29 (by kernel_rfl) rfl #[vCur B d x] (by rfl) rfl rfl (by simp only [List.map_toArray, List.map_cons, List.map_nil]; rfl) ?_
            with_reducible refine (HC.out _ _ x _ hl2 (hs0.out.below (via hX9.out hHeld.2.2))).mono ?_
            rintro e w10 ⟨D1, d1, rfl, ho2, hb⟩
            refine ⟨_, rfl, ?_⟩
            have HL1 := Aside0.mk (HL1.out.below hb)
            have Bg9 := Aside0.mk (blk_keep hb Bg9.out)
            have HL2 : Aside0 (Sl kSpan w10 D1 d1 x.on) := ⟨ho2.sl2⟩
            refine hK.out _ _ ⟨blk_keep hb hHeld.1, (fun i => blk_cell (blk_keep hb hHeld.1) i), via hHeld.2.2 hb⟩ (fun hHeld => ?_)
            clear hK K
            refine norm_ (a' := ?_) ?_ ?_
            rotate_left
            · show Act.put _ (some 28) _ = _
              simp only [Act.put, List.setIfInBounds_toArray, List.set_cons_zero, List.set_cons_succ, i64_w, i32_w]
              rfl
            refine one_ (i := 4) (N := some 29) #[true, true, true, true, true, true, false] rfl rfl (by kernel_rfl) (by decide) (fun K hK => ?_)
            refine goes_ Try.func27 (by kernel_rfl) rfl #[.slice C1 l.length c1, vCur D1 d1 x] (by rfl) rfl rfl (by simp only [List.map_toArray, List.map_cons, List.map_nil]; rfl) ?_
            with_reducible refine (HRP.out _ _ _ _ _ HL1.out HL2.out).mono ?_
            rintro e w11 ⟨C3, c3, rfl, ho3, hb⟩
            refine ⟨_, rfl, ?_⟩
            have HL1 := Aside0.mk (HL1.out.below hb)
            have Bg9 := Aside0.mk (blk_keep hb Bg9.out)
            have HL2 := Aside0.mk (HL2.out.below hb)
            refine hK.out _ _ ⟨blk_keep hb hHeld.1, (fun i => blk_cell (blk_keep hb hHeld.1) i), via hHeld.2.2 hb⟩ (fun hHeld => ?_)
            clear hK K
            refine norm_ (a' := ?_) ?_ ?_
            rotate_left
            · show Act.put _ (some 29) _ = _
              simp only [Act.put, List.setIfInBounds_toArray, List.set_cons_zero, List.set_cons_succ, i64_w, i32_w]
              rfl
            exact norm_ (by simp only [putAll, Act.put, List.setIfInBounds_toArray, List.set_cons_zero, List.set_cons_succ]) (hCont (C1, c1, D1, d1, C3, c3, (w8.heap.size)) _ ⟨(hHeld.1), (hHeld.2.1), (hHeld.2.2), HL1.out, HL2.out, Bg9.out, hg9.out⟩)
        · skip
          have hga_ := Aside0.mk (box_top w2.drew (.cells #[.slice none 0 0, .slice none 0 0, .int .i64 0, .int .i64 0, .bool false, .int .i64 0] 59))
          refine value_ (w1 := ?_) (v := ?_) (by rfl) rfl ?_ ?_
          rotate_left 2
          · go_simp
            constructor
            · rfl
            · rfl
          have Bg9 := hga_
          have hg9 : Aside0 (w2.heap.size ≤ w2.heap.size) := ⟨hHeld.2.2.size⟩
          refine hK.out _ _ ⟨blk_keep (below_alloc (Below.refl _ _) (.cells #[.slice none 0 0, .slice none 0 0, .int .i64 0, .int .i64 0, .bool false, .int .i64 0] 59)) hHeld.1, (fun i => blk_cell (blk_keep (below_alloc (Below.refl _ _) (.cells #[.slice none 0 0, .slice none 0 0, .int .i64 0, .int .i64 0, .bool false, .int .i64 0] 59)) hHeld.1) i), via hHeld.2.2 (below_alloc (Below.refl _ _) (.cells #[.slice none 0 0, .slice none 0 0, .int .i64 0, .int .i64 0, .bool false, .int .i64 0] 59))⟩ (fun hHeld => ?_)
          clear hK K
          refine norm_ (a' := ?_) ?_ ?_
          rotate_left
          · show Act.put _ (some 7) _ = _
            simp only [Act.put, List.setIfInBounds_toArray, List.set_cons_zero, List.set_cons_succ, i64_w, i32_w]
            rfl
          refine one_ (i := 1) (N := some 26) #[true, true, true, false, false, true, false] rfl rfl (by kernel_rfl) (by decide) (fun K hK => ?_)
          refine goes_ Try.func28 (by kernel_rfl) rfl #[.slice A l.length c] (by rfl) rfl rfl (by simp only [List.map_toArray, List.map_cons, List.map_nil]; rfl) ?_
          with_reducible refine (HR.out _ _ l _ hl1 (hr0.out.below (via hX9.out hHeld.2.2))).mono ?_
          rintro e w8 ⟨C1, c1, rfl, ho1, hs1, hb⟩
          refine ⟨_, rfl, ?_⟩
          have Bg9 := Aside0.mk (blk_keep hb Bg9.out)
          have HL1 : Aside0 (Sl kPair w8 C1 c1 l) := ⟨hs1⟩
          refine hK.out _ _ ⟨blk_keep hb hHeld.1, (fun i => blk_cell (blk_keep hb hHeld.1) i), via hHeld.2.2 hb⟩ (fun hHeld => ?_)
          clear hK K
          refine norm_ (a' := ?_) ?_ ?_
          rotate_left
          · show Act.put _ (some 26) _ = _
            simp only [Act.put, List.setIfInBounds_toArray, List.set_cons_zero, List.set_cons_succ, i64_w, i32_w]
            rfl
          refine one_ (i := 3) (N := some 28) #[true, true, true, true, false, true, false] rfl rfl (by kernel_rfl) (by decide) (fun K hK => ?_)
          refine goes_ Try.func29 (by kernel_rfl) rfl #[vCur B d x] (by rfl) rfl rfl (by simp only [List.map_toArray, List.map_cons, List.map_nil]; rfl) ?_
          with_reducible refine (HC.out _ _ x _ hl2 (hs0.out.below (via hX9.out hHeld.2.2))).mono ?_
          rintro e w10 ⟨D1, d1, rfl, ho2, hb⟩
          refine ⟨_, rfl, ?_⟩
          have Bg9 := Aside0.mk (blk_keep hb Bg9.out)
          have HL1 := Aside0.mk (HL1.out.below hb)
          have HL2 : Aside0 (Sl kSpan w10 D1 d1 x.on) := ⟨ho2.sl2⟩
          refine hK.out _ _ ⟨blk_keep hb hHeld.1, (fun i => blk_cell (blk_keep hb hHeld.1) i), via hHeld.2.2 hb⟩ (fun hHeld => ?_)
          clear hK K
          refine norm_ (a' := ?_) ?_ ?_
          rotate_left
          · show Act.put _ (some 28) _ = _
            simp only [Act.put, List.setIfInBounds_toArray, List.set_cons_zero, List.set_cons_succ, i64_w, i32_w]
            rfl
          refine one_ (i := 4) (N := some 29) #[true, true, true, true, true, true, false] rfl rfl (by kernel_rfl) (by decide) (fun K hK => ?_)
          refine goes_ Try.func27 (by kernel_rfl) rfl #[.slice C1 l.length c1, vCur D1 d1 x] (by rfl) rfl rfl (by simp only [List.map_toArray, List.map_cons, List.map_nil]; rfl) ?_
          with_reducible refine (HRP.out _ _ _ _ _ HL1.out HL2.out).mono ?_
          rintro e w11 ⟨C3, c3, rfl, ho3, hb⟩
          refine ⟨_, rfl, ?_⟩
          have Bg9 := Aside0.mk (blk_keep hb Bg9.out)
          have HL1 := Aside0.mk (HL1.out.below hb)
          have HL2 := Aside0.mk (HL2.out.below hb)
          refine hK.out _ _ ⟨blk_keep hb hHeld.1, (fun i => blk_cell (blk_keep hb hHeld.1) i), via hHeld.2.2 hb⟩ (fun hHeld => ?_)
          clear hK K
          refine norm_ (a' := ?_) ?_ ?_
          rotate_left
          · show Act.put _ (some 29) _ = _
            simp only [Act.put, List.setIfInBounds_toArray, List.set_cons_zero, List.set_cons_succ, i64_w, i32_w]
            rfl
          exact norm_ (by simp only [putAll, Act.put, List.setIfInBounds_toArray, List.set_cons_zero, List.set_cons_succ]) (hCont (C1, c1, D1, d1, C3, c3, (w2.heap.size)) _ ⟨(hHeld.1), (hHeld.2.1), (hHeld.2.2), HL1.out, HL2.out, Bg9.out, hg9.out⟩)
      rintro ⟨C1, c1, D1, d1, C3, c3, g9⟩ w9 ⟨hS0_, hS1_, hS2_, hHL1_, hHL2_, hBg9_, hhg9_⟩
      have hHeld : (w9.heap[w.heap.size]? = some (.cells #[.slice B x.on.length d, .int .i64 x.after, .int .i64 x.limit] 50 (0, 0))) ∧ ((∀ i, w9.cell? ⟨w.heap.size, i, none⟩ = (#[.slice B x.on.length d, .int .i64 x.after, .int .i64 x.limit] : Array Value)[i]?)) ∧ (Below w2.heap.size w2 w9) := ⟨hS0_, hS1_, hS2_⟩
      have HL1 : Aside0 (Sl kPair w9 C1 c1 l) := ⟨hHL1_⟩
      have HL2 : Aside0 (Sl kSpan w9 D1 d1 x.on) := ⟨hHL2_⟩
      have Bg9 : Aside0 (w9.heap[g9]? = some (.cells #[.slice none 0 0, .slice none 0 0, .int .i64 0, .int .i64 0, .bool false, .int .i64 0] 59 (0, 0))) := ⟨hBg9_⟩
      have hg9 : Aside0 (w2.heap.size ≤ g9) := ⟨hhg9_⟩
      clear hHL1_ hHL2_ hBg9_ hhg9_ hS0_ hS1_ hS2_
      refine norm_ (a' := ?_) ?_ ?_
      rotate_left
      · simp only [putAll, Act.put, List.setIfInBounds_toArray, List.set_cons_zero, List.set_cons_succ]
        rfl
      refine last_ (i := 6) (N := none) #[true, true, true, true, true, true, true] rfl rfl (by kernel_rfl) (by decide) (fun K hK => ?_)
      have q0 := blk_cell Bg9.out
      have q1 := blk_frozen Bg9.out
      have q2 := blk_lt Bg9.out
      refine skip_ (w1 := ?_) (by rfl) rfl ?_ ?_
      rotate_left
      · go_simp
        rfl
      refine hK.out _ _ ?_
      clear hK K
      refine done_ (by kernel_rfl) ?_

      have hG : (((((((w9.setCell ⟨g9, 0, none⟩ (.slice C3 (paOut l x).length c3)).setCell ⟨g9, 1, none⟩ (.slice (paA l x D1) (paNext l x).on.length (paD l x d1))).setCell ⟨g9, 2, none⟩ (.int .i64 (paNext l x).after)).setCell ⟨g9, 3, none⟩ (.int .i64 (paNext l x).limit)).setCell ⟨g9, 4, none⟩ (.bool (paMore l x))).setCell ⟨g9, 5, none⟩ (.int .i64 (paErr l x)))).heap[g9]? = some (.cells #[.slice C3 (paOut l x).length c3, .slice (paA l x D1) (paNext l x).on.length (paD l x d1), .int .i64 (paNext l x).after, .int .i64 (paNext l x).limit, .bool (paMore l x), .int .i64 (paErr l x)] 59 (0, 0)) := blk_set (blk_set (blk_set (blk_set (blk_set (blk_set Bg9.out 0 (.slice C3 (paOut l x).length c3)) 1 (.slice (paA l x D1) (paNext l x).on.length (paD l x d1))) 2 (.int .i64 (paNext l x).after)) 3 (.int .i64 (paNext l x).limit)) 4 (.bool (paMore l x))) 5 (.int .i64 (paErr l x))
      have hbw := hHeld.2.2
      have hgg : w2.heap.size ≤ g9 := hg9.out
      have hBB := Aside0.mk (show Below w2.heap.size w2 ((((((w9.setCell ⟨g9, 0, none⟩ (.slice C3 (paOut l x).length c3)).setCell ⟨g9, 1, none⟩ (.slice (paA l x D1) (paNext l x).on.length (paD l x d1))).setCell ⟨g9, 2, none⟩ (.int .i64 (paNext l x).after)).setCell ⟨g9, 3, none⟩ (.int .i64 (paNext l x).limit)).setCell ⟨g9, 4, none⟩ (.bool (paMore l x))).setCell ⟨g9, 5, none⟩ (.int .i64 (paErr l x))) from by
        repeat (with_reducible refine below_set ?_ hgg)
        exact hbw)
      clear q0 q1 q2
      generalize ((((((w9.setCell ⟨g9, 0, none⟩ (.slice C3 (paOut l x).length c3)).setCell ⟨g9, 1, none⟩ (.slice (paA l x D1) (paNext l x).on.length (paD l x d1))).setCell ⟨g9, 2, none⟩ (.int .i64 (paNext l x).after)).setCell ⟨g9, 3, none⟩ (.int .i64 (paNext l x).limit)).setCell ⟨g9, 4, none⟩ (.bool (paMore l x))).setCell ⟨g9, 5, none⟩ (.int .i64 (paErr l x))) = W5 at *
      have hG := Aside0.mk hG
      have z3 : W5.cell? ⟨g9, 5, none⟩ = some (.int .i64 (paErr l x)) := blk_cell hG.out 5
      rw [he.out] at z3
      have hb5 := Aside0.mk (blk_keep hBB.out b9.out)
      have HS5 := Aside0.mk (HS2.out.below hBB.out)
      have HQ5 : Aside0 (∀ q ∈ ps, Sl kPair W5 q.1 q.2.1 q.2.2) := ⟨fun q hq => (HQ2.out q hq).below hBB.out⟩
      have HB5 := Aside0.mk (via hX9.out hBB.out)
      clear hHeld HL1 HL2 Bg9 hg9 hbw hgg HP HRP
      go_wp2
      have hrl : ∀ k, (rowsOf (ps.take k)).length ≤ 100 := fun k => by
        have h1 := rowsOf_le ps k
        rw [hrow.out] at h1
        omega
      have hrl := Aside0.mk hrl
      have hplm := HS5.out.max
      go_loopw [8, 9] (fun v i wr => ∃ k : Nat, k ≤ ps.length ∧ i = .int .i64 k ∧ Aside0 (Own kPair 84 wr W5.heap.size v (rowsOf (ps.take k))) ∧ Aside0 (Below W5.heap.size W5 wr)) (fun _ i _ => ps.length - (intOf i).toNat)
      case atStart => exact ⟨0, by omega, rfl, ⟨Own.nil _ _ _ _⟩, ⟨Below.refl _ _⟩⟩
      case round =>
        obtain ⟨k, hk, rfl, hO, hB⟩ := hrel
        by_cases hlt : k < ps.length
        · obtain ⟨ad, rfl, c0⟩ := pg_at (HS5.out.below hB.out) k hlt
          have x0 := blk_cell (blk_keep hB.out hb5.out)
          have hq := Aside0.mk ((HQ5.out ps[k] (List.getElem_mem _)).below hB.out)
          have hql := hp4.out ps[k] (List.getElem_mem _)
          have hqm := hq.out.max
          have hrk := hrl.out k
          have hst := Aside0.mk (show rowsOf (ps.take (k + 1)) = rowsOf (ps.take k) ++ ps[k].2.2 from rowsOf_succ ps k hlt)
          have hrk2 : (rowsOf (ps.take k)).length + ps[k].2.2.length ≤ 100 := by have h := hrl.out (k + 1); rw [hst.out, List.length_append] at h; exact h
          have w1_ : IntKind.i64.wrap ((k : Int) + 1) = (k : Int) + 1 := IntWalk.i64_in _ (by omega)
          have t3 : decide (x.limit < (ps[k].2.2.length : Int)) = false := decide_eq_false (by omega)
          by_cases hk1 : k + 1 < ps.length
          · have t1 : decide ((k : Int) + 1 < (ps.length : Int)) = true := decide_eq_true (by omega)
            have hqe2 := hp3.out k hk1
            generalize ps[k] = q at *
            obtain ⟨qa, qc, ql⟩ := q
            dsimp only at *
            have t2 : ((ql.length : Int) != x.limit) = false := by simp; omega
            clear hqe2 hql
            go_wp2
            go_quiet (fail)
            go_wp2_with (at_builtin; go_must (refine own_append_rows (w0 := W5) W5.heap.size rfl (.tmp 76) (.tmp 80) 47 84 (.agg #[.int .i64 0, .int .i64 0]) 16 rfl Try.underlying47 info84 rfl (by decide) (by omega) u8 (rowsOf (ps.take k)) ql qa qc rfl rfl (hO.out.below (pw_below_drewN (Below.refl _ _) nq)) (hq.out.below (pw_below_drewN (Below.refl _ _) nq)) (pw_below_drewN hB.out nq) (hB.out.size) (by omega) ?_); intro v1 w7 ho hb hs; have HO7 := Aside0.mk ho; have HB7 := Aside0.mk hb; clear ho hb hs)
            go_roundw
            case rel => exact ⟨k + 1, by omega, by go_num, ⟨by rw [hst.out]; exact HO7.out⟩, HB7⟩
            case measure => simp [intOf]; omega
          · have t1 : decide ((k : Int) + 1 < (ps.length : Int)) = false := decide_eq_false (by omega)
            generalize ps[k] = q at *
            obtain ⟨qa, qc, ql⟩ := q
            dsimp only at *
            clear hql
            go_wp2
            go_quiet (fail)
            go_wp2_with (at_builtin; go_must (refine own_append_rows (w0 := W5) W5.heap.size rfl (.tmp 76) (.tmp 80) 47 84 (.agg #[.int .i64 0, .int .i64 0]) 16 rfl Try.underlying47 info84 rfl (by decide) (by omega) u8 (rowsOf (ps.take k)) ql qa qc rfl rfl (hO.out.below (pw_below_drewN (Below.refl _ _) nq)) (hq.out.below (pw_below_drewN (Below.refl _ _) nq)) (pw_below_drewN hB.out nq) (hB.out.size) (by omega) ?_); intro v1 w7 ho hb hs; have HO7 := Aside0.mk ho; have HB7 := Aside0.mk hb; clear ho hb hs)
            go_roundw
            case rel => exact ⟨k + 1, by omega, by go_num, ⟨by rw [hst.out]; exact HO7.out⟩, HB7⟩
            case measure => simp [intOf]; omega
        · obtain rfl : k = ps.length := by omega
          rw [List.take_length, hrow.out] at hO
          obtain ⟨CA, ca, rfl, hsA⟩ := hO.out.sl
          have hsA := Aside0.mk hsA
          have x0 := blk_cell (blk_keep hB.out hb5.out)
          have hX6 := Aside0.mk (via HB5.out hB.out)
          have hb6 := Aside0.mk (blk_keep hB.out hb5.out)
          obtain ⟨wo, rfl⟩ : ∃ wo : World, wo = wr := ⟨_, rfl⟩
          clear hrl hp3 hp4 HQ5 HS5 hO
          generalize clip l x.on = m at *
          go_wp2_with (go_at_call 45; with_reducible refine (HCl.out _ hX6.out).mono ?_; rintro e w7 ⟨CM, cm, rfl, ho, hs, hb⟩; have HM := Aside0.mk hs; have hX7 := Aside0.mk (via hX6.out hb); have hb7 := Aside0.mk (blk_keep hb hb6.out); have hsA7 := Aside0.mk (hsA.out.below hb); clear ho hs hb)
          go_loopw [10, 12] (fun v i wr => ∃ k : Nat, k ≤ m.length ∧ i = .int .i64 k ∧ Aside0 (Own kPair 84 wr w7.heap.size v ((m.take k).filter fun p => decide (x.after < p.key))) ∧ Aside0 (Below w7.heap.size w7 wr)) (fun _ i _ => m.length - (intOf i).toNat)
          case atStart => exact ⟨0, by omega, rfl, ⟨Own.nil _ _ _ _⟩, ⟨Below.refl _ _⟩⟩
          case round =>
            obtain ⟨k, hk, rfl, hO, hB⟩ := hrel
            clear x0
            by_cases hlt : k < m.length
            · obtain ⟨ad, rfl, c0, c1_⟩ := pair_at (HM.out.below hB.out) k hlt
              have x0 := blk_cell (blk_keep hB.out hb7.out)
              have hfl := filter_take_length m (fun p => decide (x.after < p.key)) k
              have hst := Aside0.mk (fun b e => filter_step (q := fun p => decide (x.after < p.key)) hlt b e)
              by_cases hk1 : x.after < m[k].key
              · have t1 : decide (x.after < m[k].key) = true := decide_eq_true hk1
                have hs1 := Aside0.mk (hst.out true t1)
                rw [if_pos rfl] at hs1
                clear hst hk1
                go_wp2
                go_quiet (fail)
                have HO6 := Aside0.mk (hO.out.below (pw_below_drewN (Below.refl _ _) nq))
                have HB6 := Aside0.mk (pw_below_drewN hB.out nq)
                go_wp2_with (at_builtin; go_must (refine own_append (w0 := w7) w7.heap.size rfl (.tmp 100) (.tmp 105) 47 84 (.agg #[.int .i64 0, .int .i64 0]) 16 rfl Try.underlying47 info84 rfl (by decide) (by omega) u10 ((m.take k).filter fun p : Pair => decide (x.after < p.key)) m[k] rfl rfl HO6.out HB6.out HB6.out.size (by omega) ?_); intro v1 w8 ho hb hs; have HO7 := Aside0.mk ho; have HB7 := Aside0.mk hb; clear ho hb hs)
                go_roundw
                case rel => exact ⟨k + 1, by omega, by go_num, ⟨by rw [hs1.out]; exact HO7.out⟩, HB7⟩
                case measure => simp [intOf]; omega
              · have t1 : decide (x.after < m[k].key) = false := decide_eq_false hk1
                have hs1 := Aside0.mk (hst.out false t1)
                rw [if_neg (by simp)] at hs1
                clear hst hk1
                go_wp2
                go_quiet (fail)
                go_wp2
                go_roundw
                case rel => exact ⟨k + 1, by omega, by go_num, ⟨by rw [hs1.out]; exact hO.out.below (pw_below_drewN (Below.refl _ _) nq)⟩, ⟨pw_below_drewN hB.out nq⟩⟩
                case measure => simp [intOf]; omega
            · obtain rfl : k = m.length := by omega
              rw [List.take_length, ← hcl.out] at hO
              generalize rpAll l x = al at *
              obtain ⟨CB, cb, rfl, hsB⟩ := hO.out.sl
              have hsB := Aside0.mk hsB
              have hsA8 := Aside0.mk (hsA7.out.below hB.out)
              have hX8 := Aside0.mk (via hX7.out hB.out)
              have hpl1 : decide (1 ≤ ps.length) = true := decide_eq_true hpl
              have HSm := Aside0.mk (fun C c' D d' W (h1 : Sl kPair W C c' al) (h2 : Sl kPair W D d' al) => ref05_Same C D c' d' al al W h1 h2)
              simp only [decide_true] at HSm
              clear hO
              go_wp2_with (first
                | (go_at_call 25; with_reducible refine (HAw.out _).mono ?_; rintro e w10 ⟨rfl, hb⟩; have hA10 := Aside0.mk (hsA8.out.below hb); have hB10 := Aside0.mk (hsB.out.below hb); have hX10 := Aside0.mk (via hX8.out hb); clear hb)
                | (go_at_call 28; with_reducible refine (HR.out _ _ al _ hal hA10.out).mono ?_; rintro e w11 ⟨C11, c11, rfl, ho, hs, hb⟩; have hS11 := Aside0.mk hs; have hB11 := Aside0.mk (hB10.out.below hb); have hX11 := Aside0.mk (via hX10.out hb); clear ho hs hb hA10)
                | (go_at_call 28; with_reducible refine (HR.out _ _ al _ hal hB11.out).mono ?_; rintro e w12 ⟨C12, c12, rfl, ho, hs, hb⟩; have hS12 := Aside0.mk hs; have hS13 := Aside0.mk (hS11.out.below hb); have hX12 := Aside0.mk (via hX11.out hb); clear ho hs hb)
                | (go_at_call 30; with_reducible refine (HSm.out _ _ _ _ _ hS13.out hS12.out).mono ?_; rintro e w13 ⟨rfl, hb⟩; have hX13 := Aside0.mk (via hX12.out hb); clear hb))
              go_ret
              exact ⟨rfl, hX13.out⟩

end Go.Proofs.Ytoeipkjpgbdioaa
