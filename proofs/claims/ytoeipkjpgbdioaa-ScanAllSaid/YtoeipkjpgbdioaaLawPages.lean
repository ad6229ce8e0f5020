/- The law ScanPages: what it answers. -/
import Derived.Test.YtoeipkjpgbdioaaRefPage
import Derived.Test.YtoeipkjpgbdioaaAwake
set_option linter.unusedVariables false
set_option linter.unusedSimpArgs false
namespace Go.Proofs.Ytoeipkjpgbdioaa
open Go.RowKit Go.Shelf Go.Proofs.YtoeipkjpgbdioaaW.PrintWords Go.Proofs.YtoeipkjpgbdioaaW.PrintLast

theorem drop_count (t : Int) : ∀ {l : List Pair}, l.Pairwise (fun p q => p.key < q.key) → l.drop (l.countP fun p => decide (p.key < t)) = l.filter fun p => decide (t ≤ p.key)
  | [], _ => rfl
  | a :: l, hp => by
    rw [List.pairwise_cons] at hp
    by_cases h : a.key < t
    · rw [List.countP_cons_of_pos (by simpa using h), List.drop_succ_cons, drop_count t hp.2, List.filter_cons_of_neg (by simp; omega)]
    · have h0 : l.countP (fun p => decide (p.key < t)) = 0 := by
        rw [List.countP_eq_zero]
        intro p hpl
        have := hp.1 p hpl
        simp; omega
      rw [List.countP_cons_of_neg (by simpa using h), h0, List.drop_zero, List.filter_cons_of_pos (by simp; omega)]
      congr 1
      symm
      rw [List.filter_eq_self]
      intro p hpl
      have := hp.1 p hpl
      simp; omega
theorem pg_good {l : List Pair} {x : Cursor} (h : pgBad l x = false) : isTable l = true ∧ isSet x.on = true ∧ 1 ≤ x.limit := by
  simp [pgBad, okCur] at h
  exact ⟨h.1, h.2.1, by omega⟩
theorem rest_all {l : List Pair} {x : Cursor} (h : pgBad l x = false) : pgRest l x = rpAll l x := by
  obtain ⟨h1, h2, h3⟩ := pg_good h
  have e : ahead (fun p => cmpInt p.key (x.after + 1)) (clip l x.on) = (clip l x.on).countP fun p => decide (p.key < x.after + 1) := by
    unfold ahead
    congr 1
    funext p
    simp [cmpInt_neg]
  rw [pgRest, e, drop_count _ (clip_pairwise l x.on), rpAll, clip, List.filter_filter]
  congr 1
  funext p
  simp [inClip, h1, h2, rpq, Int.add_one_le_iff]
theorem out_out {l : List Pair} {x : Cursor} (h : pgBad l x = false) : pgOut l x = rpOut l x := by
  rw [pgOut, rest_all h, rpOut]
  rcases Nat.le_total (rpAll l x).length x.limit.toNat with h1 | h1
  · rw [Nat.min_eq_left h1, List.take_of_length_le (Nat.le_refl _), List.take_of_length_le h1]
  · rw [Nat.min_eq_right h1]
theorem next_next {l : List Pair} {x : Cursor} (h : pgBad l x = false) : pgNext l x = { x with after := lastKey x.after (rpOut l x) } := by
  rw [pgNext, out_out h, lastKey]
  split <;> simp [*]
theorem more_more {l : List Pair} {x : Cursor} (h : pgBad l x = false) : pgMore l x = rpMore l x := by
  obtain ⟨h1, h2, h3⟩ := pg_good h
  rw [pgMore, out_out h, rest_all h, rpMore, rpOut, List.length_take]
  congr 1
  exact propext ⟨fun h => by omega, fun h => by omega⟩

/-- a page, whatever the cursor -/
def paOut (l : List Pair) (x : Cursor) : List Pair := if pgBad l x = true then [] else pgOut l x
def paNext (l : List Pair) (x : Cursor) : Cursor := if pgBad l x = true then ⟨[], 0, 0⟩ else pgNext l x
def paMore (l : List Pair) (x : Cursor) : Bool := if pgBad l x = true then false else pgMore l x
def paErr (l : List Pair) (x : Cursor) : Int := if pgBad l x = true then 1 else 0
def paA (l : List Pair) (x : Cursor) (B : Option Addr) : Option Addr := if pgBad l x = true then none else B
def paD (l : List Pair) (x : Cursor) (d : Nat) : Nat := if pgBad l x = true then 0 else d
theorem next_own {l : List Pair} {x : Cursor} {e : Nat} {w : World} {base : Nat} {B : Option Addr} {d : Nat} (h : Own kSpan e w base (.slice B x.on.length d) x.on) : Own kSpan e w base (.slice (paA l x B) (paNext l x).on.length (paD l x d)) (paNext l x).on := by
  unfold paA paD paNext
  cases hb : pgBad l x with
  | true => exact Own.nil _ _ _ _
  | false =>
    have : (pgNext l x).on = x.on := by unfold pgNext; split <;> rfl
    simpa [this] using h
theorem scan_Page (A B : Option Addr) (c d : Nat) (l : List Pair) (x : Cursor) (w : World) (hr : Sl kPair w A c l) (hs : Sl kSpan w B d x.on) (hbig : l.length ≤ 1000000) :
    Calls Try.prog 26 #[.slice A l.length c, vCur B d x] w fun e w' => ∃ C c' D d', e = .returned (.tuple #[.slice C (paOut l x).length c', vCur D d' (paNext l x), .bool (paMore l x), .int .i64 (paErr l x)]) ∧ Sl kPair w' C c' (paOut l x) ∧ Sl kSpan w' D d' (paNext l x).on ∧ Below w.heap.size w w' := by
  unfold paOut paNext paMore paErr
  cases h : pgBad l x with
  | true => exact (scan_Page_bad A B c d l x w hr hs h).mono fun e w' ⟨he, hb⟩ => ⟨none, 0, none, 0, he, Sl.nil _ _ _ _, Sl.nil _ _ _ _, hb⟩
  | false => exact scan_Page_good A B c d l x w hr hs hbig h
theorem ref22_Page (A B : Option Addr) (c d : Nat) (l : List Pair) (x : Cursor) (w : World) (hr : Sl kPair w A c l) (hs : Sl kSpan w B d x.on) (hbig : l.length ≤ 1000000) :
    Calls Try.prog 27 #[.slice A l.length c, vCur B d x] w fun e w' => ∃ C c', e = .returned (vPaged C (paOut l x).length c' (paA l x B) (paNext l x).on.length (paD l x d) (paNext l x).after (paNext l x).limit (paMore l x) (paErr l x)) ∧ Own kPair 172 w' w.heap.size (.slice C (paOut l x).length c') (paOut l x) ∧ Below w.heap.size w w' := by
  unfold paOut paNext paMore paErr paA paD
  cases h : pgBad l x with
  | true => exact (ref22_Page_bad A B c d l x w hr hs h).mono fun e w' ⟨he, hb⟩ => ⟨none, 0, he, Own.nil _ _ _ _, hb⟩
  | false =>
    refine (ref22_Page_good A B c d l x w hr hs hbig h).mono fun e w' ⟨C, c', he, h1, hb⟩ => ?_
    simp only [Bool.false_eq_true, if_false]
    rw [next_next h, out_out h, more_more h]
    exact ⟨C, c', he, h1, hb⟩

set_option maxHeartbeats 4000000 in
set_option maxRecDepth 100000 in
theorem law22_ScanPages (A B : Option Addr) (c d : Nat) (l : List Pair) (x : Cursor) (w : World) (hr : Sl kPair w A c l) (hs : Sl kSpan w B d x.on) :
    Calls Try.prog 4 #[.slice A l.length c, vCur B d x] w fun e w' => e = .returned (.bool true) ∧ Below w.heap.size w w' := by
  have HFew := Aside0.mk (fun W => law22_few A B c d l x.on W)
  have HAw := Aside0.mk (fun W => law22_awake W)
  have hr0 := Aside0.mk hr
  have hs0 := Aside0.mk hs
  clear hr hs
  cases ef : few l x.on with
  | false =>
    rw [ef] at HFew
    clear ef
    go_enter Try.func4, Try.ntmps4
    go_wp2_with (first | (go_at_call 24; refine calls_box1 ?_; intro W0 hX hb0; have HX := Aside0.mk hX; have b0 := Aside0.mk hb0; clear hX hb0; have HQ := Aside0.mk (Below.refl W0.heap.size W0); refine (HFew.out _).mono ?_; rintro e w1 ⟨rfl, hb⟩; have hq := via HQ.out hb; clear HQ hb; have HQ := Aside0.mk hq; (try clear x0 x1 x2); obtain ⟨x0, x1, x2⟩ := box_later hq b0.out; clear hq) | (go_at_call 25; with_reducible refine (HAw.out _).mono ?_; rintro e w4 ⟨rfl, hb⟩; have hq := via HQ.out hb; clear HQ hb; have HQ := Aside0.mk hq; (try clear x0 x1 x2); obtain ⟨x0, x1, x2⟩ := box_later hq b0.out; clear hq))
    go_ret
    exact ⟨rfl, via HX.out HQ.out⟩
  | true =>
    have hl : l.length ≤ 100 ∧ x.on.length ≤ 100 := by simpa [few] using ef
    rw [ef] at HFew
    clear ef
    obtain ⟨hl1, hl2⟩ := hl
    have HP := Aside0.mk (fun W (h : Below w.heap.size w W) => scan_Page A B c d l x W (hr0.out.below h) (hs0.out.below h) (by omega))
    have hol : (paOut l x).length ≤ 100 := by
      unfold paOut
      split
      · simp
      · have h1 := clip_length l x.on
        unfold pgOut pgRest
        simp only [List.length_take, List.length_drop]
        omega
    have hnl : (paNext l x).on.length ≤ 100 := by
      unfold paNext pgNext
      split
      · simp
      · split <;> simpa using hl2
    have HR := Aside0.mk (fun C c' m W (hm : m.length ≤ 100) (h : Sl kPair W C c' m) => calls_own (law05_Refs C c' m W h (by omega)))
    have HC := Aside0.mk (fun D d' (y : Cursor) W (hm : y.on.length ≤ 100) (h : Sl kSpan W D d' y.on) => law22_ref D d' y W h (by omega))
    have HRP := Aside0.mk (fun C c' D d' W (h1 : Sl kPair W C c' l) (h2 : Sl kSpan W D d' x.on) => ref22_Page C D c' d' l x W h1 h2 (by omega))
    have HNO := Aside0.mk (fun W b B d (h : Own kSpan 178 W b (.slice B x.on.length d) x.on) => next_own (l := l) h)
    generalize paOut l x = out at *
    generalize paNext l x = nx at *
    generalize paMore l x = more at *
    generalize paErr l x = er at *
    generalize paA l x = pa at *
    generalize paD l x = pd at *
    have HS5 := Aside0.mk (fun C c' D d' W (h1 : Sl kPair W C c' out) (h2 : Sl kPair W D d' out) => ref05_Same C D c' d' out out W h1 h2)
    have HS2 := Aside0.mk (fun C c' D d' W (h1 : Sl kSpan W C c' nx.on) (h2 : Sl kSpan W D d' nx.on) => ref22_Same C D c' d' nx nx W h1 h2)
    simp only [decide_true] at HS5 HS2
    go_enter Try.func4, Try.ntmps4
    go_wp2_with (first
      | (go_at_call 24; refine calls_box1 ?_; intro W0 hX hb0; have HX := Aside0.mk hX; have b0 := Aside0.mk hb0; clear hX hb0; have HQ := Aside0.mk (Below.refl W0.heap.size W0); refine (HFew.out _).mono ?_; rintro e w1 ⟨rfl, hb⟩; have hq := via HQ.out hb; clear HQ hb; have HQ := Aside0.mk hq; (try clear x0 x1 x2); obtain ⟨x0, x1, x2⟩ := box_later hq b0.out; clear hq)
      | (go_at_call 26; with_reducible refine (HP.out _ (via HX.out HQ.out)).mono ?_; rintro e w2 ⟨C, c2, D, d2, rfl, hs1, hs2, hb⟩; have HO2 := Aside0.mk hs1; have HN2 := Aside0.mk hs2; clear hs1 hs2; have hq := via HQ.out hb; clear HQ hb; have HQ := Aside0.mk hq; (try clear x0 x1 x2); obtain ⟨x0, x1, x2⟩ := box_later hq b0.out; clear hq))
    have bx := box_top w2 (.cells #[.slice D nx.on.length d2, .int .i64 nx.after, .int .i64 nx.limit] 50)
    have hbb := below_alloc (Below.refl w2.heap.size w2) (.cells #[.slice D nx.on.length d2, .int .i64 nx.after, .int .i64 nx.limit] 50)
    have hX9 := Aside0.mk (via (via HX.out HQ.out) hbb)
    have HO2 := Aside0.mk (HO2.out.below hbb)
    have HN2 := Aside0.mk (HN2.out.below hbb)
    have hq := via HQ.out hbb
    have b9 := Aside0.mk (blk_keep hq b0.out)
    have bx := Aside0.mk bx
    have hg2 : w2.heap.size < (w2.alloc (.cells #[.slice D nx.on.length d2, .int .i64 nx.after, .int .i64 nx.limit] 50)).heap.size := by simp
    clear hbb hq HQ b0 x0 x1
    generalize (w2.alloc (.cells #[.slice D nx.on.length d2, .int .i64 nx.after, .int .i64 nx.limit] 50)) = W2 at *
    refine start_ (n := 7) (S := fun w' => w'.heap[w.heap.size]? = some (.cells #[.slice B x.on.length d, .int .i64 x.after, .int .i64 x.limit] 50 (0, 0)) ∧ (∀ i, w'.cell? ⟨w.heap.size, i, none⟩ = (#[.slice B x.on.length d, .int .i64 x.after, .int .i64 x.limit] : Array Value)[i]?) ∧ w'.heap[w2.heap.size]? = some (.cells #[.slice D nx.on.length d2, .int .i64 nx.after, .int .i64 nx.limit] 50 (0, 0)) ∧ (∀ i, w'.cell? ⟨w2.heap.size, i, none⟩ = (#[.slice D nx.on.length d2, .int .i64 nx.after, .int .i64 nx.limit] : Array Value)[i]?) ∧ Below W2.heap.size W2 w') (ds := [6]) #[false, false, false, false, false, false, false] (by kernel_rfl) rfl rfl ⟨b9.out, (fun i => blk_cell b9.out i), bx.out, (fun i => blk_cell bx.out i), below_drew (Below.refl _ _)⟩ (fun hHeld => ?_)
    refine pure_ (i := 0) (N := some 24) (v := ?_) (a' := ?_) #[true, false, false, false, false, false, false] rfl rfl (by kernel_rfl) (fun _ _ _ h => h) (Or.inl ⟨by rfl, ?_⟩) ?_ ?_
    rotate_left
    · intro w'
      go_simp
      with_reducible rfl
    rotate_left
    · simp only [Act.put, List.setIfInBounds_toArray, List.set_cons_zero, List.set_cons_succ, i64_w, i32_w]
      rfl
    refine take_ (i := 2) (N := some 26) (v := ?_) (a' := ?_) #[true, false, true, false, false, false, false] rfl rfl (by kernel_rfl) (fun _ _ _ h => h) (Or.inl ⟨by rfl, ?_⟩) hHeld ?_ ?_
    rotate_left
    · rintro w' ⟨s0, s1, s2, s3, s4⟩
      go_simp
      with_reducible rfl
    rotate_left
    · simp only [Act.put, List.setIfInBounds_toArray, List.set_cons_zero, List.set_cons_succ, i64_w, i32_w]
      rfl
    refine join_ (σ := (Option Addr) × (Nat) × (Option Addr) × (Nat) × (Option Addr) × (Nat) × (Nat)) 1 #[true, true, true, true, true, true, false] (fun s => [(25, .slice s.1 l.length s.2.1), (27, vCur s.2.2.1 s.2.2.2.1 x), (28, vPaged s.2.2.2.2.1 out.length s.2.2.2.2.2.1 (pa s.2.2.1) nx.on.length (pd s.2.2.2.1) nx.after nx.limit more er), (9, .pointer (some ⟨s.2.2.2.2.2.2, 0, none⟩))]) (fun s w' => (w'.heap[w.heap.size]? = some (.cells #[.slice B x.on.length d, .int .i64 x.after, .int .i64 x.limit] 50 (0, 0))) ∧ ((∀ i, w'.cell? ⟨w.heap.size, i, none⟩ = (#[.slice B x.on.length d, .int .i64 x.after, .int .i64 x.limit] : Array Value)[i]?)) ∧ (w'.heap[w2.heap.size]? = some (.cells #[.slice D nx.on.length d2, .int .i64 nx.after, .int .i64 nx.limit] 50 (0, 0))) ∧ ((∀ i, w'.cell? ⟨w2.heap.size, i, none⟩ = (#[.slice D nx.on.length d2, .int .i64 nx.after, .int .i64 nx.limit] : Array Value)[i]?)) ∧ (Below W2.heap.size W2 w') ∧ (Sl kPair w' s.1 s.2.1 l) ∧ (Own kSpan 178 w' W2.heap.size (.slice s.2.2.1 x.on.length s.2.2.2.1) x.on) ∧ (Own kPair 172 w' W2.heap.size (.slice s.2.2.2.2.1 out.length s.2.2.2.2.2.1) out) ∧ (w'.heap[s.2.2.2.2.2.2]? = some (.cells #[.slice none 0 0, .slice none 0 0, .int .i64 0, .int .i64 0, .bool false, .int .i64 0] 59 (0, 0))) ∧ (W2.heap.size ≤ s.2.2.2.2.2.2)) ?_ ?_
    rotate_left
    · intro hCont
      refine two_ (i := 1) (j := 5) (Ni := some 25) (Nj := some 9) #[true, true, true, false, false, false, false] #[true, false, true, false, false, true, false] rfl rfl rfl rfl (by kernel_rfl) (by decide) (by decide) (fun K hK => ?_) (fun K hK => ?_)
      · skip
        refine goes_ Try.func28 (by kernel_rfl) rfl #[.slice A l.length c] (by rfl) rfl rfl (by simp only [List.map_toArray, List.map_cons, List.map_nil]; rfl) ?_
        with_reducible refine (HR.out _ _ l _ hl1 (hr0.out.below (via hX9.out hHeld.2.2.2.2))).mono ?_
        rintro e w8 ⟨C1, c1, rfl, ho1, hs1, hb⟩
        refine ⟨_, rfl, ?_⟩
        have HL1 : Aside0 (Sl kPair w8 C1 c1 l) := ⟨hs1⟩
        refine hK.out _ _ ⟨blk_keep hb hHeld.1, (fun i => blk_cell (blk_keep hb hHeld.1) i), blk_keep hb hHeld.2.2.1, (fun i => blk_cell (blk_keep hb hHeld.2.2.1) i), via hHeld.2.2.2.2 hb⟩ (fun hHeld => ?_)
        clear hK K
        refine norm_ (a' := ?_) ?_ ?_
        rotate_left
        · show Act.put _ (some 25) _ = _
          simp only [Act.put, List.setIfInBounds_toArray, List.set_cons_zero, List.set_cons_succ, i64_w, i32_w]
          rfl
        refine two_ (i := 3) (j := 5) (Ni := some 27) (Nj := some 9) #[true, true, true, true, false, false, false] #[true, true, true, false, false, true, false] rfl rfl rfl rfl (by kernel_rfl) (by decide) (by decide) (fun K hK => ?_) (fun K hK => ?_)
        · skip
          refine goes_ Try.func29 (by kernel_rfl) rfl #[vCur B d x] (by rfl) rfl rfl (by simp only [List.map_toArray, List.map_cons, List.map_nil]; rfl) ?_
          with_reducible refine (HC.out _ _ x _ hl2 (hs0.out.below (via hX9.out hHeld.2.2.2.2))).mono ?_
          rintro e w10 ⟨D1, d1, rfl, ho2, hb⟩
          refine ⟨_, rfl, ?_⟩
          have HL1 := Aside0.mk (HL1.out.below hb)
          have HL2 : Aside0 (Own kSpan 178 w10 W2.heap.size (.slice D1 x.on.length d1) x.on) := ⟨Own.lower ho2 (by have := (hHeld.2.2.2.2).size; omega)⟩
          refine hK.out _ _ ⟨blk_keep hb hHeld.1, (fun i => blk_cell (blk_keep hb hHeld.1) i), blk_keep hb hHeld.2.2.1, (fun i => blk_cell (blk_keep hb hHeld.2.2.1) i), via hHeld.2.2.2.2 hb⟩ (fun hHeld => ?_)
          clear hK K
          refine norm_ (a' := ?_) ?_ ?_
          rotate_left
          · show Act.put _ (some 27) _ = _
            simp only [Act.put, List.setIfInBounds_toArray, List.set_cons_zero, List.set_cons_succ, i64_w, i32_w]
            rfl
          refine two_ (i := 4) (j := 5) (Ni := some 28) (Nj := some 9) #[true, true, true, true, true, false, false] #[true, true, true, true, false, true, false] rfl rfl rfl rfl (by kernel_rfl) (by decide) (by decide) (fun K hK => ?_) (fun K hK => ?_)
          · skip
            refine goes_ Try.func27 (by kernel_rfl) rfl #[.slice C1 l.length c1, vCur D1 d1 x] (by rfl) rfl rfl (by simp only [List.map_toArray, List.map_cons, List.map_nil]; rfl) ?_
            with_reducible refine (HRP.out _ _ _ _ _ HL1.out HL2.out.sl2).mono ?_
            rintro e w11 ⟨C3, c3, rfl, ho3, hb⟩
            refine ⟨_, rfl, ?_⟩
            have HL1 := Aside0.mk (HL1.out.below hb)
            have HL2 := Aside0.mk (HL2.out.below hb)
            have HL3 : Aside0 (Own kPair 172 w11 W2.heap.size (.slice C3 out.length c3) out) := ⟨Own.lower ho3 (by have := (hHeld.2.2.2.2).size; omega)⟩
            refine hK.out _ _ ⟨blk_keep hb hHeld.1, (fun i => blk_cell (blk_keep hb hHeld.1) i), blk_keep hb hHeld.2.2.1, (fun i => blk_cell (blk_keep hb hHeld.2.2.1) i), via hHeld.2.2.2.2 hb⟩ (fun hHeld => ?_)
            clear hK K
            refine norm_ (a' := ?_) ?_ ?_
            rotate_left
            · show Act.put _ (some 28) _ = _
              simp only [Act.put, List.setIfInBounds_toArray, List.set_cons_zero, List.set_cons_succ, i64_w, i32_w]
              rfl
            refine one_ (i := 5) (N := some 9) #[true, true, true, true, true, true, false] rfl rfl (by kernel_rfl) (by decide) (fun K hK => ?_)
            have hga_ := Aside0.mk (box_top w11 (.cells #[.slice none 0 0, .slice none 0 0, .int .i64 0, .int .i64 0, .bool false, .int .i64 0] 59))
            refine value_ (w1 := ?_) (v := ?_) (by rfl) rfl ?_ ?_
            rotate_left 2
            · go_simp
              constructor
              · rfl
              · rfl
            have HL1 := Aside0.mk (HL1.out.below (below_alloc (Below.refl _ _) (.cells #[.slice none 0 0, .slice none 0 0, .int .i64 0, .int .i64 0, .bool false, .int .i64 0] 59)))
            have HL2 := Aside0.mk (HL2.out.below (below_alloc (Below.refl _ _) (.cells #[.slice none 0 0, .slice none 0 0, .int .i64 0, .int .i64 0, .bool false, .int .i64 0] 59)))
            have HL3 := Aside0.mk (HL3.out.below (below_alloc (Below.refl _ _) (.cells #[.slice none 0 0, .slice none 0 0, .int .i64 0, .int .i64 0, .bool false, .int .i64 0] 59)))
            have Bg9 := hga_
            have hg9 : Aside0 (W2.heap.size ≤ w11.heap.size) := ⟨hHeld.2.2.2.2.size⟩
            refine hK.out _ _ ⟨blk_keep (below_alloc (Below.refl _ _) (.cells #[.slice none 0 0, .slice none 0 0, .int .i64 0, .int .i64 0, .bool false, .int .i64 0] 59)) hHeld.1, (fun i => blk_cell (blk_keep (below_alloc (Below.refl _ _) (.cells #[.slice none 0 0, .slice none 0 0, .int .i64 0, .int .i64 0, .bool false, .int .i64 0] 59)) hHeld.1) i), blk_keep (below_alloc (Below.refl _ _) (.cells #[.slice none 0 0, .slice none 0 0, .int .i64 0, .int .i64 0, .bool false, .int .i64 0] 59)) hHeld.2.2.1, (fun i => blk_cell (blk_keep (below_alloc (Below.refl _ _) (.cells #[.slice none 0 0, .slice none 0 0, .int .i64 0, .int .i64 0, .bool false, .int .i64 0] 59)) hHeld.2.2.1) i), via hHeld.2.2.2.2 (below_alloc (Below.refl _ _) (.cells #[.slice none 0 0, .slice none 0 0, .int .i64 0, .int .i64 0, .bool false, .int .i64 0] 59))⟩ (fun hHeld => ?_)
            clear hK K
            refine norm_ (a' := ?_) ?_ ?_
            rotate_left
            · show Act.put _ (some 9) _ = _
              simp only [Act.put, List.setIfInBounds_toArray, List.set_cons_zero, List.set_cons_succ, i64_w, i32_w]
              rfl
            exact norm_ (by simp only [putAll, Act.put, List.setIfInBounds_toArray, List.set_cons_zero, List.set_cons_succ]) (hCont (C1, c1, D1, d1, C3, c3, (w11.heap.size)) _ ⟨(hHeld.1), (hHeld.2.1), (hHeld.2.2.1), (hHeld.2.2.2.1), (hHeld.2.2.2.2), HL1.out, HL2.out, HL3.out, Bg9.out, hg9.out⟩)
          · skip
            have hga_ := Aside0.mk (box_top w10 (.cells #[.slice none 0 0, .slice none 0 0, .int .i64 0, .int .i64 0, .bool false, .int .i64 0] 59))
            refine value_ (w1 := ?_) (v := ?_) (by rfl) rfl ?_ ?_
            rotate_left 2
            · go_simp
              constructor
              · rfl
              · rfl
            have HL1 := Aside0.mk (HL1.out.below (below_alloc (Below.refl _ _) (.cells #[.slice none 0 0, .slice none 0 0, .int .i64 0, .int .i64 0, .bool false, .int .i64 0] 59)))
            have HL2 := Aside0.mk (HL2.out.below (below_alloc (Below.refl _ _) (.cells #[.slice none 0 0, .slice none 0 0, .int .i64 0, .int .i64 0, .bool false, .int .i64 0] 59)))
            have Bg9 := hga_
            have hg9 : Aside0 (W2.heap.size ≤ w10.heap.size) := ⟨hHeld.2.2.2.2.size⟩
            refine hK.out _ _ ⟨blk_keep (below_alloc (Below.refl _ _) (.cells #[.slice none 0 0, .slice none 0 0, .int .i64 0, .int .i64 0, .bool false, .int .i64 0] 59)) hHeld.1, (fun i => blk_cell (blk_keep (below_alloc (Below.refl _ _) (.cells #[.slice none 0 0, .slice none 0 0, .int .i64 0, .int .i64 0, .bool false, .int .i64 0] 59)) hHeld.1) i), blk_keep (below_alloc (Below.refl _ _) (.cells #[.slice none 0 0, .slice none 0 0, .int .i64 0, .int .i64 0, .bool false, .int .i64 0] 59)) hHeld.2.2.1, (fun i => blk_cell (blk_keep (below_alloc (Below.refl _ _) (.cells #[.slice none 0 0, .slice none 0 0, .int .i64 0, .int .i64 0, .bool false, .int .i64 0] 59)) hHeld.2.2.1) i), via hHeld.2.2.2.2 (below_alloc (Below.refl _ _) (.cells #[.slice none 0 0, .slice none 0 0, .int .i64 0, .int .i64 0, .bool false, .int .i64 0] 59))⟩ (fun hHeld => ?_)
            clear hK K
            refine norm_ (a' := ?_) ?_ ?_
            rotate_left
            · show Act.put _ (some 9) _ = _
              simp only [Act.put, List.setIfInBounds_toArray, List.set_cons_zero, List.set_cons_succ, i64_w, i32_w]
              rfl
            refine one_ (i := 4) (N := some 28) #[true, true, true, true, true, true, false] rfl rfl (by kernel_rfl) (by decide) (fun K hK => ?_)
            refine goes_ Try.func27 (by kernel_rfl) rfl #[.slice C1 l.length c1, vCur D1 d1 x] (by rfl) rfl rfl (by simp only [List.map_toArray, List.map_cons, List.map_nil]; rfl) ?_
            with_reducible refine (HRP.out _ _ _ _ _ HL1.out HL2.out.sl2).mono ?_
            rintro e w11 ⟨C3, c3, rfl, ho3, hb⟩
            refine ⟨_, rfl, ?_⟩
            have HL1 := Aside0.mk (HL1.out.below hb)
            have HL2 := Aside0.mk (HL2.out.below hb)
            have Bg9 := Aside0.mk (blk_keep hb Bg9.out)
            have HL3 : Aside0 (Own kPair 172 w11 W2.heap.size (.slice C3 out.length c3) out) := ⟨Own.lower ho3 (by have := (hHeld.2.2.2.2).size; omega)⟩
            refine hK.out _ _ ⟨blk_keep hb hHeld.1, (fun i => blk_cell (blk_keep hb hHeld.1) i), blk_keep hb hHeld.2.2.1, (fun i => blk_cell (blk_keep hb hHeld.2.2.1) i), via hHeld.2.2.2.2 hb⟩ (fun hHeld => ?_)
            clear hK K
            refine norm_ (a' := ?_) ?_ ?_
            rotate_left
            · show Act.put _ (some 28) _ = _
              simp only [Act.put, List.setIfInBounds_toArray, List.set_cons_zero, List.set_cons_succ, i64_w, i32_w]
              rfl
            exact norm_ (by simp only [putAll, Act.put, List.setIfInBounds_toArray, List.set_cons_zero, List.set_cons_succ]) (hCont (C1, c1, D1, d1, C3, c3, (w10.heap.size)) _ ⟨(hHeld.1), (hHeld.2.1), (hHeld.2.2.1), (hHeld.2.2.2.1), (hHeld.2.2.2.2), HL1.out, HL2.out, HL3.out, Bg9.out, hg9.out⟩)
        · skip
          have hga_ := Aside0.mk (box_top w8 (.cells #[.slice none 0 0, .slice none 0 0, .int .i64 0, .int .i64 0, .bool false, .int .i64 0] 59))
          refine value_ (w1 := ?_) (v := ?_) (by rfl) rfl ?_ ?_
          rotate_left 2
          · go_simp
            constructor
            · rfl
            · rfl
          have HL1 := Aside0.mk (HL1.out.below (below_alloc (Below.refl _ _) (.cells #[.slice none 0 0, .slice none 0 0, .int .i64 0, .int .i64 0, .bool false, .int .i64 0] 59)))
          have Bg9 := hga_
          have hg9 : Aside0 (W2.heap.size ≤ w8.heap.size) := ⟨hHeld.2.2.2.2.size⟩
          refine hK.out _ _ ⟨blk_keep (below_alloc (Below.refl _ _) (.cells #[.slice none 0 0, .slice none 0 0, .int .i64 0, .int .i64 0, .bool false, .int .i64 0] 59)) hHeld.1, (fun i => blk_cell (blk_keep (below_alloc (Below.refl _ _) (.cells #[.slice none 0 0, .slice none 0 0, .int .i64 0, .int .i64 0, .bool false, .int .i64 0] 59)) hHeld.1) i), blk_keep (below_alloc (Below.refl _ _) (.cells #[.slice none 0 0, .slice none 0 0, .int .i64 0, .int .i64 0, .bool false, .int .i64 0] 59)) hHeld.2.2.1, (fun i => blk_cell (blk_keep (below_alloc (Below.refl _ _) (.cells #[.slice none 0 0, .slice none 0 0, .int .i64 0, .int .i64 0, .bool false, .int .i64 0] 59)) hHeld.2.2.1) i), via hHeld.2.2.2.2 (below_alloc (Below.refl _ _) (.cells #[.slice none 0 0, .slice none 0 0, .int .i64 0, .int .i64 0, .bool false, .int .i64 0] 59))⟩ (fun hHeld => ?_)
          clear hK K
          refine norm_ (a' := ?_) ?_ ?_
          rotate_left
          · show Act.put _ (some 9) _ = _
            simp only [Act.put, List.setIfInBounds_toArray, List.set_cons_zero, List.set_cons_succ, i64_w, i32_w]
            rfl
          refine one_ (i := 3) (N := some 27) #[true, true, true, true, false, true, false] rfl rfl (by kernel_rfl) (by decide) (fun K hK => ?_)
          refine goes_ Try.func29 (by kernel_rfl) rfl #[vCur B d x] (by rfl) rfl rfl (by simp only [List.map_toArray, List.map_cons, List.map_nil]; rfl) ?_
          with_reducible refine (HC.out _ _ x _ hl2 (hs0.out.below (via hX9.out hHeld.2.2.2.2))).mono ?_
          rintro e w10 ⟨D1, d1, rfl, ho2, hb⟩
          refine ⟨_, rfl, ?_⟩
          have HL1 := Aside0.mk (HL1.out.below hb)
          have Bg9 := Aside0.mk (blk_keep hb Bg9.out)
          have HL2 : Aside0 (Own kSpan 178 w10 W2.heap.size (.slice D1 x.on.length d1) x.on) := ⟨Own.lower ho2 (by have := (hHeld.2.2.2.2).size; omega)⟩
          refine hK.out _ _ ⟨blk_keep hb hHeld.1, (fun i => blk_cell (blk_keep hb hHeld.1) i), blk_keep hb hHeld.2.2.1, (fun i => blk_cell (blk_keep hb hHeld.2.2.1) i), via hHeld.2.2.2.2 hb⟩ (fun hHeld => ?_)
          clear hK K
          refine norm_ (a' := ?_) ?_ ?_
          rotate_left
          · show Act.put _ (some 27) _ = _
            simp only [Act.put, List.setIfInBounds_toArray, List.set_cons_zero, List.set_cons_succ, i64_w, i32_w]
            rfl
          refine one_ (i := 4) (N := some 28) #[true, true, true, true, true, true, false] rfl rfl (by kernel_rfl) (by decide) (fun K hK => ?_)
          refine goes_ Try.func27 (by kernel_rfl) rfl #[.slice C1 l.length c1, vCur D1 d1 x] (by rfl) rfl rfl (by simp only [List.map_toArray, List.map_cons, List.map_nil]; rfl) ?_
          with_reducible refine (HRP.out _ _ _ _ _ HL1.out HL2.out.sl2).mono ?_
          rintro e w11 ⟨C3, c3, rfl, ho3, hb⟩
          refine ⟨_, rfl, ?_⟩
          have HL1 := Aside0.mk (HL1.out.below hb)
          have Bg9 := Aside0.mk (blk_keep hb Bg9.out)
          have HL2 := Aside0.mk (HL2.out.below hb)
          have HL3 : Aside0 (Own kPair 172 w11 W2.heap.size (.slice C3 out.length c3) out) := ⟨Own.lower ho3 (by have := (hHeld.2.2.2.2).size; omega)⟩
          refine hK.out _ _ ⟨blk_keep hb hHeld.1, (fun i => blk_cell (blk_keep hb hHeld.1) i), blk_keep hb hHeld.2.2.1, (fun i => blk_cell (blk_keep hb hHeld.2.2.1) i), via hHeld.2.2.2.2 hb⟩ (fun hHeld => ?_)
          clear hK K
          refine norm_ (a' := ?_) ?_ ?_
          rotate_left
          · show Act.put _ (some 28) _ = _
            simp only [Act.put, List.setIfInBounds_toArray, List.set_cons_zero, List.set_cons_succ, i64_w, i32_w]
            rfl
          exact norm_ (by simp only [putAll, Act.put, List.setIfInBounds_toArray, List.set_cons_zero, List.set_cons_succ]) (hCont (C1, c1, D1, d1, C3, c3, (w8.heap.size)) _ ⟨(hHeld.1), (hHeld.2.1), (hHeld.2.2.1), (hHeld.2.2.2.1), (hHeld.2.2.2.2), HL1.out, HL2.out, HL3.out, Bg9.out, hg9.out⟩)
      · skip
        have hga_ := Aside0.mk (box_top W2.drew (.cells #[.slice none 0 0, .slice none 0 0, .int .i64 0, .int .i64 0, .bool false, .int .i64 0] 59))
        refine value_ (w1 := ?_) (v := ?_) (by rfl) rfl ?_ ?_
        rotate_left 2
        · go_simp
          constructor
          · rfl
          · rfl
        have Bg9 := hga_
        have hg9 : Aside0 (W2.heap.size ≤ W2.heap.size) := ⟨hHeld.2.2.2.2.size⟩
        refine hK.out _ _ ⟨blk_keep (below_alloc (Below.refl _ _) (.cells #[.slice none 0 0, .slice none 0 0, .int .i64 0, .int .i64 0, .bool false, .int .i64 0] 59)) hHeld.1, (fun i => blk_cell (blk_keep (below_alloc (Below.refl _ _) (.cells #[.slice none 0 0, .slice none 0 0, .int .i64 0, .int .i64 0, .bool false, .int .i64 0] 59)) hHeld.1) i), blk_keep (below_alloc (Below.refl _ _) (.cells #[.slice none 0 0, .slice none 0 0, .int .i64 0, .int .i64 0, .bool false, .int .i64 0] 59)) hHeld.2.2.1, (fun i => blk_cell (blk_keep (below_alloc (Below.refl _ _) (.cells #[.slice none 0 0, .slice none 0 0, .int .i64 0, .int .i64 0, .bool false, .int .i64 0] 59)) hHeld.2.2.1) i), via hHeld.2.2.2.2 (below_alloc (Below.refl _ _) (.cells #[.slice none 0 0, .slice none 0 0, .int .i64 0, .int .i64 0, .bool false, .int .i64 0] 59))⟩ (fun hHeld => ?_)
        clear hK K
        refine norm_ (a' := ?_) ?_ ?_
        rotate_left
        · show Act.put _ (some 9) _ = _
          simp only [Act.put, List.setIfInBounds_toArray, List.set_cons_zero, List.set_cons_succ, i64_w, i32_w]
          rfl
        refine one_ (i := 1) (N := some 25) #[true, true, true, false, false, true, false] rfl rfl (by kernel_rfl) (by decide) (fun K hK => ?_)
        refine goes_ Try.func28 (by kernel_rfl) rfl #[.slice A l.length c] (by rfl) rfl rfl (by simp only [List.map_toArray, List.map_cons, List.map_nil]; rfl) ?_
        with_reducible refine (HR.out _ _ l _ hl1 (hr0.out.below (via hX9.out hHeld.2.2.2.2))).mono ?_
        rintro e w8 ⟨C1, c1, rfl, ho1, hs1, hb⟩
        refine ⟨_, rfl, ?_⟩
        have Bg9 := Aside0.mk (blk_keep hb Bg9.out)
        have HL1 : Aside0 (Sl kPair w8 C1 c1 l) := ⟨hs1⟩
        refine hK.out _ _ ⟨blk_keep hb hHeld.1, (fun i => blk_cell (blk_keep hb hHeld.1) i), blk_keep hb hHeld.2.2.1, (fun i => blk_cell (blk_keep hb hHeld.2.2.1) i), via hHeld.2.2.2.2 hb⟩ (fun hHeld => ?_)
        clear hK K
        refine norm_ (a' := ?_) ?_ ?_
        rotate_left
        · show Act.put _ (some 25) _ = _
          simp only [Act.put, List.setIfInBounds_toArray, List.set_cons_zero, List.set_cons_succ, i64_w, i32_w]
          rfl
        refine one_ (i := 3) (N := some 27) #[true, true, true, true, false, true, false] rfl rfl (by kernel_rfl) (by decide) (fun K hK => ?_)
        refine goes_ Try.func29 (by kernel_rfl) rfl #[vCur B d x] (by rfl) rfl rfl (by simp only [List.map_toArray, List.map_cons, List.map_nil]; rfl) ?_
        with_reducible refine (HC.out _ _ x _ hl2 (hs0.out.below (via hX9.out hHeld.2.2.2.2))).mono ?_
        rintro e w10 ⟨D1, d1, rfl, ho2, hb⟩
        refine ⟨_, rfl, ?_⟩
        have Bg9 := Aside0.mk (blk_keep hb Bg9.out)
        have HL1 := Aside0.mk (HL1.out.below hb)
        have HL2 : Aside0 (Own kSpan 178 w10 W2.heap.size (.slice D1 x.on.length d1) x.on) := ⟨Own.lower ho2 (by have := (hHeld.2.2.2.2).size; omega)⟩
        refine hK.out _ _ ⟨blk_keep hb hHeld.1, (fun i => blk_cell (blk_keep hb hHeld.1) i), blk_keep hb hHeld.2.2.1, (fun i => blk_cell (blk_keep hb hHeld.2.2.1) i), via hHeld.2.2.2.2 hb⟩ (fun hHeld => ?_)
        clear hK K
        refine norm_ (a' := ?_) ?_ ?_
        rotate_left
        · show Act.put _ (some 27) _ = _
          simp only [Act.put, List.setIfInBounds_toArray, List.set_cons_zero, List.set_cons_succ, i64_w, i32_w]
          rfl
        refine one_ (i := 4) (N := some 28) #[true, true, true, true, true, true, false] rfl rfl (by kernel_rfl) (by decide) (fun K hK => ?_)
        refine goes_ Try.func27 (by kernel_rfl) rfl #[.slice C1 l.length c1, vCur D1 d1 x] (by rfl) rfl rfl (by simp only [List.map_toArray, List.map_cons, List.map_nil]; rfl) ?_
        with_reducible refine (HRP.out _ _ _ _ _ HL1.out HL2.out.sl2).mono ?_
        rintro e w11 ⟨C3, c3, rfl, ho3, hb⟩
        refine ⟨_, rfl, ?_⟩
        have Bg9 := Aside0.mk (blk_keep hb Bg9.out)
        have HL1 := Aside0.mk (HL1.out.below hb)
        have HL2 := Aside0.mk (HL2.out.below hb)
        have HL3 : Aside0 (Own kPair 172 w11 W2.heap.size (.slice C3 out.length c3) out) := ⟨Own.lower ho3 (by have := (hHeld.2.2.2.2).size; omega)⟩
        refine hK.out _ _ ⟨blk_keep hb hHeld.1, (fun i => blk_cell (blk_keep hb hHeld.1) i), blk_keep hb hHeld.2.2.1, (fun i => blk_cell (blk_keep hb hHeld.2.2.1) i), via hHeld.2.2.2.2 hb⟩ (fun hHeld => ?_)
        clear hK K
        refine norm_ (a' := ?_) ?_ ?_
        rotate_left
        · show Act.put _ (some 28) _ = _
          simp only [Act.put, List.setIfInBounds_toArray, List.set_cons_zero, List.set_cons_succ, i64_w, i32_w]
          rfl
        exact norm_ (by simp only [putAll, Act.put, List.setIfInBounds_toArray, List.set_cons_zero, List.set_cons_succ]) (hCont (C1, c1, D1, d1, C3, c3, (W2.heap.size)) _ ⟨(hHeld.1), (hHeld.2.1), (hHeld.2.2.1), (hHeld.2.2.2.1), (hHeld.2.2.2.2), HL1.out, HL2.out, HL3.out, Bg9.out, hg9.out⟩)
    rintro ⟨C1, c1, D1, d1, C3, c3, g9⟩ w9 ⟨hS0_, hS1_, hS2_, hS3_, hS4_, hHL1_, hHL2_, hHL3_, hBg9_, hhg9_⟩
    have hHeld : (w9.heap[w.heap.size]? = some (.cells #[.slice B x.on.length d, .int .i64 x.after, .int .i64 x.limit] 50 (0, 0))) ∧ ((∀ i, w9.cell? ⟨w.heap.size, i, none⟩ = (#[.slice B x.on.length d, .int .i64 x.after, .int .i64 x.limit] : Array Value)[i]?)) ∧ (w9.heap[w2.heap.size]? = some (.cells #[.slice D nx.on.length d2, .int .i64 nx.after, .int .i64 nx.limit] 50 (0, 0))) ∧ ((∀ i, w9.cell? ⟨w2.heap.size, i, none⟩ = (#[.slice D nx.on.length d2, .int .i64 nx.after, .int .i64 nx.limit] : Array Value)[i]?)) ∧ (Below W2.heap.size W2 w9) := ⟨hS0_, hS1_, hS2_, hS3_, hS4_⟩
    have HL1 : Aside0 (Sl kPair w9 C1 c1 l) := ⟨hHL1_⟩
    have HL2 : Aside0 (Own kSpan 178 w9 W2.heap.size (.slice D1 x.on.length d1) x.on) := ⟨hHL2_⟩
    have HL3 : Aside0 (Own kPair 172 w9 W2.heap.size (.slice C3 out.length c3) out) := ⟨hHL3_⟩
    have Bg9 : Aside0 (w9.heap[g9]? = some (.cells #[.slice none 0 0, .slice none 0 0, .int .i64 0, .int .i64 0, .bool false, .int .i64 0] 59 (0, 0))) := ⟨hBg9_⟩
    have hg9 : Aside0 (W2.heap.size ≤ g9) := ⟨hhg9_⟩
    clear hHL1_ hHL2_ hHL3_ hBg9_ hhg9_ hS0_ hS1_ hS2_ hS3_ hS4_
    refine norm_ (a' := ?_) ?_ ?_
    rotate_left
    · simp only [putAll, Act.put, List.setIfInBounds_toArray, List.set_cons_zero, List.set_cons_succ]
      rfl
    refine last_ (i := 6) (N := none) #[true, true, true, true, true, true, true] rfl rfl (by kernel_rfl) (by decide) (fun K hK => ?_)
    have q0 := blk_cell Bg9.out
    have q1 := blk_frozen Bg9.out
    have q2 := blk_lt Bg9.out
    refine skip_ (w1 := ?_) (by rfl) rfl ?_ ?_
    rotate_left
    · go_simp
      rfl
    refine hK.out _ _ ?_
    clear hK K
    refine done_ (by kernel_rfl) ?_

    have hk : KeepBut w9 ((((((w9.setCell ⟨g9, 0, none⟩ (.slice C3 out.length c3)).setCell ⟨g9, 1, none⟩ (.slice (pa D1) nx.on.length (pd d1))).setCell ⟨g9, 2, none⟩ (.int .i64 nx.after)).setCell ⟨g9, 3, none⟩ (.int .i64 nx.limit)).setCell ⟨g9, 4, none⟩ (.bool more)).setCell ⟨g9, 5, none⟩ (.int .i64 er)) g9 none := by
      repeat (with_reducible refine KeepBut.set_ ?_ _ _)
      exact KeepBut.refl _ _ _
    have hG : (((((((w9.setCell ⟨g9, 0, none⟩ (.slice C3 out.length c3)).setCell ⟨g9, 1, none⟩ (.slice (pa D1) nx.on.length (pd d1))).setCell ⟨g9, 2, none⟩ (.int .i64 nx.after)).setCell ⟨g9, 3, none⟩ (.int .i64 nx.limit)).setCell ⟨g9, 4, none⟩ (.bool more)).setCell ⟨g9, 5, none⟩ (.int .i64 er))).heap[g9]? = some (.cells #[.slice C3 out.length c3, .slice (pa D1) nx.on.length (pd d1), .int .i64 nx.after, .int .i64 nx.limit, .bool more, .int .i64 er] 59 (0, 0)) := blk_set (blk_set (blk_set (blk_set (blk_set (blk_set Bg9.out 0 (.slice C3 out.length c3)) 1 (.slice (pa D1) nx.on.length (pd d1))) 2 (.int .i64 nx.after)) 3 (.int .i64 nx.limit)) 4 (.bool more)) 5 (.int .i64 er)
    have hO3 := HL3.out.keep_t rfl Bg9.out (by decide) hk
    have hN3 := (HNO.out _ _ _ _ HL2.out).keep_t rfl Bg9.out (by decide) hk
    have hbw := hHeld.2.2.2.2
    have bxx := (hk.blk hHeld.2.2.1 (blk_ne hHeld.2.2.1 Bg9.out (by decide)) (by simp))
    clear q0 q1 q2
    have hgg : W2.heap.size ≤ g9 := hg9.out
    have hBB := Aside0.mk (show Below W2.heap.size W2 ((((((w9.setCell ⟨g9, 0, none⟩ (.slice C3 out.length c3)).setCell ⟨g9, 1, none⟩ (.slice (pa D1) nx.on.length (pd d1))).setCell ⟨g9, 2, none⟩ (.int .i64 nx.after)).setCell ⟨g9, 3, none⟩ (.int .i64 nx.limit)).setCell ⟨g9, 4, none⟩ (.bool more)).setCell ⟨g9, 5, none⟩ (.int .i64 er)) from by
      repeat (with_reducible refine below_set ?_ hgg)
      exact hbw)
    generalize ((((((w9.setCell ⟨g9, 0, none⟩ (.slice C3 out.length c3)).setCell ⟨g9, 1, none⟩ (.slice (pa D1) nx.on.length (pd d1))).setCell ⟨g9, 2, none⟩ (.int .i64 nx.after)).setCell ⟨g9, 3, none⟩ (.int .i64 nx.limit)).setCell ⟨g9, 4, none⟩ (.bool more)).setCell ⟨g9, 5, none⟩ (.int .i64 er)) = W5 at *
    have hG := Aside0.mk hG
    have bxx := Aside0.mk bxx
    have LO2 := Aside0.mk (HO2.out.below (below_drew hBB.out))
    have LN2 := Aside0.mk (HN2.out.below (below_drew hBB.out))
    have LO3 := Aside0.mk (hO3.below (below_drew (Below.refl _ _)))
    have LN3 := Aside0.mk (hN3.below (below_drew (Below.refl _ _)))
    clear hHeld HL1 HL2 HL3 Bg9 hg9 hbw hk hO3 hN3 HO2 HN2 bx b9 hgg
    go_wp2
    refine start_ (n := 28) (S := fun w' => w'.heap[g9]? = some (.cells #[.slice C3 out.length c3, .slice (pa D1) nx.on.length (pd d1), .int .i64 nx.after, .int .i64 nx.limit, .bool more, .int .i64 er] 59 (0, 0)) ∧ (∀ i, w'.cell? ⟨g9, i, none⟩ = (#[.slice C3 out.length c3, .slice (pa D1) nx.on.length (pd d1), .int .i64 nx.after, .int .i64 nx.limit, .bool more, .int .i64 er] : Array Value)[i]?) ∧ w'.heap[w2.heap.size]? = some (.cells #[.slice D nx.on.length d2, .int .i64 nx.after, .int .i64 nx.limit] 50 (0, 0)) ∧ (∀ i, w'.cell? ⟨w2.heap.size, i, none⟩ = (#[.slice D nx.on.length d2, .int .i64 nx.after, .int .i64 nx.limit] : Array Value)[i]?) ∧ Below W5.heap.size W5 w') (ds := []) #[false, false, false, false, false, false, false, false, false, false, false, false, false, false, false, false, false, false, false, false, false, false, false, false, false, false, false, false] (by kernel_rfl) rfl rfl ⟨hG.out, (fun i => blk_cell hG.out i), bxx.out, (fun i => blk_cell bxx.out i), below_drew (Below.refl _ _)⟩ (fun hHeld => ?_)
    refine one_ (i := 0) (N := some 29) #[true, false, false, false, false, false, false, false, false, false, false, false, false, false, false, false, false, false, false, false, false, false, false, false, false, false, false, false] rfl rfl (by kernel_rfl) (by decide) (fun K hK => ?_)
    refine goes_ Try.func25 (by kernel_rfl) rfl #[] (by rfl) rfl rfl (by simp only [List.map_toArray, List.map_nil]) ?_
    with_reducible refine (HAw.out _).mono ?_
    rintro e w20 ⟨rfl, hb⟩
    refine ⟨_, rfl, ?_⟩
    have LO2 := Aside0.mk (LO2.out.below hb)
    have LN2 := Aside0.mk (LN2.out.below hb)
    have LO3 := Aside0.mk (LO3.out.below hb)
    have LN3 := Aside0.mk (LN3.out.below hb)
    refine hK.out _ _ ⟨blk_keep hb hHeld.1, (fun i => blk_cell (blk_keep hb hHeld.1) i), blk_keep hb hHeld.2.2.1, (fun i => blk_cell (blk_keep hb hHeld.2.2.1) i), via hHeld.2.2.2.2 hb⟩ (fun hHeld => ?_)
    clear hK K
    refine norm_ (a' := ?_) ?_ ?_
    rotate_left
    · show Act.put _ (some 29) _ = _
      simp only [Act.put, List.setIfInBounds_toArray, List.set_cons_zero, List.set_cons_succ, i64_w, i32_w]
      rfl
    refine pure_ (i := 1) (N := some 30) (v := ?_) (a' := ?_) #[true, true, false, false, false, false, false, false, false, false, false, false, false, false, false, false, false, false, false, false, false, false, false, false, false, false, false, false] rfl rfl (by kernel_rfl) (fun _ _ _ h => h) (Or.inl ⟨by rfl, ?_⟩) ?_ ?_
    rotate_left
    · intro w'
      go_simp
      with_reducible rfl
    rotate_left
    · simp only [Act.put, List.setIfInBounds_toArray, List.set_cons_zero, List.set_cons_succ, i64_w, i32_w]
      rfl
    refine pure_ (i := 2) (N := some 31) (v := ?_) (a' := ?_) #[true, true, true, false, false, false, false, false, false, false, false, false, false, false, false, false, false, false, false, false, false, false, false, false, false, false, false, false] rfl rfl (by kernel_rfl) (fun _ _ _ h => h) (Or.inl ⟨by rfl, ?_⟩) ?_ ?_
    rotate_left
    · intro w'
      go_simp
      with_reducible rfl
    rotate_left
    · simp only [Act.put, List.setIfInBounds_toArray, List.set_cons_zero, List.set_cons_succ, i64_w, i32_w]
      rfl
    refine pure_ (i := 4) (N := some 33) (v := ?_) (a' := ?_) #[true, true, true, false, true, false, false, false, false, false, false, false, false, false, false, false, false, false, false, false, false, false, false, false, false, false, false, false] rfl rfl (by kernel_rfl) (fun _ _ _ h => h) (Or.inl ⟨by rfl, ?_⟩) ?_ ?_
    rotate_left
    · intro w'
      go_simp
      with_reducible rfl
    rotate_left
    · simp only [Act.put, List.setIfInBounds_toArray, List.set_cons_zero, List.set_cons_succ, i64_w, i32_w]
      rfl
    refine take_ (i := 5) (N := some 34) (v := ?_) (a' := ?_) #[true, true, true, false, true, true, false, false, false, false, false, false, false, false, false, false, false, false, false, false, false, false, false, false, false, false, false, false] rfl rfl (by kernel_rfl) (fun _ _ _ h => h) (Or.inl ⟨by rfl, ?_⟩) hHeld ?_ ?_
    rotate_left
    · rintro w' ⟨s0, s1, s2, s3, s4⟩
      go_simp
      with_reducible rfl
    rotate_left
    · simp only [Act.put, List.setIfInBounds_toArray, List.set_cons_zero, List.set_cons_succ, i64_w, i32_w]
      rfl
    refine one_ (i := 3) (N := some 32) #[true, true, true, true, true, true, false, false, false, false, false, false, false, false, false, false, false, false, false, false, false, false, false, false, false, false, false, false] rfl rfl (by kernel_rfl) (by decide) (fun K hK => ?_)
    refine goes_ Try.func28 (by kernel_rfl) rfl #[.slice C out.length c2] (by rfl) rfl rfl (by simp only [List.map_toArray, List.map_cons, List.map_nil]; rfl) ?_
    with_reducible refine (HR.out _ _ out _ hol LO2.out).mono ?_
    rintro e w21 ⟨C5, c5, rfl, ho5, hs5, hb⟩
    refine ⟨_, rfl, ?_⟩
    have LO2 := Aside0.mk (LO2.out.below hb)
    have LN2 := Aside0.mk (LN2.out.below hb)
    have LO3 := Aside0.mk (LO3.out.below hb)
    have LN3 := Aside0.mk (LN3.out.below hb)
    have HL5 : Aside0 (Sl kPair w21 C5 c5 out) := ⟨hs5⟩
    refine hK.out _ _ ⟨blk_keep hb hHeld.1, (fun i => blk_cell (blk_keep hb hHeld.1) i), blk_keep hb hHeld.2.2.1, (fun i => blk_cell (blk_keep hb hHeld.2.2.1) i), via hHeld.2.2.2.2 hb⟩ (fun hHeld => ?_)
    clear hK K
    refine norm_ (a' := ?_) ?_ ?_
    rotate_left
    · show Act.put _ (some 32) _ = _
      simp only [Act.put, List.setIfInBounds_toArray, List.set_cons_zero, List.set_cons_succ, i64_w, i32_w]
      rfl
    refine one_ (i := 6) (N := some 35) #[true, true, true, true, true, true, true, false, false, false, false, false, false, false, false, false, false, false, false, false, false, false, false, false, false, false, false, false] rfl rfl (by kernel_rfl) (by decide) (fun K hK => ?_)
    refine goes_ Try.func30 (by kernel_rfl) rfl #[.slice C5 out.length c5, .slice C3 out.length c3] (by rfl) rfl rfl (by simp only [List.map_toArray, List.map_cons, List.map_nil]; rfl) ?_
    with_reducible refine (HS5.out _ _ _ _ _ HL5.out LO3.out.sl2).mono ?_
    rintro e w22 ⟨rfl, hb⟩
    refine ⟨_, rfl, ?_⟩
    have LO2 := Aside0.mk (LO2.out.below hb)
    have LN2 := Aside0.mk (LN2.out.below hb)
    have LO3 := Aside0.mk (LO3.out.below hb)
    have LN3 := Aside0.mk (LN3.out.below hb)
    have HL5 := Aside0.mk (HL5.out.below hb)
    refine hK.out _ _ ⟨blk_keep hb hHeld.1, (fun i => blk_cell (blk_keep hb hHeld.1) i), blk_keep hb hHeld.2.2.1, (fun i => blk_cell (blk_keep hb hHeld.2.2.1) i), via hHeld.2.2.2.2 hb⟩ (fun hHeld => ?_)
    clear hK K
    refine norm_ (a' := ?_) ?_ ?_
    rotate_left
    · show Act.put _ (some 35) _ = _
      simp only [Act.put, List.setIfInBounds_toArray, List.set_cons_zero, List.set_cons_succ, i64_w, i32_w]
      rfl
    refine pure_ (i := 7) (N := some 36) (v := ?_) (a' := ?_) #[true, true, true, true, true, true, true, true, false, false, false, false, false, false, false, false, false, false, false, false, false, false, false, false, false, false, false, false] rfl rfl (by kernel_rfl) (fun _ _ _ h => h) (Or.inl ⟨by rfl, ?_⟩) ?_ ?_
    rotate_left
    · intro w'
      go_simp
      with_reducible rfl
    rotate_left
    · simp only [Act.put, List.setIfInBounds_toArray, List.set_cons_zero, List.set_cons_succ, i64_w, i32_w]
      rfl
    refine pure_ (i := 8) (N := some 37) (v := ?_) (a' := ?_) #[true, true, true, true, true, true, true, true, true, false, false, false, false, false, false, false, false, false, false, false, false, false, false, false, false, false, false, false] rfl rfl (by kernel_rfl) (fun _ _ _ h => h) (Or.inl ⟨by rfl, ?_⟩) ?_ ?_
    rotate_left
    · intro w'
      go_simp
      with_reducible rfl
    rotate_left
    · simp only [Act.put, List.setIfInBounds_toArray, List.set_cons_zero, List.set_cons_succ, i64_w, i32_w]
      rfl
    refine pure_ (i := 11) (N := some 40) (v := ?_) (a' := ?_) #[true, true, true, true, true, true, true, true, true, false, false, true, false, false, false, false, false, false, false, false, false, false, false, false, false, false, false, false] rfl rfl (by kernel_rfl) (fun _ _ _ h => h) (Or.inl ⟨by rfl, ?_⟩) ?_ ?_
    rotate_left
    · intro w'
      go_simp
      with_reducible rfl
    rotate_left
    · simp only [Act.put, List.setIfInBounds_toArray, List.set_cons_zero, List.set_cons_succ, i64_w, i32_w]
      rfl
    refine take_ (i := 9) (N := some 38) (v := ?_) (a' := ?_) #[true, true, true, true, true, true, true, true, true, true, false, true, false, false, false, false, false, false, false, false, false, false, false, false, false, false, false, false] rfl rfl (by kernel_rfl) (fun _ _ _ h => h) (Or.inl ⟨by rfl, ?_⟩) hHeld ?_ ?_
    rotate_left
    · rintro w' ⟨s0, s1, s2, s3, s4⟩
      go_simp
      with_reducible rfl
    rotate_left
    · simp only [Act.put, List.setIfInBounds_toArray, List.set_cons_zero, List.set_cons_succ, i64_w, i32_w]
      rfl
    refine take_ (i := 12) (N := some 41) (v := ?_) (a' := ?_) #[true, true, true, true, true, true, true, true, true, true, false, true, true, false, false, false, false, false, false, false, false, false, false, false, false, false, false, false] rfl rfl (by kernel_rfl) (fun _ _ _ h => h) (Or.inl ⟨by rfl, ?_⟩) hHeld ?_ ?_
    rotate_left
    · rintro w' ⟨s0, s1, s2, s3, s4⟩
      go_simp
      with_reducible rfl
    rotate_left
    · simp only [Act.put, List.setIfInBounds_toArray, List.set_cons_zero, List.set_cons_succ, i64_w, i32_w]
      rfl
    refine one_ (i := 10) (N := some 39) #[true, true, true, true, true, true, true, true, true, true, true, true, true, false, false, false, false, false, false, false, false, false, false, false, false, false, false, false] rfl rfl (by kernel_rfl) (by decide) (fun K hK => ?_)
    refine goes_ Try.func29 (by kernel_rfl) rfl #[vCur D d2 nx] (by rfl) rfl rfl (by simp only [List.map_toArray, List.map_cons, List.map_nil]; rfl) ?_
    with_reducible refine (HC.out _ _ nx _ hnl LN2.out).mono ?_
    rintro e w23 ⟨D6, d6, rfl, ho6, hb⟩
    refine ⟨_, rfl, ?_⟩
    have LO2 := Aside0.mk (LO2.out.below hb)
    have LN2 := Aside0.mk (LN2.out.below hb)
    have LO3 := Aside0.mk (LO3.out.below hb)
    have LN3 := Aside0.mk (LN3.out.below hb)
    have HL5 := Aside0.mk (HL5.out.below hb)
    have HL6 : Aside0 (Sl kSpan w23 D6 d6 nx.on) := ⟨ho6.sl2⟩
    refine hK.out _ _ ⟨blk_keep hb hHeld.1, (fun i => blk_cell (blk_keep hb hHeld.1) i), blk_keep hb hHeld.2.2.1, (fun i => blk_cell (blk_keep hb hHeld.2.2.1) i), via hHeld.2.2.2.2 hb⟩ (fun hHeld => ?_)
    clear hK K
    refine norm_ (a' := ?_) ?_ ?_
    rotate_left
    · show Act.put _ (some 39) _ = _
      simp only [Act.put, List.setIfInBounds_toArray, List.set_cons_zero, List.set_cons_succ, i64_w, i32_w]
      rfl
    refine one_ (i := 13) (N := some 42) #[true, true, true, true, true, true, true, true, true, true, true, true, true, true, false, false, false, false, false, false, false, false, false, false, false, false, false, false] rfl rfl (by kernel_rfl) (by decide) (fun K hK => ?_)
    refine goes_ Try.func31 (by kernel_rfl) rfl #[vCur D6 d6 nx, vCur (pa D1) (pd d1) nx] (by rfl) rfl rfl (by simp only [List.map_toArray, List.map_cons, List.map_nil]; rfl) ?_
    with_reducible refine (HS2.out _ _ _ _ _ HL6.out LN3.out.sl2).mono ?_
    rintro e w24 ⟨rfl, hb⟩
    refine ⟨_, rfl, ?_⟩
    have LO2 := Aside0.mk (LO2.out.below hb)
    have LN2 := Aside0.mk (LN2.out.below hb)
    have LO3 := Aside0.mk (LO3.out.below hb)
    have LN3 := Aside0.mk (LN3.out.below hb)
    have HL5 := Aside0.mk (HL5.out.below hb)
    have HL6 := Aside0.mk (HL6.out.below hb)
    refine hK.out _ _ ⟨blk_keep hb hHeld.1, (fun i => blk_cell (blk_keep hb hHeld.1) i), blk_keep hb hHeld.2.2.1, (fun i => blk_cell (blk_keep hb hHeld.2.2.1) i), via hHeld.2.2.2.2 hb⟩ (fun hHeld => ?_)
    clear hK K
    refine norm_ (a' := ?_) ?_ ?_
    rotate_left
    · show Act.put _ (some 42) _ = _
      simp only [Act.put, List.setIfInBounds_toArray, List.set_cons_zero, List.set_cons_succ, i64_w, i32_w]
      rfl
    refine pure_ (i := 14) (N := some 43) (v := ?_) (a' := ?_) #[true, true, true, true, true, true, true, true, true, true, true, true, true, true, true, false, false, false, false, false, false, false, false, false, false, false, false, false] rfl rfl (by kernel_rfl) (fun _ _ _ h => h) (Or.inl ⟨by rfl, ?_⟩) ?_ ?_
    rotate_left
    · intro w'
      go_simp
      with_reducible rfl
    rotate_left
    · simp only [Act.put, List.setIfInBounds_toArray, List.set_cons_zero, List.set_cons_succ, i64_w, i32_w]
      rfl
    refine pure_ (i := 15) (N := some 44) (v := ?_) (a' := ?_) #[true, true, true, true, true, true, true, true, true, true, true, true, true, true, true, true, false, false, false, false, false, false, false, false, false, false, false, false] rfl rfl (by kernel_rfl) (fun _ _ _ h => h) (Or.inl ⟨by rfl, ?_⟩) ?_ ?_
    rotate_left
    · intro w'
      go_simp
      with_reducible rfl
    rotate_left
    · simp only [Act.put, List.setIfInBounds_toArray, List.set_cons_zero, List.set_cons_succ, i64_w, i32_w]
      rfl
    refine pure_ (i := 16) (N := some 45) (v := ?_) (a' := ?_) #[true, true, true, true, true, true, true, true, true, true, true, true, true, true, true, true, true, false, false, false, false, false, false, false, false, false, false, false] rfl rfl (by kernel_rfl) (fun _ _ _ h => h) (Or.inl ⟨by rfl, ?_⟩) ?_ ?_
    rotate_left
    · intro w'
      go_simp
      with_reducible rfl
    rotate_left
    · simp only [Act.put, List.setIfInBounds_toArray, List.set_cons_zero, List.set_cons_succ, i64_w, i32_w]
      rfl
    refine pure_ (i := 17) (N := some 46) (v := ?_) (a' := ?_) #[true, true, true, true, true, true, true, true, true, true, true, true, true, true, true, true, true, true, false, false, false, false, false, false, false, false, false, false] rfl rfl (by kernel_rfl) (fun _ _ _ h => h) (Or.inl ⟨by rfl, ?_⟩) ?_ ?_
    rotate_left
    · intro w'
      go_simp
      with_reducible rfl
    rotate_left
    · simp only [Act.put, List.setIfInBounds_toArray, List.set_cons_zero, List.set_cons_succ, i64_w, i32_w]
      rfl
    refine take_ (i := 18) (N := some 47) (v := ?_) (a' := ?_) #[true, true, true, true, true, true, true, true, true, true, true, true, true, true, true, true, true, true, true, false, false, false, false, false, false, false, false, false] rfl rfl (by kernel_rfl) (fun _ _ _ h => h) (Or.inl ⟨by rfl, ?_⟩) hHeld ?_ ?_
    rotate_left
    · rintro w' ⟨s0, s1, s2, s3, s4⟩
      go_simp
      with_reducible rfl
    rotate_left
    · simp only [Act.put, List.setIfInBounds_toArray, List.set_cons_zero, List.set_cons_succ, i64_w, i32_w]
      rfl
    refine pure_ (i := 19) (N := some 48) (v := ?_) (a' := ?_) #[true, true, true, true, true, true, true, true, true, true, true, true, true, true, true, true, true, true, true, true, false, false, false, false, false, false, false, false] rfl rfl (by kernel_rfl) (fun _ _ _ h => h) (Or.inl ⟨by rfl, ?_⟩) ?_ ?_
    rotate_left
    · intro w'
      go_simp
      with_reducible rfl
    rotate_left
    · simp only [Act.put, List.setIfInBounds_toArray, List.set_cons_zero, List.set_cons_succ, i64_w, i32_w]
      rfl
    refine pure_ (i := 20) (N := some 49) (v := ?_) (a' := ?_) #[true, true, true, true, true, true, true, true, true, true, true, true, true, true, true, true, true, true, true, true, true, false, false, false, false, false, false, false] rfl rfl (by kernel_rfl) (fun _ _ _ h => h) (Or.inl ⟨by rfl, ?_⟩) ?_ ?_
    rotate_left
    · intro w'
      go_simp
      with_reducible rfl
    rotate_left
    · simp only [Act.put, List.setIfInBounds_toArray, List.set_cons_zero, List.set_cons_succ, i64_w, i32_w]
      rfl
    refine pure_ (i := 21) (N := some 50) (v := ?_) (a' := ?_) #[true, true, true, true, true, true, true, true, true, true, true, true, true, true, true, true, true, true, true, true, true, true, false, false, false, false, false, false] rfl rfl (by kernel_rfl) (fun _ _ _ h => h) (Or.inl ⟨by rfl, ?_⟩) ?_ ?_
    rotate_left
    · intro w'
      go_simp
      with_reducible rfl
    rotate_left
    · simp only [Act.put, List.setIfInBounds_toArray, List.set_cons_zero, List.set_cons_succ, i64_w, i32_w]
      rfl
    refine pure_ (i := 22) (N := some 51) (v := ?_) (a' := ?_) #[true, true, true, true, true, true, true, true, true, true, true, true, true, true, true, true, true, true, true, true, true, true, true, false, false, false, false, false] rfl rfl (by kernel_rfl) (fun _ _ _ h => h) (Or.inl ⟨by rfl, ?_⟩) ?_ ?_
    rotate_left
    · intro w'
      go_simp
      with_reducible rfl
    rotate_left
    · simp only [Act.put, List.setIfInBounds_toArray, List.set_cons_zero, List.set_cons_succ, i64_w, i32_w]
      rfl
    refine pure_ (i := 23) (N := some 52) (v := ?_) (a' := ?_) #[true, true, true, true, true, true, true, true, true, true, true, true, true, true, true, true, true, true, true, true, true, true, true, true, false, false, false, false] rfl rfl (by kernel_rfl) (fun _ _ _ h => h) (Or.inl ⟨by rfl, ?_⟩) ?_ ?_
    rotate_left
    · intro w'
      go_simp
      with_reducible rfl
    rotate_left
    · simp only [Act.put, List.setIfInBounds_toArray, List.set_cons_zero, List.set_cons_succ, i64_w, i32_w]
      rfl
    refine take_ (i := 24) (N := some 53) (v := ?_) (a' := ?_) #[true, true, true, true, true, true, true, true, true, true, true, true, true, true, true, true, true, true, true, true, true, true, true, true, true, false, false, false] rfl rfl (by kernel_rfl) (fun _ _ _ h => h) (Or.inl ⟨by rfl, ?_⟩) hHeld ?_ ?_
    rotate_left
    · rintro w' ⟨s0, s1, s2, s3, s4⟩
      go_simp
      with_reducible rfl
    rotate_left
    · simp only [Act.put, List.setIfInBounds_toArray, List.set_cons_zero, List.set_cons_succ, i64_w, i32_w]
      rfl
    refine pure_ (i := 25) (N := some 54) (v := ?_) (a' := ?_) #[true, true, true, true, true, true, true, true, true, true, true, true, true, true, true, true, true, true, true, true, true, true, true, true, true, true, false, false] rfl rfl (by kernel_rfl) (fun _ _ _ h => h) (Or.inl ⟨by rfl, ?_⟩) ?_ ?_
    rotate_left
    · intro w'
      go_simp
      with_reducible rfl
    rotate_left
    · simp only [Act.put, List.setIfInBounds_toArray, List.set_cons_zero, List.set_cons_succ, i64_w, i32_w]
      rfl
    refine pure_ (i := 26) (N := some 55) (v := ?_) (a' := ?_) #[true, true, true, true, true, true, true, true, true, true, true, true, true, true, true, true, true, true, true, true, true, true, true, true, true, true, true, false] rfl rfl (by kernel_rfl) (fun _ _ _ h => h) (Or.inl ⟨by rfl, ?_⟩) ?_ ?_
    rotate_left
    · intro w'
      go_simp
      with_reducible rfl
    rotate_left
    · simp only [Act.put, List.setIfInBounds_toArray, List.set_cons_zero, List.set_cons_succ, i64_w, i32_w]
      rfl
    refine pure_ (i := 27) (N := some 4) (v := ?_) (a' := ?_) #[true, true, true, true, true, true, true, true, true, true, true, true, true, true, true, true, true, true, true, true, true, true, true, true, true, true, true, true] rfl rfl (by kernel_rfl) (fun _ _ _ h => h) (Or.inl ⟨by rfl, ?_⟩) ?_ ?_
    rotate_left
    · intro w'
      go_simp
      with_reducible rfl
    rotate_left
    · simp only [Act.put, List.setIfInBounds_toArray, List.set_cons_zero, List.set_cons_succ, i64_w, i32_w]
      rfl
    refine done_ (by kernel_rfl) ?_

    go_wp2
    go_ret
    exact ⟨rfl, via (via hX9.out hBB.out) hHeld.2.2.2.2⟩

end Go.Proofs.Ytoeipkjpgbdioaa
