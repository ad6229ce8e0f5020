/- The reference's Groups: by counting row after row; what it has in common with the groups of neighbours. -/
import Derived.Test.YtoeipkjpgbdioaaRefGroups
set_option linter.unusedVariables false
set_option linter.unusedSimpArgs false
namespace Go.Proofs.Ytoeipkjpgbdioaa
open Go.RowKit Go.Shelf Go.Proofs.YtoeipkjpgbdioaaW.PrintWords Go.Proofs.YtoeipkjpgbdioaaW.PrintLast

def inRow (wd : Int) (on : List Span) (f : Int) (p : Pair) : Bool := (decide (f ≤ p.key) && decide (p.key - f < wd)) && has on p.key
def rowF (wd : Int) (l : List Pair) (on : List Span) (f : Int) : List Pair := l.filter (inRow wd on f)
def rgN (wd : Int) (l : List Pair) (on : List Span) : Nat → List Group
  | 0 => []
  | m + 1 => rgN wd l on m ++ (if (rowF wd l on (m * wd)).length = 0 then [] else [foldG (m * wd) (rowF wd l on (m * wd))])
theorem rgN_length (wd : Int) (l : List Pair) (on : List Span) : ∀ m, (rgN wd l on m).length ≤ m
  | 0 => Nat.le_refl _
  | m + 1 => by
    have := rgN_length wd l on m
    unfold rgN
    split <;> simp <;> omega
theorem filter_step2 {l : List Pair} {q : Pair → Bool} {k : Nat} (h : k < l.length) (b : Bool) (e : q l[k] = b) : (l.take (k + 1)).filter q = if b = true then (l.take k).filter q ++ [l[k]] else (l.take k).filter q := by
  rw [clip_step h, e]
theorem info77 : (Try.prog.info? 77).map (fun i => (i.zero, i.size, i.bytes)) = some (some (.agg #[.int .i64 0, .int .i64 0, .int .i64 0, .int .i64 0, .int .i64 0]), 5, 40) := by kernel_rfl

set_option maxHeartbeats 2000000 in
theorem ref22_Groups_bad (A B : Option Addr) (c d : Nat) (l : List Pair) (on : List Span) (wd : Int) (w : World) (hr : Sl kPair w A c l) (hs : Sl kSpan w B d on) (hbad : gBad l on wd = true) :
    Calls Try.prog 36 #[.slice A l.length c, .slice B on.length d, .int .i64 wd] w fun e w' => e = .returned (.tuple #[.slice none 0 0, .int .i64 1]) ∧ Below w.heap.size w w' := by
  have HC := Aside0.mk (fun W (h : Below w.heap.size w W) => ref05_Check A c l W (hr.below h))
  have HD := Aside0.mk (fun W (h : Below w.heap.size w W) => ref03_Check B d on W (hs.below h))
  clear hr hs
  cases e1 : isTable l with
  | false =>
    rw [e1] at HC
    clear e1 hbad
    go_enter Try.func36, Try.ntmps36
    go_wp2_with (first | (go_at_call 94; refine (HC.out _ (by repeat (with_reducible (first | exact Below.refl _ _ | exact Aside0.out (by assumption) | apply below_alloc | apply pw_below_drewN | apply below_drew | refine below_set ?_ (by (first | omega | (simp; done) | (simp; omega))) | refine via ?_ (Aside0.out (by assumption)))))).mono ?_; rintro e w1 ⟨rfl, hb⟩; have HB := Aside0.mk hb; clear hb) | (go_at_call 48; refine (HD.out _ (by repeat (with_reducible (first | exact Below.refl _ _ | exact Aside0.out (by assumption) | apply below_alloc | apply pw_below_drewN | apply below_drew | refine below_set ?_ (by (first | omega | (simp; done) | (simp; omega))) | refine via ?_ (Aside0.out (by assumption)))))).mono ?_; rintro e w2 ⟨rfl, hb⟩; have HB2 := Aside0.mk (via HB.out hb); clear hb))
    go_ret2
    exact ⟨rfl, HB.out⟩
  | true =>
    rw [e1] at HC
    cases e2 : isSet on with
    | false =>
      rw [e2] at HD
      clear e1 e2 hbad
      go_enter Try.func36, Try.ntmps36
      go_wp2_with (first | (go_at_call 94; refine (HC.out _ (by repeat (with_reducible (first | exact Below.refl _ _ | exact Aside0.out (by assumption) | apply below_alloc | apply pw_below_drewN | apply below_drew | refine below_set ?_ (by (first | omega | (simp; done) | (simp; omega))) | refine via ?_ (Aside0.out (by assumption)))))).mono ?_; rintro e w1 ⟨rfl, hb⟩; have HB := Aside0.mk hb; clear hb) | (go_at_call 48; refine (HD.out _ (by repeat (with_reducible (first | exact Below.refl _ _ | exact Aside0.out (by assumption) | apply below_alloc | apply pw_below_drewN | apply below_drew | refine below_set ?_ (by (first | omega | (simp; done) | (simp; omega))) | refine via ?_ (Aside0.out (by assumption)))))).mono ?_; rintro e w2 ⟨rfl, hb⟩; have HB2 := Aside0.mk (via HB.out hb); clear hb))
      go_ret2
      exact ⟨rfl, HB2.out⟩
    | true =>
      rw [e2] at HD
      by_cases h1 : wd < 1
      · have t1 : decide (wd < 1) = true := decide_eq_true h1
        clear e1 e2 hbad h1
        go_enter Try.func36, Try.ntmps36
        go_wp2_with (first | (go_at_call 94; refine (HC.out _ (by repeat (with_reducible (first | exact Below.refl _ _ | exact Aside0.out (by assumption) | apply below_alloc | apply pw_below_drewN | apply below_drew | refine below_set ?_ (by (first | omega | (simp; done) | (simp; omega))) | refine via ?_ (Aside0.out (by assumption)))))).mono ?_; rintro e w1 ⟨rfl, hb⟩; have HB := Aside0.mk hb; clear hb) | (go_at_call 48; refine (HD.out _ (by repeat (with_reducible (first | exact Below.refl _ _ | exact Aside0.out (by assumption) | apply below_alloc | apply pw_below_drewN | apply below_drew | refine below_set ?_ (by (first | omega | (simp; done) | (simp; omega))) | refine via ?_ (Aside0.out (by assumption)))))).mono ?_; rintro e w2 ⟨rfl, hb⟩; have HB2 := Aside0.mk (via HB.out hb); clear hb))
        go_ret2
        exact ⟨rfl, HB2.out⟩
      · have t1 : decide (wd < 1) = false := decide_eq_false h1
        have t2 : decide (4096 < wd) = true := by simpa [gBad, e1, e2, h1] using hbad
        clear e1 e2 hbad h1
        go_enter Try.func36, Try.ntmps36
        go_wp2_with (first | (go_at_call 94; refine (HC.out _ (by repeat (with_reducible (first | exact Below.refl _ _ | exact Aside0.out (by assumption) | apply below_alloc | apply pw_below_drewN | apply below_drew | refine below_set ?_ (by (first | omega | (simp; done) | (simp; omega))) | refine via ?_ (Aside0.out (by assumption)))))).mono ?_; rintro e w1 ⟨rfl, hb⟩; have HB := Aside0.mk hb; clear hb) | (go_at_call 48; refine (HD.out _ (by repeat (with_reducible (first | exact Below.refl _ _ | exact Aside0.out (by assumption) | apply below_alloc | apply pw_below_drewN | apply below_drew | refine below_set ?_ (by (first | omega | (simp; done) | (simp; omega))) | refine via ?_ (Aside0.out (by assumption)))))).mono ?_; rintro e w2 ⟨rfl, hb⟩; have HB2 := Aside0.mk (via HB.out hb); clear hb))
        go_ret2
        exact ⟨rfl, HB2.out⟩

set_option maxRecDepth 100000 in
set_option maxHeartbeats 4000000 in
theorem ref22_Groups_good (A B : Option Addr) (c d : Nat) (l : List Pair) (on : List Span) (wd : Int) (w : World) (hr : Sl kPair w A c l) (hs : Sl kSpan w B d on) (hbig : l.length ≤ 1000000) (hgood : gBad l on wd = false) :
    Calls Try.prog 36 #[.slice A l.length c, .slice B on.length d, .int .i64 wd] w fun e w' => ∃ (m : Nat) (C : Option Addr) (c' : Nat), 4096 ≤ (m : Int) * wd ∧ e = .returned (.tuple #[.slice C (rgN wd l on m).length c', .int .i64 0]) ∧ Sl kGroup w' C c' (rgN wd l on m) ∧ Below w.heap.size w w' := by
  have HC := Aside0.mk (fun W (h : Below w.heap.size w W) => ref05_Check A c l W (hr.below h))
  have HD := Aside0.mk (fun W (h : Below w.heap.size w W) => ref03_Check B d on W (hs.below h))
  have e1 : isTable l = true := by
    cases h : isTable l with
    | true => rfl
    | false => simp [gBad, h] at hgood
  have e2 : isSet on = true := by
    cases h : isSet on with
    | true => rfl
    | false => simp [gBad, h] at hgood
  have h1 : 1 ≤ wd ∧ wd ≤ 4096 := by
    simp [gBad, e1, e2] at hgood
    omega
  have t1 : decide (wd < 1) = false := by simp; omega
  have t2 : decide (4096 < wd) = false := by simp; omega
  have hok := Aside0.mk (fun (p : Pair) (h : p ∈ l) => show okPair p = true by
    obtain ⟨i, hi, rfl⟩ := List.getElem_of_mem h
    exact ((chk_iff _ _ _).1 e1).1 i hi)
  rw [e1] at HC
  rw [e2] at HD
  have HR := Aside0.mk hr
  have HS := Aside0.mk hs
  clear hr hs e1 e2 hgood
  obtain ⟨h1, h2⟩ := h1
  go_enter Try.func36, Try.ntmps36
  go_wp2_with (first | (go_at_call 94; refine (HC.out _ (by repeat (with_reducible (first | exact Below.refl _ _ | exact Aside0.out (by assumption) | apply below_alloc | apply pw_below_drewN | apply below_drew | refine below_set ?_ (by (first | omega | (simp; done) | (simp; omega))) | refine via ?_ (Aside0.out (by assumption)))))).mono ?_; rintro e w1 ⟨rfl, hb⟩; have HB := Aside0.mk hb; clear hb) | (go_at_call 48; refine (HD.out _ (by repeat (with_reducible (first | exact Below.refl _ _ | exact Aside0.out (by assumption) | apply below_alloc | apply pw_below_drewN | apply below_drew | refine below_set ?_ (by (first | omega | (simp; done) | (simp; omega))) | refine via ?_ (Aside0.out (by assumption)))))).mono ?_; rintro e w2 ⟨rfl, hb⟩; have HB2 := Aside0.mk (via HB.out hb); clear hb))
  clear HC HD HB
  go_loopw [8, 9] (fun v i wr => ∃ (m : Nat) (f : Int), m ≤ 4096 ∧ 0 ≤ f ∧ f ≤ 8192 ∧ (m : Int) ≤ f ∧ i = .int .i64 f ∧ Aside0 (f = m * wd) ∧ Aside0 (Own kGroup 77 wr w2.heap.size v (rgN wd l on m)) ∧ Aside0 (Below w2.heap.size w2 wr)) (fun _ i _ => (4096 - intOf i).toNat)
  case atStart => exact ⟨0, 0, by omega, by omega, by omega, by omega, rfl, ⟨by simp⟩, ⟨Own.nil _ _ _ _⟩, ⟨Below.refl _ _⟩⟩
  case round =>
    obtain ⟨m, f, hm, hf0, hf1, hmf, rfl, hf, hO, hB⟩ := hrel
    by_cases hlt : f < 4096
    · have t3 : decide (f < 4096) = true := decide_eq_true hlt
      have hlen := rgN_length wd l on m
      have hE := Aside0.mk (show rgN wd l on (m + 1) = rgN wd l on m ++ (if (rowF wd l on f).length = 0 then [] else [foldG f (rowF wd l on f)]) by rw [hf.out]; rfl)
      have hRF := Aside0.mk (show rowF wd l on f = l.filter (inRow wd on f) from rfl)
      have hq := Aside0.mk (show ∀ p, inRow wd on f p = ((decide (f ≤ p.key) && decide (p.key - f < wd)) && has on p.key) from fun _ => rfl)
      have hfs := Aside0.mk (show f + wd = ((m + 1 : Nat) : Int) * wd by rw [hf.out]; push_cast; rw [Int.add_mul, Int.one_mul])
      generalize rgN wd l on m = out at *
      generalize rowF wd l on f = row at *
      generalize inRow wd on f = q at *
      obtain ⟨wo, rfl⟩ : ∃ wo : World, wo = wr := ⟨_, rfl⟩
      go_wp2
      go_loopw [11] (fun i wq => ∃ k : Nat, k ≤ l.length ∧ i = .int .i64 k ∧ Aside0 (wq.heap[wo.heap.size]? = some (.cells #[.int .i64 (foldG f ((l.take k).filter q)).key, .int .i64 (foldG f ((l.take k).filter q)).n, .int .i64 (foldG f ((l.take k).filter q)).sum, .int .i64 (foldG f ((l.take k).filter q)).least, .int .i64 (foldG f ((l.take k).filter q)).most] 77 (0, 0))) ∧ Aside0 (Below wo.heap.size wo wq)) (fun i _ => l.length - (intOf i).toNat)
      case atStart => exact ⟨0, by omega, rfl, ⟨box_top _ _⟩, ⟨below_alloc (Below.refl _ _) _⟩⟩
      case round =>
        obtain ⟨k, hk, rfl, hG, hQ⟩ := hrel
        by_cases hkl : k < l.length
        · have hbw := Aside0.mk (via HB2.out (via hB.out hQ.out))
          obtain ⟨ad, rfl, c0, c1_⟩ := pair_at (HR.out.below hbw.out) k hkl
          have hokk := hok.out l[k] (by simp)
          have hkb := okPair_key hokk
          have hvb := okPair_val hokk
          have hbd := foldG_bounds f ((l.take k).filter q) (by have := filter_take_length l q k; omega) (fun p hp => hok.out p (List.mem_of_mem_take (List.mem_filter.1 hp).1))
          have hst := Aside0.mk (fun b (e : q l[k] = b) => filter_step2 hkl b e)
          have HH := Aside0.mk (fun W (h : Below wr.heap.size wr W) => ref03_Has B d on l[k].key W (HS.out.below (via hbw.out h)))
          have hqk := Aside0.mk (hq.out l[k])
          have hsn := Aside0.mk (foldG_snoc f ((l.take k).filter q) l[k])
          obtain ⟨F, hF⟩ : ∃ F, (l.take k).filter q = F := ⟨_, rfl⟩
          rw [hF] at hG hbd hst hsn
          clear hokk hF
          obtain ⟨hk1, hk2⟩ := hkb
          generalize q l[k] = qk at *
          generalize l[k].key = key at *
          rcases Decidable.em (¬ (f ≤ key)) with hd0 | hd0
          · have d0 : decide (f ≤ key) = false := decide_eq_false hd0
            have hn1 := Aside0.mk (hst.out false (by rw [hqk.out]; simp; omega))
            rw [if_neg (by simp)] at hn1
            go_wp2
            go_roundw
            case rel => exact ⟨k + 1, by omega, by go_num, ⟨by rw [hn1.out]; exact hG.out⟩, hQ⟩
            case measure => simp [intOf]; omega
          · replace hd0 := Decidable.not_not.1 hd0
            have d0 : decide (f ≤ key) = true := decide_eq_true hd0
            rcases Decidable.em (¬ (key - f < wd)) with hd1 | hd1
            · have d1 : decide (key - f < wd) = false := decide_eq_false hd1
              have hn1 := Aside0.mk (hst.out false (by rw [hqk.out]; simp; omega))
              rw [if_neg (by simp)] at hn1
              go_wp2
              go_roundw
              case rel => exact ⟨k + 1, by omega, by go_num, ⟨by rw [hn1.out]; exact hG.out⟩, hQ⟩
              case measure => simp [intOf]; omega
            · replace hd1 := Decidable.not_not.1 hd1
              have d1 : decide (key - f < wd) = true := decide_eq_true hd1
              cases e3 : has on key with
              | false =>
                have hn1 := Aside0.mk (hst.out false (by rw [hqk.out, e3]; simp))
                rw [if_neg (by simp)] at hn1
                rw [e3] at HH
                clear e3
                go_wp2_with (go_at_call 96; refine (HH.out _ (Below.refl _ _)).mono ?_; rintro e w5 ⟨rfl, hb⟩; have HB5 := Aside0.mk hb; clear hb)
                go_roundw
                case rel => exact ⟨k + 1, by omega, by go_num, ⟨by rw [hn1.out]; exact blk_keep HB5.out hG.out⟩, ⟨via hQ.out HB5.out⟩⟩
                case measure => simp [intOf]; omega
              | true =>
                have hn1 := Aside0.mk (hst.out true (by rw [hqk.out, e3]; simp; omega))
                rw [if_pos rfl] at hn1
                rw [e3] at HH
                generalize foldG f F = g at *
                generalize l[k].val = v at *
                have HM := Aside0.mk (fun W => ref22_more g v W hbd.1 hbd.2 hvb)
                clear e3 hbd hvb hst hqk
                go_wp2_with (go_at_call 96; refine (HH.out _ (Below.refl _ _)).mono ?_; rintro e w5 ⟨rfl, hb⟩; have HB5 := Aside0.mk hb; have c1' := pw_cell_below hb c1_; have hG5 := Aside0.mk (blk_keep hb hG.out); clear hb)
                refine start_ (n := 8) (S := fun w' => w'.heap[wo.heap.size]? = some (.cells #[.int .i64 g.key, .int .i64 g.n, .int .i64 g.sum, .int .i64 g.least, .int .i64 g.most] 77 (0, 0)) ∧ (∀ i, w'.cell? ⟨wo.heap.size, i, none⟩ = (#[.int .i64 g.key, .int .i64 g.n, .int .i64 g.sum, .int .i64 g.least, .int .i64 g.most] : Array Value)[i]?) ∧ w'.cell? ⟨(ad.add (k * 2)).block, (ad.add (k * 2)).off + 1, none⟩ = some (.int .i64 v) ∧ Below w5.heap.size w5 w') (ds := [7]) #[false, false, false, false, false, false, false, false] (by kernel_rfl) rfl rfl ⟨hG5.out, (fun i => blk_cell hG5.out i), c1', below_drew (Below.refl _ _)⟩ (fun hHeld => ?_)
                refine pure_ (i := 1) (N := some 69) (v := ?_) (a' := ?_) #[false, true, false, false, false, false, false, false] rfl rfl (by kernel_rfl) (fun _ _ _ h => h) (Or.inl ⟨by rfl, ?_⟩) ?_ ?_
                rotate_left
                · intro w'
                  go_simp
                  with_reducible rfl
                rotate_left
                · simp only [Act.put, List.setIfInBounds_toArray, List.set_cons_zero, List.set_cons_succ, i64_w, i32_w]
                  rfl
                refine pure_ (i := 2) (N := some 70) (v := ?_) (a' := ?_) #[false, true, true, false, false, false, false, false] rfl rfl (by kernel_rfl) (fun _ _ _ h => h) (Or.inl ⟨by rfl, ?_⟩) ?_ ?_
                rotate_left
                · intro w'
                  go_simp
                  with_reducible rfl
                rotate_left
                · simp only [Act.put, List.setIfInBounds_toArray, List.set_cons_zero, List.set_cons_succ, i64_w, i32_w]
                  rfl
                refine pure_ (i := 3) (N := some 71) (v := ?_) (a' := ?_) #[false, true, true, true, false, false, false, false] rfl rfl (by kernel_rfl) (fun _ _ _ h => h) (Or.inl ⟨by rfl, ?_⟩) ?_ ?_
                rotate_left
                · intro w'
                  go_simp
                  with_reducible rfl
                rotate_left
                · simp only [Act.put, List.setIfInBounds_toArray, List.set_cons_zero, List.set_cons_succ, i64_w, i32_w]
                  rfl
                refine pure_ (i := 4) (N := some 72) (v := ?_) (a' := ?_) #[false, true, true, true, true, false, false, false] rfl rfl (by kernel_rfl) (fun _ _ _ h => h) (Or.inl ⟨by rfl, ?_⟩) ?_ ?_
                rotate_left
                · intro w'
                  go_simp
                  with_reducible rfl
                rotate_left
                · simp only [Act.put, List.setIfInBounds_toArray, List.set_cons_zero, List.set_cons_succ, i64_w, i32_w]
                  rfl
                refine take_ (i := 0) (N := some 68) (v := ?_) (a' := ?_) #[true, true, true, true, true, false, false, false] rfl rfl (by kernel_rfl) (fun _ _ _ h => h) (Or.inl ⟨by rfl, ?_⟩) hHeld ?_ ?_
                rotate_left
                · rintro w' ⟨s0, s1, s2, s3⟩
                  go_simp
                  with_reducible rfl
                rotate_left
                · simp only [Act.put, List.setIfInBounds_toArray, List.set_cons_zero, List.set_cons_succ, i64_w, i32_w]
                  rfl
                refine take_ (i := 5) (N := some 73) (v := ?_) (a' := ?_) #[true, true, true, true, true, true, false, false] rfl rfl (by kernel_rfl) (fun _ _ _ h => h) (Or.inl ⟨by rfl, ?_⟩) hHeld ?_ ?_
                rotate_left
                · rintro w' ⟨s0, s1, s2, s3⟩
                  go_simp
                  with_reducible rfl
                rotate_left
                · simp only [Act.put, List.setIfInBounds_toArray, List.set_cons_zero, List.set_cons_succ, i64_w, i32_w]
                  rfl
                refine one_ (i := 6) (N := some 74) #[true, true, true, true, true, true, true, false] rfl rfl (by kernel_rfl) (by decide) (fun K hK => ?_)
                refine goes_ Try.func105 (by kernel_rfl) rfl #[vGroup g, .int .i64 v] (by rfl) rfl rfl (by simp only [List.map_toArray, List.map_cons, List.map_nil]; rfl) ?_
                with_reducible refine (HM.out _).mono ?_
                rintro e w6 ⟨rfl, hb⟩
                refine ⟨_, rfl, ?_⟩
                refine hK.out _ _ ⟨blk_keep hb hHeld.1, (fun i => blk_cell (blk_keep hb hHeld.1) i), pw_cell_below hb hHeld.2.2.1, via hHeld.2.2.2 hb⟩ (fun hHeld => ?_)
                clear hK K
                refine norm_ (a' := ?_) ?_ ?_
                rotate_left
                · show Act.put _ (some 74) _ = _
                  simp only [Act.put, List.setIfInBounds_toArray, List.set_cons_zero, List.set_cons_succ, i64_w, i32_w]
                  rfl
                refine last_ (i := 7) (N := none) #[true, true, true, true, true, true, true, true] rfl rfl (by kernel_rfl) (by decide) (fun K hK => ?_)
                have hg5 := hHeld.1
                have q0 := blk_cell hg5
                have q1 := blk_frozen hg5
                have q2 := blk_lt hg5
                have hb5 := hHeld.2.2.2
                refine skip_ (w1 := ?_) (by rfl) rfl ?_ ?_
                rotate_left
                · go_simp
                  rfl
                refine hK.out _ _ ?_
                clear hK K
                refine done_ (by kernel_rfl) ?_

                have hgs := Aside0.mk (blk_set (blk_set (blk_set (blk_set (blk_set hg5 0 (.int .i64 (moreG g v).key)) 1 (.int .i64 (moreG g v).n)) 2 (.int .i64 (moreG g v).sum)) 3 (.int .i64 (moreG g v).least)) 4 (.int .i64 (moreG g v).most))
                have hb6 := Aside0.mk (via (via hQ.out HB5.out) hb5)
                clear q0 q1 q2 hg5 hb5 c0 c1_ c1'
                go_wp2
                go_roundw
                case rel =>
                  refine ⟨k + 1, by omega, by go_num, ⟨?_⟩, ⟨(by repeat (with_reducible (first | exact Below.refl _ _ | exact Aside0.out (by assumption) | apply below_alloc | apply pw_below_drewN | apply below_drew | refine below_set ?_ (by (first | omega | (simp; done) | (simp; omega))) | refine via ?_ (Aside0.out (by assumption)))))⟩⟩
                  rw [hn1.out, hsn.out]
                  exact hgs.out
                case measure => simp [intOf]; omega
        · obtain rfl : k = l.length := by omega
          rw [List.take_length, ← hRF.out] at hG
          have g1 := blk_cell hG.out
          have hn := Aside0.mk (foldG_eq f row)
          have HO1 := Aside0.mk (hO.out.below hQ.out)
          have HBq := Aside0.mk (via hB.out hQ.out)
          by_cases h0 : row.length = 0
          · rw [if_pos h0] at hE
            have t4 : (foldG f row).n = 0 := by rw [hn.out, if_pos h0]
            have T4 := Aside0.mk t4
            have t5 : decide (0 < (foldG f row).n) = false := by simp [t4]
            clear t4 h0
            generalize foldG f row = g at *
            go_wp2
            go_roundw
            case rel => exact ⟨m + 1, f + wd, by omega, by omega, by omega, by omega, rfl, hfs, ⟨by rw [hE.out, List.append_nil]; exact HO1.out⟩, HBq⟩
            case measure => simp [intOf]; omega
          · rw [if_neg h0] at hE
            have t5 : decide (0 < (foldG f row).n) = true := by rw [hn.out, if_neg h0]; simp [grp]; omega
            clear h0
            generalize foldG f row = g at *
            go_wp2_with (at_builtin; go_must (refine own_append (w0 := w2) w2.heap.size rfl (.tmp 78) (.tmp 80) 73 77 (.agg #[.int .i64 0, .int .i64 0, .int .i64 0, .int .i64 0, .int .i64 0]) 40 rfl Try.underlying73 info77 rfl (by decide) (by omega) u8 out g rfl rfl HO1.out HBq.out HBq.out.size (by omega) ?_); intro v1 w7 ho hb hs; have HO7 := Aside0.mk ho; have HB7 := Aside0.mk hb; clear ho hb)
            go_roundw
            case rel => exact ⟨m + 1, f + wd, by omega, by omega, by omega, by omega, rfl, hfs, ⟨by rw [hE.out]; exact HO7.out⟩, HB7⟩
            case measure => simp [intOf]; omega
    · have t3 : decide (f < 4096) = false := decide_eq_false hlt
      obtain ⟨C, c', rfl, hSl⟩ := hO.out.sl
      have hSl := Aside0.mk hSl
      go_wp2
      go_ret2
      exact ⟨m, by rw [← hf.out]; omega, C, c', rfl, hSl.out, via HB2.out hB.out⟩

end Go.Proofs.Ytoeipkjpgbdioaa
