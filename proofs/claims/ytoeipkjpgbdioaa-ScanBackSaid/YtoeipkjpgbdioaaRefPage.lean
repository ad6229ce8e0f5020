/- The reference's Page and its comparison of cursors. -/
import Derived.Test.YtoeipkjpgbdioaaGroups
import Derived.Test.YtoeipkjpgbdioaaWLast
import Derived.Test.YtoeipkjpgbdioaaBoxes
set_option linter.unusedVariables false
set_option linter.unusedSimpArgs false
namespace Go.Proofs.Ytoeipkjpgbdioaa
open Go.RowKit Go.Shelf Go.Proofs.YtoeipkjpgbdioaaW.PrintWords Go.Proofs.YtoeipkjpgbdioaaW.PrintLast

theorem Cursor_eq (x y : Cursor) : decide (x = y) = ((x.after == y.after) && ((x.limit == y.limit) && decide (x.on = y.on))) := by
  obtain ⟨a, b, c⟩ := x
  obtain ⟨a', b', c'⟩ := y
  rw [Bool.eq_iff_iff]
  simp only [decide_eq_true_eq, Bool.and_eq_true, beq_iff_eq, Cursor.mk.injEq]
  constructor
  · rintro ⟨a, b, c⟩; exact ⟨b, c, a⟩
  · rintro ⟨a, b, c⟩; exact ⟨c, a, b⟩
set_option maxHeartbeats 1000000 in
theorem ref22_Same (A B : Option Addr) (c d : Nat) (x y : Cursor) (w : World) (hx : Sl kSpan w A c x.on) (hy : Sl kSpan w B d y.on) :
    Calls Try.prog 31 #[vCur A c x, vCur B d y] w fun e w' => e = .returned (.bool (decide (x = y))) ∧ Below w.heap.size w w' := by
  have HS := Aside0.mk (fun W (h : Below w.heap.size w W) => ref03_Same A B c d x.on y.on W (hx.below h) (hy.below h))
  rw [Cursor_eq]
  clear hx hy
  go_enter Try.func31, Try.ntmps31
  go_wp2_with (go_at_call 97; refine (HS.out _ (by repeat (with_reducible (first | exact Below.refl _ _ | exact Aside0.out (by assumption) | apply below_alloc | apply pw_below_drewN | apply below_drew | refine below_set ?_ (by (first | omega | (simp; done) | (simp; omega))) | refine via ?_ (Aside0.out (by assumption)))))).mono ?_; rintro e w1 ⟨rfl, hb⟩; have HB := Aside0.mk hb; clear hb)
  all_goals (go_ret; exact ⟨by simp [*], (by repeat (with_reducible (first | exact Below.refl _ _ | exact Aside0.out (by assumption) | apply below_alloc | apply pw_below_drewN | apply below_drew | refine below_set ?_ (by (first | omega | (simp; done) | (simp; omega))) | refine via ?_ (Aside0.out (by assumption)))))⟩)

def rpq (x : Cursor) (p : Pair) : Bool := decide (x.after < p.key) && has x.on p.key
def lastKey (a : Int) (m : List Pair) : Int := match m.getLast? with | some p => p.key | none => a
def rpAll (l : List Pair) (x : Cursor) : List Pair := l.filter (rpq x)
def rpOut (l : List Pair) (x : Cursor) : List Pair := (rpAll l x).take x.limit.toNat
def rpMore (l : List Pair) (x : Cursor) : Bool := decide (x.limit.toNat < (rpAll l x).length)
abbrev vPaged (C : Option Addr) (n c : Nat) (D : Option Addr) (m d : Nat) (after limit : Int) (more : Bool) (e : Int) : Value := .agg #[.slice C n c, .slice D m d, .int .i64 after, .int .i64 limit, .bool more, .int .i64 e]

set_option maxHeartbeats 2000000 in
theorem ref22_Page_bad (A B : Option Addr) (c d : Nat) (l : List Pair) (x : Cursor) (w : World) (hr : Sl kPair w A c l) (hs : Sl kSpan w B d x.on) (hbad : pgBad l x = true) :
    Calls Try.prog 27 #[.slice A l.length c, vCur B d x] w fun e w' => e = .returned (vPaged none 0 0 none 0 0 0 0 false 1) ∧ Below w.heap.size w w' := by
  have HC := Aside0.mk (fun W (h : Below w.heap.size w W) => ref05_Check A c l W (hr.below h))
  have HD := Aside0.mk (fun W (h : Below w.heap.size w W) => ref22_Check B d x W (hs.below h))
  clear hr hs
  cases e1 : isTable l with
  | false =>
    rw [e1] at HC
    clear e1 hbad
    go_enter Try.func27, Try.ntmps27
    go_wp2_with (first | (go_at_call 94; refine calls_box2 ?_; intro W0 hX hb0 hb1; have HX := Aside0.mk hX; have b0 := Aside0.mk hb0; have b1 := Aside0.mk hb1; clear hX hb0 hb1; have HQ := Aside0.mk (Below.refl W0.heap.size W0); refine (HC.out _ (by repeat (with_reducible (first | exact Below.refl _ _ | exact Aside0.out (by assumption) | apply below_alloc | apply pw_below_drewN | apply below_drew | refine below_set ?_ (by (first | omega | (simp; done) | (simp; omega))) | refine via ?_ (Aside0.out (by assumption)))))).mono ?_; rintro e w1 ⟨rfl, hb⟩; have hq := via HQ.out hb; clear HQ hb; have HQ := Aside0.mk hq; (try clear x0 x1 x2 y0 y1 y2); obtain ⟨x0, x1, x2⟩ := box_later hq b0.out; obtain ⟨y0, y1, y2⟩ := box_later hq b1.out; clear hq) | (go_at_call 95; refine (HD.out _ (by repeat (with_reducible (first | exact Below.refl _ _ | exact Aside0.out (by assumption) | apply below_alloc | apply pw_below_drewN | apply below_drew | refine below_set ?_ (by (first | omega | (simp; done) | (simp; omega))) | refine via ?_ (Aside0.out (by assumption)))))).mono ?_; rintro e w2 ⟨rfl, hb⟩; have hq := via HQ.out hb; clear HQ hb; have HQ := Aside0.mk hq; (try clear x0 x1 x2 y0 y1 y2); obtain ⟨x0, x1, x2⟩ := box_later hq b0.out; obtain ⟨y0, y1, y2⟩ := box_later hq b1.out; clear hq))
    have BK := (HQ.out.block _ (blk_lt b1.out)).trans b1.out
    have z1 := blk_cell (blk_set (blk_set (blk_set (blk_set (blk_set (blk_set BK 0 (.slice none 0 0)) 1 (.slice none 0 0)) 2 (.int .i64 0)) 3 (.int .i64 0)) 4 (.bool false)) 5 (.int .i64 1))
    clear x0 x1 x2 y0 y1 y2 BK
    have HB := Aside0.mk (via HX.out HQ.out)
    refine bodyPost_ret (v := vPaged none 0 0 none 0 0 0 0 false 1) (by simp [results, Try.results27, go_sem, z1]) rfl ⟨rfl, ?_⟩
    exact (by repeat (with_reducible (first | exact Below.refl _ _ | exact Aside0.out (by assumption) | apply below_alloc | apply pw_below_drewN | apply below_drew | refine below_set ?_ (by (first | omega | (simp; done) | (simp; omega))) | refine via ?_ (Aside0.out (by assumption)))))
  | true =>
    have e2 : okCur x = false := by
      cases h : okCur x with
      | false => rfl
      | true => simp [pgBad, e1, h] at hbad
    rw [e1] at HC
    rw [e2] at HD
    clear e1 e2 hbad
    go_enter Try.func27, Try.ntmps27
    go_wp2_with (first | (go_at_call 94; refine calls_box2 ?_; intro W0 hX hb0 hb1; have HX := Aside0.mk hX; have b0 := Aside0.mk hb0; have b1 := Aside0.mk hb1; clear hX hb0 hb1; have HQ := Aside0.mk (Below.refl W0.heap.size W0); refine (HC.out _ (by repeat (with_reducible (first | exact Below.refl _ _ | exact Aside0.out (by assumption) | apply below_alloc | apply pw_below_drewN | apply below_drew | refine below_set ?_ (by (first | omega | (simp; done) | (simp; omega))) | refine via ?_ (Aside0.out (by assumption)))))).mono ?_; rintro e w1 ⟨rfl, hb⟩; have hq := via HQ.out hb; clear HQ hb; have HQ := Aside0.mk hq; (try clear x0 x1 x2 y0 y1 y2); obtain ⟨x0, x1, x2⟩ := box_later hq b0.out; obtain ⟨y0, y1, y2⟩ := box_later hq b1.out; clear hq) | (go_at_call 95; refine (HD.out _ (by repeat (with_reducible (first | exact Below.refl _ _ | exact Aside0.out (by assumption) | apply below_alloc | apply pw_below_drewN | apply below_drew | refine below_set ?_ (by (first | omega | (simp; done) | (simp; omega))) | refine via ?_ (Aside0.out (by assumption)))))).mono ?_; rintro e w2 ⟨rfl, hb⟩; have hq := via HQ.out hb; clear HQ hb; have HQ := Aside0.mk hq; (try clear x0 x1 x2 y0 y1 y2); obtain ⟨x0, x1, x2⟩ := box_later hq b0.out; obtain ⟨y0, y1, y2⟩ := box_later hq b1.out; clear hq))
    have BK := (HQ.out.block _ (blk_lt b1.out)).trans b1.out
    have z1 := blk_cell (blk_set (blk_set (blk_set (blk_set (blk_set (blk_set BK 0 (.slice none 0 0)) 1 (.slice none 0 0)) 2 (.int .i64 0)) 3 (.int .i64 0)) 4 (.bool false)) 5 (.int .i64 1))
    clear x0 x1 x2 y0 y1 y2 BK
    have HB := Aside0.mk (via HX.out HQ.out)
    refine bodyPost_ret (v := vPaged none 0 0 none 0 0 0 0 false 1) (by simp [results, Try.results27, go_sem, z1]) rfl ⟨rfl, ?_⟩
    exact (by repeat (with_reducible (first | exact Below.refl _ _ | exact Aside0.out (by assumption) | apply below_alloc | apply pw_below_drewN | apply below_drew | refine below_set ?_ (by (first | omega | (simp; done) | (simp; omega))) | refine via ?_ (Aside0.out (by assumption)))))

theorem filter_step {l : List Pair} {q : Pair → Bool} {k : Nat} (h : k < l.length) (b : Bool) (e : q l[k] = b) : (l.take (k + 1)).filter q = if b = true then (l.take k).filter q ++ [l[k]] else (l.take k).filter q := by
  rw [clip_step h, e]
theorem lastKey_snoc (a : Int) (m : List Pair) (p : Pair) : lastKey a (m ++ [p]) = p.key := by simp [lastKey]

set_option maxRecDepth 100000 in
set_option maxHeartbeats 4000000 in
theorem ref22_Page_good (A B : Option Addr) (c d : Nat) (l : List Pair) (x : Cursor) (w : World) (hr : Sl kPair w A c l) (hs : Sl kSpan w B d x.on) (hbig : l.length ≤ 1000000) (hgood : pgBad l x = false) :
    Calls Try.prog 27 #[.slice A l.length c, vCur B d x] w fun e w' => ∃ C c', e = .returned (vPaged C (rpOut l x).length c' B x.on.length d (lastKey x.after (rpOut l x)) x.limit (rpMore l x) 0) ∧ Own kPair 172 w' w.heap.size (.slice C (rpOut l x).length c') (rpOut l x) ∧ Below w.heap.size w w' := by
  have e1 : isTable l = true := by
    cases h : isTable l with
    | true => rfl
    | false => simp [pgBad, h] at hgood
  have e2 : okCur x = true := by
    cases h : okCur x with
    | true => rfl
    | false => simp [pgBad, h] at hgood
  have hon : 1 ≤ x.limit ∧ x.limit ≤ 500 := by simp [okCur] at e2; omega
  obtain ⟨hl0, hl1⟩ := hon
  have HC := Aside0.mk (fun W (h : Below w.heap.size w W) => ref05_Check A c l W (hr.below h))
  have HD := Aside0.mk (fun W (h : Below w.heap.size w W) => ref22_Check B d x W (hs.below h))
  rw [e1] at HC
  rw [e2] at HD
  have HR := Aside0.mk hr
  have HS := Aside0.mk hs
  clear hr hs e1 e2 hgood
  have HA := Aside0.mk (show rpAll l x = l.filter (rpq x) from rfl)
  have HO := Aside0.mk (show rpOut l x = (rpAll l x).take x.limit.toNat from rfl)
  have HM := Aside0.mk (show rpMore l x = decide (x.limit.toNat < (rpAll l x).length) from rfl)
  generalize rpOut l x = out at *
  generalize rpMore l x = more at *
  have hq := Aside0.mk (show ∀ p, rpq x p = (decide (x.after < p.key) && has x.on p.key) from fun _ => rfl)
  generalize rpAll l x = ys at *
  generalize rpq x = q at *
  obtain ⟨on, af, li⟩ := x
  obtain ⟨n, rfl⟩ : ∃ n : Nat, li = (n : Int) := Int.eq_ofNat_of_zero_le (by simp at hl0; omega)
  simp only [Int.toNat_natCast] at *
  go_enter Try.func27, Try.ntmps27
  go_wp2_with (first | (go_at_call 94; refine calls_box2 ?_; intro W0 hX hb0 hb1; have HX := Aside0.mk hX; have b0 := Aside0.mk hb0; have b1 := Aside0.mk hb1; clear hX hb0 hb1; have HQ := Aside0.mk (Below.refl W0.heap.size W0); refine (HC.out _ (by repeat (with_reducible (first | exact Below.refl _ _ | exact Aside0.out (by assumption) | apply below_alloc | apply pw_below_drewN | apply below_drew | refine below_set ?_ (by (first | omega | (simp; done) | (simp; omega))) | refine via ?_ (Aside0.out (by assumption)))))).mono ?_; rintro e w1 ⟨rfl, hb⟩; have hq := via HQ.out hb; clear HQ hb; have HQ := Aside0.mk hq; (try clear x0 x1 x2 y0 y1 y2); obtain ⟨x0, x1, x2⟩ := box_later hq b0.out; obtain ⟨y0, y1, y2⟩ := box_later hq b1.out; clear hq) | (go_at_call 95; refine (HD.out _ (by repeat (with_reducible (first | exact Below.refl _ _ | exact Aside0.out (by assumption) | apply below_alloc | apply pw_below_drewN | apply below_drew | refine below_set ?_ (by (first | omega | (simp; done) | (simp; omega))) | refine via ?_ (Aside0.out (by assumption)))))).mono ?_; rintro e w2 ⟨rfl, hb⟩; have hq := via HQ.out hb; clear HQ hb; have HQ := Aside0.mk hq; (try clear x0 x1 x2 y0 y1 y2); obtain ⟨x0, x1, x2⟩ := box_later hq b0.out; obtain ⟨y0, y1, y2⟩ := box_later hq b1.out; clear hq))
  have G0 := Aside0.mk (box_top w2 (.cells #[.slice none 0 0, .slice B on.length d, .int .i64 af, .int .i64 n, .bool false, .int .i64 0] 59))
  have HI := Aside0.mk (fun W (h : Below w2.heap.size w2 W) => And.intro (blk_keep (via HQ.out h) b0.out) (blk_keep (via HQ.out h) b1.out))
  have hg := y2
  have hBX := Aside0.mk HX.out
  clear x0 x1 x2 y0 y1 y2 HC HD b0 b1
  have HX := Aside0.mk (via HX.out HQ.out)
  go_loopw [6] (fun i wr => ∃ (k : Nat) (v : Value), k ≤ l.length ∧ ((l.take k).filter q).length ≤ n ∧ i = .int .i64 k ∧ Aside0 (wr.heap[w2.heap.size]? = some (.cells #[v, .slice B on.length d, .int .i64 (lastKey af ((l.take k).filter q)), .int .i64 n, .bool false, .int .i64 0] 59 (0, 0))) ∧ Aside0 (Own kPair 172 wr (w2.heap.size + 1) v ((l.take k).filter q)) ∧ w2.heap.size + 1 ≤ wr.heap.size ∧ Aside0 (Below w2.heap.size w2 wr)) (fun i _ => l.length - (intOf i).toNat)
  case atStart => exact ⟨0, _, by omega, by simp, rfl, G0, ⟨Own.nil _ _ _ _⟩, by simp, ⟨below_alloc (Below.refl _ _) _⟩⟩
  case round =>
    obtain ⟨k, v, hk, hn, rfl, hG, hO, hsz, hB⟩ := hrel
    have hBw := Aside0.mk (via HX.out hB.out)
    generalize hF : (l.take k).filter q = F at *
    by_cases hlt : k < l.length
    · obtain ⟨ad, rfl, e0, e1⟩ := pair_at HR.out k hlt
      have c0 := pw_cell_below hBw.out e0
      have c1 := pw_cell_below hBw.out e1
      have hal := World.block_lt_of_cell? w _ e0
      clear e0 e1
      obtain ⟨C, c', rfl, hSv⟩ := hO.out.sl
      have hmx := hSv.max
      have hSv := Aside0.mk hSv
      obtain ⟨hx, hy⟩ := HI.out _ hB.out
      have HX := Aside0.mk hx
      have HY := Aside0.mk hy
      have x0 := blk_cell hx
      clear hx hy
      have g1 := blk_cell hG.out
      have g2 := blk_frozen hG.out
      have g3 := blk_lt hG.out
      have HH := Aside0.mk (fun W (h : Below wr.heap.size wr W) => ref03_Has B d on l[k].key W (HS.out.below (via hBw.out h)))
      by_cases h1 : l[k].key ≤ af
      · have d1 : decide (l[k].key ≤ af) = true := decide_eq_true h1
        have hn1 := Aside0.mk (show (l.take (k + 1)).filter q = F by rw [filter_step hlt false (by rw [hq.out]; simp; omega)]; exact hF)
        have hF := Aside0.mk hF
        clear h1
        go_wp2
        go_quiet (fail)
        go_wp2
        go_roundw
        case rel => exact ⟨k + 1, _, by omega, by rw [hn1.out]; omega, by go_num, ⟨by rw [hn1.out]; exact hG.out⟩, ⟨by rw [hn1.out]; exact hO.out.below (pw_below_drewN (Below.refl _ _) _)⟩, by simpa using hsz, ⟨(by repeat (with_reducible (first | exact Below.refl _ _ | exact Aside0.out (by assumption) | apply below_alloc | apply pw_below_drewN | apply below_drew | refine below_set ?_ (by (first | omega | (simp; done) | (simp; omega))) | refine via ?_ (Aside0.out (by assumption)))))⟩⟩
        case measure => simp [intOf]; omega
      · have d1 : decide (l[k].key ≤ af) = false := decide_eq_false h1
        cases e3 : has on l[k].key with
        | false =>
          have hn1 := Aside0.mk (show (l.take (k + 1)).filter q = F by rw [filter_step hlt false (by rw [hq.out, e3]; simp)]; exact hF)
          rw [e3] at HH
          clear e3 h1 hF
          have c0' := bw_cell (w := wr) (h := c0)
          have x0' := bw_box HX.out
          go_wp2
          refine wp_region_bw (by kernel_rfl) (by kernel_rfl) ?_
          repeat (go_big_quiet_step ((go_at_call 96; exact bw_calls _ (HH.out _ (BW.h _)))))
          refine wpQuiet_nil ?_
          intro W1 hw'
          obtain ⟨⟨W1_, hW1⟩, hw''⟩ := hw'
          subst hw''
          go_wp2
          go_roundw
          case rel => exact ⟨k + 1, _, by omega, by rw [hn1.out]; omega, by go_num, ⟨by rw [hn1.out]; exact (hW1.block _ g3).trans hG.out⟩, ⟨by rw [hn1.out]; exact hO.out.below hW1⟩, by have := hW1.size; omega, ⟨via hB.out hW1⟩⟩
          case measure => simp [intOf]; omega
        | true =>
          have hq1 : q l[k] = true := by rw [hq.out, e3]; simp; omega
          have hn1 := Aside0.mk (show (l.take (k + 1)).filter q = F ++ [l[k]] by rw [filter_step hlt true hq1, hF]; rfl)
          rw [e3] at HH
          have c0' := bw_cell (w := wr) (h := c0)
          have x0' := bw_box HX.out
          by_cases hfull : F.length = n
          · have t1 : ((F.length : Int) == (n : Int)) = true := by simp; omega
            have t2 : (F.length == n) = true := by simp; omega
            have hys : ys = F ++ (l.drop k).filter q := by rw [HA.out, ← hF, ← List.filter_append, List.take_append_drop]
            have ho1 : out = F := by rw [HO.out, hys, List.take_append_of_le_length (by omega), List.take_of_length_le (by omega)]
            have hm1 : more = true := by
              rw [HM.out, hys, decide_eq_true_eq, List.length_append, List.drop_eq_getElem_cons hlt, List.filter_cons_of_pos hq1]
              simp; omega
            have HO1 := Aside0.mk ho1
            have HM1 := Aside0.mk hm1
            clear e3 h1 hF hq1 hys ho1 hm1 hfull
            go_wp2
            refine wp_region_bw (by kernel_rfl) (by kernel_rfl) ?_
            repeat (go_big_quiet_step ((go_at_call 96; exact bw_calls _ (HH.out _ (BW.h _)))))
            refine wpQuiet_nil ?_
            intro W1 hw'
            obtain ⟨⟨W1_, hW1⟩, hw''⟩ := hw'
            subst hw''
            have hg1 := blk_keep hW1 hG.out
            have hy1 := blk_keep hW1 HY.out
            have z0 := blk_cell hg1
            have z6 := blk_cell (blk_keep hW1 HX.out)
            have z1 := blk_frozen hg1
            have z2 := blk_frozen hy1
            have z3 := blk_lt hy1
            have z4 := blk_lt hg1
            have z5 := blk_cell hy1
            have ne : ¬ w.heap.size + 1 = w2.heap.size := by omega
            have ne' : ¬ w2.heap.size = w.heap.size + 1 := by omega
            go_wp2
            have q1 := blk_cell (blk_set (blk_set (blk_set (blk_set (blk_set (blk_set (blk_far hy1 (p := ⟨w2.heap.size, 4, none⟩) ne (.bool true)) 0 (.slice C F.length c')) 1 (.slice B on.length d)) 2 (.int .i64 (lastKey af F))) 3 (.int .i64 n)) 4 (.bool true)) 5 (.int .i64 0))
            have HO2 := Aside0.mk (hO.out.below hW1)
            have HB2 := Aside0.mk (via hBw.out hW1)
            have hX2 := hBX.out.size
            clear z0 z6 z1 z2 z3 z4 z5 x0 c0' x0' g1 g2 c0 c1 hg1 hy1
            refine bodyPost_ret (v := vPaged C F.length c' B on.length d (lastKey af F) n true 0) (by simp [results, Try.results27, go_sem, q1]) rfl ⟨C, c', by rw [HO1.out, HM1.out], ?_, ?_⟩
            · rw [HO1.out]
              refine Own.lower (base := w2.heap.size + 1) ?_ (by omega)
              repeat (with_reducible refine Own.sets ?_ (by omega) _ _)
              exact HO2.out
            · repeat (with_reducible refine below_set ?_ (by omega))
              exact HB2.out
          · have t1 : ((F.length : Int) == (n : Int)) = false := by simp; omega
            have t2 : (F.length == n) = false := by simp; omega
            have hlk := Aside0.mk (lastKey_snoc af F l[k])
            have hF := Aside0.mk hF
            clear e3 h1 hq1
            go_wp2
            refine wp_region_bw (by kernel_rfl) (by kernel_rfl) ?_
            repeat (go_big_quiet_step ((go_at_call 96; exact bw_calls _ (HH.out _ (BW.h _)))))
            refine wpQuiet_nil ?_
            intro W1 hw'
            obtain ⟨⟨W1_, hW1⟩, hw''⟩ := hw'
            subst hw''
            have hg1 := blk_keep hW1 hG.out
            have z0 := blk_cell hg1
            have z1 := blk_frozen hg1
            have z6 := blk_cell (blk_keep hW1 HX.out)
            have hG1 := Aside0.mk hg1
            have HO2 := Aside0.mk (hO.out.below hW1)
            have HBx := Aside0.mk (via hB.out hW1)
            have hsz1 := hW1.size
            have c0 := pw_cell_below hW1 c0
            have c1 := pw_cell_below hW1 c1
            have hX2 := hBX.out.size
            have nb : ¬ (ad.add (k * 2)).block = w2.heap.size := by omega
            have nb_ : ¬ w2.heap.size = (ad.add (k * 2)).block := by omega
            clear hg1
            go_wp2
            refine start_ (n := 10) (S := fun w' => w'.cell? (ad.add (k * 2)) = some (.int .i64 l[k].key) ∧ w'.cell? ⟨(ad.add (k * 2)).block, (ad.add (k * 2)).off + 1, none⟩ = some (.int .i64 l[k].val) ∧ w'.cell? ⟨w2.heap.size, 0, none⟩ = some (.slice C F.length c') ∧ Below W1.heap.size W1 w') (ds := [7, 9]) #[false, false, false, false, false, false, false, false, false, false] (by kernel_rfl) rfl rfl ⟨c0, c1, z0 0, below_drew (Below.refl _ _)⟩ (fun hHeld => ?_)
            refine pure_ (i := 0) (N := some 51) (v := ?_) (a' := ?_) #[true, false, false, false, false, false, false, false, false, false] rfl rfl (by kernel_rfl) (fun _ _ _ h => h) (Or.inl ⟨by rfl, ?_⟩) ?_ ?_
            rotate_left
            · intro w'
              go_simp
              with_reducible rfl
            rotate_left
            · simp only [Act.put, List.setIfInBounds_toArray, List.set_cons_zero, List.set_cons_succ, i64_w, i32_w]
              rfl
            refine pure_ (i := 2) (N := some 53) (v := ?_) (a' := ?_) #[true, false, true, false, false, false, false, false, false, false] rfl rfl (by kernel_rfl) (fun _ _ _ h => h) (Or.inl ⟨by rfl, ?_⟩) ?_ ?_
            rotate_left
            · intro w'
              go_simp
              with_reducible rfl
            rotate_left
            · simp only [Act.put, List.setIfInBounds_toArray, List.set_cons_zero, List.set_cons_succ, i64_w, i32_w]
              rfl
            refine pure_ (i := 3) (N := some 54) (v := ?_) (a' := ?_) #[true, false, true, true, false, false, false, false, false, false] rfl rfl (by kernel_rfl) (fun _ _ _ h => h) (Or.inl ⟨by rfl, ?_⟩) ?_ ?_
            rotate_left
            · intro w'
              go_simp
              with_reducible rfl
            rotate_left
            · simp only [Act.put, List.setIfInBounds_toArray, List.set_cons_zero, List.set_cons_succ, i64_w, i32_w]
              rfl
            refine pure_ (i := 4) (N := some 55) (v := ?_) (a' := ?_) #[true, false, true, true, true, false, false, false, false, false] rfl rfl (by kernel_rfl) (fun _ _ _ h => h) (Or.inl ⟨by rfl, ?_⟩) ?_ ?_
            rotate_left
            · intro w'
              go_simp
              with_reducible rfl
            rotate_left
            · simp only [Act.put, List.setIfInBounds_toArray, List.set_cons_zero, List.set_cons_succ, i64_w, i32_w]
              rfl
            refine take_ (i := 1) (N := some 52) (v := ?_) (a' := ?_) #[true, true, true, true, true, false, false, false, false, false] rfl rfl (by kernel_rfl) (fun _ _ _ h => h) (Or.inl ⟨by rfl, ?_⟩) hHeld ?_ ?_
            rotate_left
            · rintro w' ⟨s0, s1, s2, s3⟩
              go_simp
              with_reducible rfl
            rotate_left
            · simp only [Act.put, List.setIfInBounds_toArray, List.set_cons_zero, List.set_cons_succ, i64_w, i32_w]
              rfl
            refine take_ (i := 5) (N := some 56) (v := ?_) (a' := ?_) #[true, true, true, true, true, true, false, false, false, false] rfl rfl (by kernel_rfl) (fun _ _ _ h => h) (Or.inl ⟨by rfl, ?_⟩) hHeld ?_ ?_
            rotate_left
            · rintro w' ⟨s0, s1, s2, s3⟩
              go_simp
              with_reducible rfl
            rotate_left
            · simp only [Act.put, List.setIfInBounds_toArray, List.set_cons_zero, List.set_cons_succ, i64_w, i32_w]
              rfl
            refine one_ (i := 6) (N := some 57) #[true, true, true, true, true, true, true, false, false, false] rfl rfl (by kernel_rfl) (by decide) (fun K hK => ?_)
            have hHO := Aside0.mk (HO2.out.below hHeld.2.2.2)
            have hHB := Aside0.mk hHeld.2.2.2
            refine value_ (w1 := ?_) (v := ?_) (by rfl) rfl ?_ ?_
            rotate_left 2
            · go_simp
              constructor
              · rfl
              · rfl
            refine hK.out _ _ ⟨later hHeld.1 _, later hHeld.2.1 _, later hHeld.2.2.1 _, below_alloc hHeld.2.2.2 _⟩ (fun hHeld => ?_)
            clear hK K
            refine norm_ (a' := ?_) ?_ ?_
            rotate_left
            · show Act.put _ (some 57) _ = _
              simp only [Act.put, List.setIfInBounds_toArray, List.set_cons_zero, List.set_cons_succ, i64_w, i32_w]
              rfl
            refine last_ (i := 7) (N := some 58) #[true, true, true, true, true, true, true, true, false, false] rfl rfl (by kernel_rfl) (by decide) (fun K hK => ?_)
            refine own_append_step (w0 := _) (w2.heap.size + 1) (by rfl) (.tmp 52) (.tmp 57) 54 172 (.agg #[.int .i64 0, .int .i64 0]) 16 rfl Try.underlying54 info172 rfl (by decide) (by omega) (.slice C F.length c') F l[k] rfl rfl hHO.out (Below.refl _ _) (by have := hHB.out.size; omega) (by omega) ?_
            intro v1 w6 ho hb hs
            obtain ⟨C6, c6, rfl, hs6⟩ := ho.sl
            have HO6 := Aside0.mk ho
            have hb6 := Aside0.mk (via_m (m := w2.heap.size + 1) (below_less hHB.out (by omega)) hb (Nat.le_refl _))
            have hb7 := Aside0.mk (via_m HBx.out (below_less hb6.out (by omega)) (Nat.le_refl _))
            have hg6 := blk_same hb6.out (by omega) hG1.out
            have e6 := pw_cell_same hb6.out (by omega) c0
            have n1 : (⟨w2.heap.size, 0, none⟩ : Addr) ≠ ad.add (k * 2) := fun e => nb_ (congrArg Addr.block e)
            have e7 : (w6.setCell ⟨w2.heap.size, 0, none⟩ (.slice C6 (F.length + 1) c6)).cell? (ad.add (k * 2)) = some (.int .i64 l[k].key) := (World.cell?_setCell_other _ _ _ _ n1).trans e6
            have q0 := blk_cell hg6
            have q1 := blk_frozen hg6
            have q2 := blk_lt hg6
            have hG6 := Aside0.mk hg6
            clear ho hb hg6 hs6
            refine hK.out _ _ ?_
            clear hK K
            refine norm_ (a' := ?_) ?_ ?_
            rotate_left
            · show Act.put _ (some 58) _ = _
              simp only [Act.put, List.setIfInBounds_toArray, List.set_cons_zero, List.set_cons_succ, i64_w, i32_w]
              rfl
            refine pure_ (i := 8) (N := some 59) (v := ?_) (a' := ?_) #[true, true, true, true, true, true, true, true, true, false] rfl rfl (by kernel_rfl) (fun _ _ _ h => h) (Or.inl ⟨by rfl, ?_⟩) ?_ ?_
            rotate_left
            · intro w'
              go_simp
              with_reducible rfl
            rotate_left
            · simp only [Act.put, List.setIfInBounds_toArray, List.set_cons_zero, List.set_cons_succ, i64_w, i32_w]
              rfl
            refine last_ (i := 9) (N := none) #[true, true, true, true, true, true, true, true, true, true] rfl rfl (by kernel_rfl) (by decide) (fun K hK => ?_)
            refine skip_ (w1 := ?_) (by rfl) rfl ?_ ?_
            rotate_left
            · go_simp
              rfl
            refine hK.out _ _ ?_
            clear hK K
            refine done_ (by kernel_rfl) ?_

            go_wp2
            have hB9 := Aside0.mk (via_m (m := w2.heap.size) HBx.out (below_less hb6.out (by omega)) (Nat.le_refl _))
            have hs7 : W1.heap.size ≤ w6.heap.size := hs
            have hgs := blk_set (blk_set hG6.out 0 (.slice C6 (F.length + 1) c6)) 2 (.int .i64 l[k].key)
            have hgo := Aside0.mk hgs
            clear hgs q0 q1 q2 z0 z1 z6 x0 g1 g2 c0 c1
            go_roundw
            case rel =>
              refine ⟨k + 1, .slice C6 (F.length + 1) c6, by omega, by rw [hn1.out]; simp; omega, by go_num, ⟨?_⟩, ⟨?_⟩, by simp; omega, ⟨?_⟩⟩
              · rw [hn1.out, hlk.out]; exact hgo.out
              · rw [hn1.out]
                repeat (with_reducible refine Own.sets ?_ (by omega) _ _)
                have ho6 := HO6.out
                simp only [List.length_append, List.length_singleton] at ho6
                exact ho6
              · repeat (with_reducible refine below_set ?_ (by omega))
                exact hB9.out
            case measure => simp [intOf]; omega
    · obtain ⟨C, c', rfl, hSv⟩ := hO.out.sl
      have hke : k = l.length := by omega
      have hys : ys = F := by rw [HA.out, ← hF, hke, List.take_length]
      have ho1 := Aside0.mk (show out = F by rw [HO.out, hys, List.take_of_length_le hn])
      have hm1 := Aside0.mk (show more = false by rw [HM.out, hys, decide_eq_false_iff_not]; omega)
      have hX2 := hBX.out.size
      obtain ⟨hx, hy⟩ := HI.out _ hB.out
      have HY := Aside0.mk hy
      have g1 := blk_cell hG.out
      have z2 := blk_frozen hy
      have z3 := blk_lt hy
      have z5 := blk_cell hy
      clear hx hy hys hF
      go_wp2
      have q1 := blk_cell (blk_set (blk_set (blk_set (blk_set (blk_set (blk_set HY.out 0 (.slice C F.length c')) 1 (.slice B on.length d)) 2 (.int .i64 (lastKey af F))) 3 (.int .i64 n)) 4 (.bool false)) 5 (.int .i64 0))
      clear g1 z2 z3 z5
      refine bodyPost_ret (v := vPaged C F.length c' B on.length d (lastKey af F) n false 0) (by simp [results, Try.results27, go_sem, q1]) rfl ⟨C, c', by rw [ho1.out, hm1.out], ?_, ?_⟩
      · rw [ho1.out]
        refine Own.lower (base := w2.heap.size + 1) ?_ (by omega)
        repeat (with_reducible refine Own.sets ?_ (by omega) _ _)
        exact hO.out
      · repeat (with_reducible refine below_set ?_ (by omega))
        exact hBw.out

end Go.Proofs.Ytoeipkjpgbdioaa
