/- scan.Groups. -/
import Derived.Test.YtoeipkjpgbdioaaParted
set_option linter.unusedVariables false
set_option linter.unusedSimpArgs false
namespace Go.Proofs.Ytoeipkjpgbdioaa
open Go.RowKit Go.Shelf Go.Proofs.YtoeipkjpgbdioaaW.PrintWords Go.Proofs.YtoeipkjpgbdioaaW.PrintLast

theorem clip_ok {l : List Pair} {on : List Span} {p : Pair} (h : p ∈ clip l on) : okPair p = true := by
  have h1 := List.mem_filter.1 h
  have h2 : isTable l = true := by
    have h2 := h1.2
    simp only [inClip, Bool.and_eq_true] at h2
    exact h2.1
  obtain ⟨i, hi, rfl⟩ := List.getElem_of_mem h1.1
  exact ((chk_iff _ _ _).1 h2).1 i hi
theorem okPair_key {p : Pair} (h : okPair p = true) : 0 ≤ p.key ∧ p.key < 4096 := by
  simp only [okPair, decide_eq_true_eq] at h
  exact ⟨h.1, h.2.1⟩
def togW (wd : Int) (x y : Pair) : Bool := x.key / wd == y.key / wd
def gAt (wd : Int) (l : List Pair) (p : Nat × Nat) : Group := grp (l[p.1]!.key / wd * wd) ((l.take p.2).drop p.1)
def groups (wd : Int) (l : List Pair) : List Group := (cuts (togW wd) l).map (gAt wd l)
theorem cutsN_good (tog : Pair → Pair → Bool) (l : List Pair) : ∀ n, ∀ p ∈ (cutsN tog l n).1, p.1 < p.2 ∧ p.2 ≤ n
  | 0 => by simp [cutsN]
  | n + 1 => by
    intro p hp
    have h := cutsN_good tog l n
    have h2 := cutsN_le tog l n
    unfold cutsN at hp
    split at hp
    · rcases List.mem_append.1 hp with hp | hp
      · have := h p hp
        omega
      · obtain rfl := List.mem_singleton.1 hp
        simp; omega
    · have := h p hp
      omega
theorem cuts_good {tog : Pair → Pair → Bool} {l : List Pair} {k : Nat} (hk : k < (cuts tog l).length) : (cuts tog l)[k].1 < (cuts tog l)[k].2 ∧ (cuts tog l)[k].2 ≤ l.length := cutsN_good tog l l.length _ (List.getElem_mem hk)
theorem cuts_length (tog : Pair → Pair → Bool) (l : List Pair) : (cuts tog l).length ≤ l.length := (cutsN_le tog l l.length).2
theorem map_take {α β : Type} (f : α → β) (l : List α) (k : Nat) (hk : k < l.length) : (l.take (k + 1)).map f = (l.take k).map f ++ [f l[k]] := by
  rw [List.take_succ_eq_append_getElem hk, List.map_append]
  rfl
theorem info80 : (Try.prog.info? 80).map (fun i => (i.zero, i.size, i.bytes)) = some (some (.agg #[.int .i64 0, .int .i64 0, .int .i64 0, .int .i64 0, .int .i64 0]), 5, 40) := by kernel_rfl

section
variable {P : Program} {ops : Array Oper} {o : Oper} {a : Act} {Q : Exit → Act → World → Prop} {Kc : Act → World → Prop}
theorem own_append_step {α : Type} {sz : Nat} {enc : α → List Value} {hl : ∀ x, (enc x).length = sz} {h1 : ∀ x, ∀ u ∈ enc x, u.oneCell' = true} {w0 W : World} (base : Nat) (hw : Region.wanted o (yielded ops a.tmps) = true) (s x : Operand) (t e : TypeId) (z : Value) (bytes : Nat)
    (ho : o.op = .call { callee := .builtin .append, args := #[s, x], argTypes := #[t, t] })
    (ht : P.underlying t = some (.slice e)) (hinfo : (P.info? e).map (fun i => (i.zero, i.size, i.bytes)) = some (some z, sz, bytes)) (hz : z.cells.size = sz) (hs0 : 0 < sz) (hb0 : 0 < bytes)
    (v : Value) (xs : List α) (p : α) (hs : a.eval s = v) (hx : a.eval x = .slice (some ⟨W.heap.size, 0, none⟩) 1 1)
    (HO : Own (flat sz enc hl h1) e W base v xs) (HB : Below base w0 W) (hbase : base ≤ W.heap.size) (hl2 : (xs.length + 1) * bytes ≤ 140737488355328)
    (h : ∀ v1 w1, Own (flat sz enc hl h1) e w1 base v1 (xs ++ [p]) → Below base w0 w1 → W.heap.size ≤ w1.heap.size → Kc (a.put o.dst v1) w1) :
    if Region.wanted o (yielded ops a.tmps) = true then Oper.wp P o a (W.alloc (.cells (enc p).toArray e)) Kc Q else Kc (a.put o.dst undef) (W.alloc (.cells (enc p).toArray e)) :=
  Kd.R_append_step (flat sz enc hl h1) base hw s x t e z bytes ho ht hinfo hz hs0 hb0 v xs p (enc p) (fun _ => True) (fun _ => False) hs hx rfl (fun _ h => h.elim) (fun _ _ => trivial) HO HB hbase hl2
    (fun v1 w1 h1 h2 h3 _ => h v1 w1 h1 h2 h3.size)
end


def gBad (l : List Pair) (on : List Span) (wd : Int) : Bool := !isTable l || !isSet on || decide (wd < 1) || decide (wd > 4096)
set_option maxHeartbeats 2000000 in
theorem scan_Groups_bad (A B : Option Addr) (c d : Nat) (l : List Pair) (on : List Span) (wd : Int) (w : World) (hr : Sl kPair w A c l) (hs : Sl kSpan w B d on) (hbad : gBad l on wd = true) :
    Calls Try.prog 35 #[.slice A l.length c, .slice B on.length d, .int .i64 wd] w fun e w' => e = .returned (.tuple #[.slice none 0 0, .int .i64 1]) ∧ Below w.heap.size w w' := by
  have HX := Aside0.mk (below_alloc (Below.refl w.heap.size w) (.cells #[.int .i64 wd] 3))
  have k5 := Aside0.mk (show (w.alloc (.cells #[.int .i64 wd] 3)).cell? ⟨w.heap.size, 0, none⟩ = some (.int .i64 wd) by simp)
  have HC := Aside0.mk (table_Check A c l _ (hr.below HX.out))
  have HD := Aside0.mk (fun W (h : Below (w.alloc (.cells #[.int .i64 wd] 3)).heap.size (w.alloc (.cells #[.int .i64 wd] 3)) W) => span_Check B d on W ((hs.below HX.out).below h))
  clear hr hs
  cases e1 : isTable l with
  | false =>
    rw [e1] at HC
    clear e1 hbad
    go_enter Try.func35, Try.ntmps35
    go_wp2_with (go_at_call 88; refine HC.out.mono ?_; rintro e w1 ⟨rfl, hb⟩; have x5 := pw_cell_below hb k5.out; have HB := Aside0.mk hb; clear hb)
    go_ret2
    exact ⟨rfl, below_then HX.out HX.out.size HB.out⟩
  | true =>
    rw [e1] at HC
    cases e2 : isSet on with
    | false =>
      rw [e2] at HD
      clear e1 e2 hbad
      go_enter Try.func35, Try.ntmps35
      go_wp2_with (first | (go_at_call 88; refine HC.out.mono ?_; rintro e w1 ⟨rfl, hb⟩; have x5 := pw_cell_below hb k5.out; have HB := Aside0.mk hb; clear hb) | (go_at_call 101; refine (HD.out _ HB.out).mono ?_; rintro e w2 ⟨rfl, hb⟩; clear x5; have hq := via HB.out hb; have x5 := pw_cell_below hq k5.out; have HB2 := Aside0.mk hq; clear hb hq))
      go_ret2
      exact ⟨rfl, below_then HX.out HX.out.size HB2.out⟩
    | true =>
      rw [e2] at HD
      by_cases h1 : wd < 1
      · have t1 : decide (wd < 1) = true := decide_eq_true h1
        clear e1 e2 hbad h1
        go_enter Try.func35, Try.ntmps35
        go_wp2_with (first | (go_at_call 88; refine HC.out.mono ?_; rintro e w1 ⟨rfl, hb⟩; have x5 := pw_cell_below hb k5.out; have HB := Aside0.mk hb; clear hb) | (go_at_call 101; refine (HD.out _ HB.out).mono ?_; rintro e w2 ⟨rfl, hb⟩; clear x5; have hq := via HB.out hb; have x5 := pw_cell_below hq k5.out; have HB2 := Aside0.mk hq; clear hb hq))
        go_ret2
        exact ⟨rfl, below_then HX.out HX.out.size HB2.out⟩
      · have t1 : decide (wd < 1) = false := decide_eq_false h1
        have t2 : decide (4096 < wd) = true := by simpa [gBad, e1, e2, h1] using hbad
        clear e1 e2 hbad h1
        go_enter Try.func35, Try.ntmps35
        go_wp2_with (first | (go_at_call 88; refine HC.out.mono ?_; rintro e w1 ⟨rfl, hb⟩; have x5 := pw_cell_below hb k5.out; have HB := Aside0.mk hb; clear hb) | (go_at_call 101; refine (HD.out _ HB.out).mono ?_; rintro e w2 ⟨rfl, hb⟩; clear x5; have hq := via HB.out hb; have x5 := pw_cell_below hq k5.out; have HB2 := Aside0.mk hq; clear hb hq))
        go_ret2
        exact ⟨rfl, below_then HX.out HX.out.size HB2.out⟩

set_option maxHeartbeats 4000000 in
set_option maxRecDepth 100000 in
theorem scan_Groups_good (A B : Option Addr) (c d : Nat) (l : List Pair) (on : List Span) (wd : Int) (w : World) (hr : Sl kPair w A c l) (hs : Sl kSpan w B d on) (hbig : l.length ≤ 1000000) (hgood : gBad l on wd = false) :
    Calls Try.prog 35 #[.slice A l.length c, .slice B on.length d, .int .i64 wd] w fun e w' => ∃ C c', e = .returned (.tuple #[.slice C (groups wd (clip l on)).length c', .int .i64 0]) ∧ Own kGroup 80 w' w.heap.size (.slice C (groups wd (clip l on)).length c') (groups wd (clip l on)) ∧ Below w.heap.size w w' := by
  have HX := Aside0.mk (below_alloc (Below.refl w.heap.size w) (.cells #[.int .i64 wd] 3))
  have k5 := Aside0.mk (show (w.alloc (.cells #[.int .i64 wd] 3)).cell? ⟨w.heap.size, 0, none⟩ = some (.int .i64 wd) by simp)
  have HC := Aside0.mk (table_Check A c l _ (hr.below HX.out))
  have HD := Aside0.mk (fun W (h : Below (w.alloc (.cells #[.int .i64 wd] 3)).heap.size (w.alloc (.cells #[.int .i64 wd] 3)) W) => span_Check B d on W ((hs.below HX.out).below h))
  have HE := Aside0.mk (fun W (h : Below (w.alloc (.cells #[.int .i64 wd] 3)).heap.size (w.alloc (.cells #[.int .i64 wd] 3)) W) => calls_own (table_Clip A B c d l on W ((hr.below HX.out).below h) ((hs.below HX.out).below h) hbig))
  have e1 : isTable l = true := by
    cases h : isTable l with
    | true => rfl
    | false => simp [gBad, h] at hgood
  have e2 : isSet on = true := by
    cases h : isSet on with
    | true => rfl
    | false => simp [gBad, h] at hgood
  have h1 : 1 ≤ wd ∧ wd ≤ 4096 := by
    simp [gBad, e1, e2] at hgood
    omega
  have t1 : decide (wd < 1) = false := by simp; omega
  have t2 : decide (4096 < wd) = false := by simp; omega
  have hal : (clip l on).length ≤ 1000000 := by have := clip_length l on; omega
  have hokA := Aside0.mk (fun p (h : p ∈ clip l on) => clip_ok h)
  rw [e1] at HC
  rw [e2] at HD
  clear hr hs e1 e2 hgood
  obtain ⟨h1, h2⟩ := h1
  generalize clip l on = all at *
  by_cases h0 : all.length = 0
  · have t3 : ((all.length : Int) == 0) = true := by simp [h0]
    have E := Aside0.mk (show groups wd all = [] by rw [List.length_eq_zero_iff.1 h0]; rfl)
    clear h0
    go_enter Try.func35, Try.ntmps35
    go_wp2_with (first | (go_at_call 88; refine HC.out.mono ?_; rintro e w1 ⟨rfl, hb⟩; have x5 := pw_cell_below hb k5.out; have HB := Aside0.mk hb; clear hb) | (go_at_call 101; refine (HD.out _ HB.out).mono ?_; rintro e w2 ⟨rfl, hb⟩; clear x5; have hq := via HB.out hb; have x5 := pw_cell_below hq k5.out; have HB2 := Aside0.mk hq; clear hb hq) | (go_at_call 45; refine (HE.out _ HB2.out).mono ?_; rintro e w3 ⟨C, c3, rfl, ho, hs1, hb⟩; have HB3 := Aside0.mk (via HB2.out hb); clear ho hs1 hb))
    go_ret2
    exact ⟨none, 0, by rw [E.out]; rfl, by rw [E.out]; exact Own.nil _ _ _ _, below_then HX.out HX.out.size HB3.out⟩
  · have t3 : ((all.length : Int) == 0) = false := by simp [h0]
    clear h0
    have HW := Aside0.mk (fun C c' W (h : Sl kPair W C c' all) (h5 : W.cell? ⟨w.heap.size, 0, none⟩ = some (.int .i64 wd)) => calls_own (scan_rows C c' all (togW wd) ⟨w.heap.size, 0, none⟩ W h hal (fun x y W' hx hy hW => scan_Groups_1 x y wd _ W' (pw_cell_below hW h5) h1 (okPair_key (hokA.out x hx)) (okPair_key (hokA.out y hy)))))
    go_enter Try.func35, Try.ntmps35
    go_wp2_with (first | (go_at_call 88; refine HC.out.mono ?_; rintro e w1 ⟨rfl, hb⟩; have x5 := pw_cell_below hb k5.out; have HB := Aside0.mk hb; clear hb) | (go_at_call 101; refine (HD.out _ HB.out).mono ?_; rintro e w2 ⟨rfl, hb⟩; clear x5; have hq := via HB.out hb; have x5 := pw_cell_below hq k5.out; have HB2 := Aside0.mk hq; clear hb hq) | (go_at_call 45; refine (HE.out _ HB2.out).mono ?_; rintro e w3 ⟨C, c3, rfl, ho, hs1, hb⟩; have HB3 := Aside0.mk (via HB2.out hb); have HS3 := Aside0.mk hs1; clear ho hs1 hb) | (go_at_call 102; refine (HW.out _ _ _ HS3.out (pw_cell_below HB3.out k5.out)).mono ?_; rintro e w4 ⟨D, c4, rfl, ho, hs1, hb⟩; have HB4 := Aside0.mk (via HB3.out hb); have HS4 := Aside0.mk (HS3.out.below hb); have HV4 := Aside0.mk hs1; clear ho hs1 hb))
    have HCS := Aside0.mk (show groups wd all = (cuts (togW wd) all).map (gAt wd all) from rfl)
    have HGD := Aside0.mk (fun k hk => cuts_good (tog := togW wd) (l := all) (k := k) hk)
    have hcl := cuts_length (togW wd) all
    generalize cuts (togW wd) all = cs at *
    go_loopw [9, 38] (fun v i wr => ∃ k : Nat, k ≤ cs.length ∧ i = .int .i64 k ∧ Aside0 (Own kGroup 80 wr w4.heap.size v ((cs.take k).map (gAt wd all))) ∧ Aside0 (Below w4.heap.size w4 wr)) (fun _ i _ => cs.length - (intOf i).toNat)
    case atStart => exact ⟨0, by omega, rfl, ⟨Own.nil _ _ _ _⟩, ⟨Below.refl _ _⟩⟩
    case round =>
      obtain ⟨k, hk, rfl, hO, hB⟩ := hrel
      by_cases hlt : k < cs.length
      · have hgd := HGD.out k hlt
        have hm := map_take (gAt wd all) cs k hlt
        obtain ⟨va, rfl, v0⟩ := view_at (HV4.out.below hB.out) k hlt
        generalize cs[k] = p at *
        obtain ⟨fr, tt⟩ := p
        dsimp only at hgd v0
        have hSl := HS4.out.below hB.out
        have hlc := hSl.1
        obtain ⟨iP, hi1, hi2⟩ := pairInfo0
        have hsub := (sl_sub (P := Try.prog) (d := kPair) 47 84 Try.underlying47 hi1 hi2 C c3 all fr tt (by omega) (by omega) hlc).2 _ hSl
        rw [if_neg (show ¬ c3 = fr by omega), show kPair.sz = 2 from rfl] at hsub
        clear hi1 hi2
        obtain ⟨row, hrow⟩ : ∃ row, (all.take tt).drop fr = row := ⟨_, rfl⟩
        have hlen : row.length = tt - fr := by rw [← hrow]; simp; omega
        have hr0 : 0 < row.length := by omega
        have hx : all[fr]! = row[0] := by subst hrow; rw [getElem!_pos all fr (by omega)]; simp
        have hg : gAt wd all (fr, tt) = grp (row[0].key / wd * wd) row := by rw [← hx, ← hrow]; rfl
        have hok : ∀ q ∈ row, okPair q = true := fun q hq => hokA.out q (List.mem_of_mem_take (List.mem_of_mem_drop (hrow ▸ hq)))
        rw [hg] at hm
        rw [hrow] at hsub
        generalize C.map (·.add (fr * 2)) = AV at *
        rw [← hlen] at v0
        have hrl : row.length ≤ 1000000 := by omega
        clear hx hg hlen hgd hSl hlc hrow
        have hx := okPair_key (hok row[0] (List.getElem_mem _))
        obtain ⟨av, rfl, c0, _⟩ := pair_at hsub 0 hr0
        rw [show av.add (0 * 2) = av from rfl] at c0
        have HGR := Aside0.mk (fun W (h : Below wr.heap.size wr W) => scan_group (row[0].key / wd * wd) _ _ row W (hsub.below h) hr0 hrl hok)
        have hc5 := pw_cell_below (below_then HB4.out HB4.out.size hB.out) k5.out
        have hm' := Aside0.mk hm
        clear hok hsub hm
        have q0 := quo_key hx h1
        generalize row[0].key = x at *
        have q1 : 0 ≤ x / wd * wd ∧ x / wd * wd ≤ x := ⟨Int.mul_nonneg (Int.ediv_nonneg hx.1 (by omega)) (by omega), Int.ediv_mul_le _ (by omega)⟩
        generalize hky : x / wd * wd = key at *
        have q2 : IntKind.i64.wrap (x / wd * wd) = key := by rw [hky]; exact IntWalk.i64_in _ (by omega)
        have q3 : wrap64 (x / wd * wd) = key := by rw [hky]; exact IntWalk.wrap64_in _ (by omega)
        have n0 : (wd == 0) = false := by simp; omega
        have n1 : ¬ wd = 0 := by omega
        have z1 : (0 : Int) < (row.length : Int) := by omega
        clear hky
        go_wp2
        refine start_ (n := 14) (S := fun w' => w'.cell? av = some (.int .i64 x) ∧ w'.cell? ⟨w.heap.size, 0, none⟩ = some (.int .i64 wd) ∧ Own kGroup 80 w' w4.heap.size u9 ((cs.take k).map (gAt wd all)) ∧ Below wr.heap.size wr w') (ds := [12]) #[false, false, false, false, false, false, false, false, false, false, false, false, false, false] (by kernel_rfl) rfl rfl ⟨c0, hc5, hO.out.below (below_drew (Below.refl _ _)), below_drew (Below.refl _ _)⟩ (fun hHeld => ?_)
        refine pure_ (i := 0) (N := some 42) (v := ?_) (a' := ?_) #[true, false, false, false, false, false, false, false, false, false, false, false, false, false] rfl rfl (by kernel_rfl) (fun _ _ _ h => h) (Or.inl ⟨by rfl, ?_⟩) ?_ ?_
        rotate_left
        · intro w'
          go_simp
          with_reducible rfl
        rotate_left
        · simp only [Act.put, List.setIfInBounds_toArray, List.set_cons_zero, List.set_cons_succ, i64_w, i32_w]
          rfl
        refine pure_ (i := 1) (N := some 43) (v := ?_) (a' := ?_) #[true, true, false, false, false, false, false, false, false, false, false, false, false, false] rfl rfl (by kernel_rfl) (fun _ _ _ h => h) (Or.inl ⟨by rfl, ?_⟩) ?_ ?_
        rotate_left
        · intro w'
          go_simp
          with_reducible rfl
        rotate_left
        · simp only [Act.put, List.setIfInBounds_toArray, List.set_cons_zero, List.set_cons_succ, i64_w, i32_w]
          rfl
        refine pure_ (i := 2) (N := some 44) (v := ?_) (a' := ?_) #[true, true, true, false, false, false, false, false, false, false, false, false, false, false] rfl rfl (by kernel_rfl) (fun _ _ _ h => h) (Or.inl ⟨by rfl, ?_⟩) ?_ ?_
        rotate_left
        · intro w'
          go_simp
          with_reducible rfl
        rotate_left
        · simp only [Act.put, List.setIfInBounds_toArray, List.set_cons_zero, List.set_cons_succ, i64_w, i32_w]
          rfl
        refine pure_ (i := 3) (N := some 45) (v := ?_) (a' := ?_) #[true, true, true, true, false, false, false, false, false, false, false, false, false, false] rfl rfl (by kernel_rfl) (fun _ _ _ h => h) (Or.inl ⟨by rfl, ?_⟩) ?_ ?_
        rotate_left
        · intro w'
          go_simp
          with_reducible rfl
        rotate_left
        · simp only [Act.put, List.setIfInBounds_toArray, List.set_cons_zero, List.set_cons_succ, i64_w, i32_w]
          rfl
        refine pure_ (i := 9) (N := some 51) (v := ?_) (a' := ?_) #[true, true, true, true, false, false, false, false, false, true, false, false, false, false] rfl rfl (by kernel_rfl) (fun _ _ _ h => h) (Or.inl ⟨by rfl, ?_⟩) ?_ ?_
        rotate_left
        · intro w'
          go_simp
          with_reducible rfl
        rotate_left
        · simp only [Act.put, List.setIfInBounds_toArray, List.set_cons_zero, List.set_cons_succ, i64_w, i32_w]
          rfl
        refine take_ (i := 4) (N := some 46) (v := ?_) (a' := ?_) #[true, true, true, true, true, false, false, false, false, true, false, false, false, false] rfl rfl (by kernel_rfl) (fun _ _ _ h => h) (Or.inl ⟨by rfl, ?_⟩) hHeld ?_ ?_
        rotate_left
        · rintro w' ⟨s0, s1, s2, s3⟩
          go_simp
          with_reducible rfl
        rotate_left
        · simp only [Act.put, List.setIfInBounds_toArray, List.set_cons_zero, List.set_cons_succ, i64_w, i32_w]
          rfl
        refine take_ (i := 5) (N := some 47) (v := ?_) (a' := ?_) #[true, true, true, true, true, true, false, false, false, true, false, false, false, false] rfl rfl (by kernel_rfl) (fun _ _ _ h => h) (Or.inl ⟨by rfl, ?_⟩) hHeld ?_ ?_
        rotate_left
        · rintro w' ⟨s0, s1, s2, s3⟩
          go_simp
          with_reducible rfl
        rotate_left
        · simp only [Act.put, List.setIfInBounds_toArray, List.set_cons_zero, List.set_cons_succ, i64_w, i32_w]
          rfl
        refine pure_ (i := 6) (N := some 48) (v := ?_) (a' := ?_) #[true, true, true, true, true, true, true, false, false, true, false, false, false, false] rfl rfl (by kernel_rfl) (fun _ _ _ h => h) (Or.inl ⟨by rfl, ?_⟩) ?_ ?_
        rotate_left
        · intro w'
          go_simp
          with_reducible rfl
        rotate_left
        · simp only [Act.put, List.setIfInBounds_toArray, List.set_cons_zero, List.set_cons_succ, i64_w, i32_w]
          rfl
        refine take_ (i := 7) (N := some 49) (v := ?_) (a' := ?_) #[true, true, true, true, true, true, true, true, false, true, false, false, false, false] rfl rfl (by kernel_rfl) (fun _ _ _ h => h) (Or.inl ⟨by rfl, ?_⟩) hHeld ?_ ?_
        rotate_left
        · rintro w' ⟨s0, s1, s2, s3⟩
          go_simp
          with_reducible rfl
        rotate_left
        · simp only [Act.put, List.setIfInBounds_toArray, List.set_cons_zero, List.set_cons_succ, i64_w, i32_w]
          rfl
        refine pure_ (i := 8) (N := some 50) (v := ?_) (a' := ?_) #[true, true, true, true, true, true, true, true, true, true, false, false, false, false] rfl rfl (by kernel_rfl) (fun _ _ _ h => h) (Or.inl ⟨by rfl, ?_⟩) ?_ ?_
        rotate_left
        · intro w'
          go_simp
          with_reducible rfl
        rotate_left
        · simp only [Act.put, List.setIfInBounds_toArray, List.set_cons_zero, List.set_cons_succ, i64_w, i32_w]
          rfl
        refine one_ (i := 10) (N := some 52) #[true, true, true, true, true, true, true, true, true, true, true, false, false, false] rfl rfl (by kernel_rfl) (by decide) (fun K hK => ?_)
        refine goes_ Try.func104 (by kernel_rfl) rfl #[.int .i64 key, .slice (some av) row.length (c3 - fr)] (by rfl) rfl rfl (by simp only [List.map_toArray, List.map_cons, List.map_nil]; rfl) ?_
        with_reducible refine (HGR.out _ hHeld.2.2.2).mono ?_
        rintro e w5 ⟨rfl, hb⟩
        refine ⟨_, rfl, ?_⟩
        refine hK.out _ _ ⟨pw_cell_below hb hHeld.1, pw_cell_below hb hHeld.2.1, hHeld.2.2.1.below hb, via hHeld.2.2.2 hb⟩ (fun hHeld => ?_)
        clear hK K
        refine norm_ (a' := ?_) ?_ ?_
        rotate_left
        · show Act.put _ (some 52) _ = _
          simp only [Act.put, List.setIfInBounds_toArray, List.set_cons_zero, List.set_cons_succ, i64_w, i32_w]
          rfl
        refine one_ (i := 11) (N := some 53) #[true, true, true, true, true, true, true, true, true, true, true, true, false, false] rfl rfl (by kernel_rfl) (by decide) (fun K hK => ?_)
        have HO5 := Aside0.mk hHeld.2.2.1
        have HB5 := Aside0.mk (via hB.out hHeld.2.2.2)
        refine value_ (w1 := ?_) (v := ?_) (by rfl) rfl ?_ ?_
        rotate_left 2
        · go_simp
          constructor
          · rfl
          · rfl
        refine hK.out _ _ ⟨later hHeld.1 _, later hHeld.2.1 _, hHeld.2.2.1.below (below_alloc (Below.refl _ _) _), below_alloc hHeld.2.2.2 _⟩ (fun hHeld => ?_)
        clear hK K
        refine norm_ (a' := ?_) ?_ ?_
        rotate_left
        · show Act.put _ (some 53) _ = _
          simp only [Act.put, List.setIfInBounds_toArray, List.set_cons_zero, List.set_cons_succ, i64_w, i32_w]
          rfl
        refine last_ (i := 12) (N := some 54) #[true, true, true, true, true, true, true, true, true, true, true, true, true, false] rfl rfl (by kernel_rfl) (by decide) (fun K hK => ?_)
        refine own_append_step (w0 := w4) w4.heap.size (by rfl) (.tmp 42) (.tmp 53) 70 80 (.agg #[.int .i64 0, .int .i64 0, .int .i64 0, .int .i64 0, .int .i64 0]) 40 rfl Try.underlying70 info80 rfl (by decide) (by omega) u9 ((cs.take k).map (gAt wd all)) (grp key row) rfl rfl (HO5.out) HB5.out HB5.out.size (by simp; omega) ?_
        intro v1 w6 ho hb hs
        refine hK.out _ _ ?_
        clear hK K
        refine norm_ (a' := ?_) ?_ ?_
        rotate_left
        · show Act.put _ (some 54) _ = _
          simp only [Act.put, List.setIfInBounds_toArray, List.set_cons_zero, List.set_cons_succ, i64_w, i32_w]
          rfl
        refine pure_ (i := 13) (N := some 9) (v := ?_) (a' := ?_) #[true, true, true, true, true, true, true, true, true, true, true, true, true, true] rfl rfl (by kernel_rfl) (fun _ _ _ h => h) (Or.inl ⟨by rfl, ?_⟩) ?_ ?_
        rotate_left
        · intro w'
          go_simp
          with_reducible rfl
        rotate_left
        · simp only [Act.put, List.setIfInBounds_toArray, List.set_cons_zero, List.set_cons_succ, i64_w, i32_w]
          rfl
        refine done_ (by kernel_rfl) ?_

        go_wp2
        go_roundw
        case rel => exact ⟨k + 1, by omega, by go_num, ⟨by rw [hm'.out]; exact ho⟩, ⟨hb⟩⟩
        case measure => simp [intOf]; omega
      · obtain rfl : k = cs.length := by omega
        rw [List.take_length, ← HCS.out] at hO
        have hll := Aside0.mk (show ((groups wd all).length) = cs.length by rw [HCS.out]; simp)
        obtain ⟨C1, c1, rfl, hos⟩ := hO.out.sl
        go_wp2
        go_ret2
        exact ⟨C1, c1, rfl, Own.lower hO.out (by have := HX.out.size; have := HB4.out.size; omega), below_then HX.out HX.out.size (below_then HB4.out HB4.out.size hB.out)⟩

end Go.Proofs.Ytoeipkjpgbdioaa
