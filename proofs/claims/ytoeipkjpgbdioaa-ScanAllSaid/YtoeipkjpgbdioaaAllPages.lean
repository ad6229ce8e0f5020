/- scan.All: all pages, one behind the other. -/
import Derived.Test.YtoeipkjpgbdioaaLawPages
set_option linter.unusedVariables false
set_option linter.unusedSimpArgs false
namespace Go.Proofs.Ytoeipkjpgbdioaa
open Go.RowKit Go.Shelf Go.Proofs.YtoeipkjpgbdioaaW.PrintWords Go.Proofs.YtoeipkjpgbdioaaW.PrintLast

/-- Blocks of other types than e stay. -/
def Other (e : TypeId) (W w1 : World) : Prop := ∀ (g t : Nat) (cs : Array Value), t ≠ e → W.heap[g]? = some (.cells cs t (0, 0)) → w1.heap[g]? = some (.cells cs t (0, 0))
theorem Other.of {α : Type} {d : Kd α} {e : Nat} {W w1 : World} {base : Nat} {v : Value} {xs : List α} (h : Own d e W base v xs) (hg : W.grownBy w1 v.ownBlock) : Other e W w1 :=
  fun g t cs ht hb => blk_grown hb hg (Kd.R_ne h hb (fun e_ => ht e_.symm))
theorem Other.below {e : TypeId} {w w1 : World} (h : Below w.heap.size w w1) : Other e w w1 := fun g t cs _ hb => (h.block g (blk_lt hb)).trans hb
theorem Other.typed {e t : TypeId} {w w1 : World} {A : Option Addr} (h : Other e w w1) (ht : t ≠ e) (hA : Typed w t A) : Typed w1 t A := fun ad e1 => by
  obtain ⟨cs, hc⟩ := hA ad e1
  exact ⟨cs, h _ _ _ ht hc⟩
theorem Other.set {w : World} {g t : Nat} {cs : Array Value} (hb : w.heap[g]? = some (.cells cs t (0, 0))) (j : Nat) (u : Value) : Other t w (w.setCell ⟨g, j, none⟩ u) := fun g' t' cs' ht hb' =>
  blk_far hb' (p := ⟨g, j, none⟩) (fun e => by subst e; rw [hb] at hb'; cases hb'; exact ht rfl) u
theorem Other.trans {e : TypeId} {w w1 w2 : World} (h : Other e w w1) (k : Other e w1 w2) : Other e w w2 := fun g t cs ht hb => k g t cs ht (h g t cs ht hb)
theorem Other.keep {w w1 : World} {g t : Nat} {cs : Array Value} (hb : w.heap[g]? = some (.cells cs t (0, 0))) (hk : KeepBut w w1 g none) : Other t w w1 := fun g' t' cs' ht hb' =>
  hk.blk hb' (fun e => by subst e; rw [hb] at hb'; cases hb'; exact ht rfl) (by simp)
/-- A row that is read stays, where its block is of another type. -/
theorem Sl.other {α : Type} {sz : Nat} {enc : α → List Value} {hl : ∀ x, (enc x).length = sz} {h1 : ∀ x, ∀ u ∈ enc x, u.oneCell' = true} {w w1 : World} {A : Option Addr} {c : Nat} {xs : List α} {e t : TypeId}
    (h : Sl (flat sz enc hl h1) w A c xs) (hA : Typed w t A) (ht : t ≠ e) (ho : Other e w w1) : Sl (flat sz enc hl h1) w1 A c xs := by
  refine ⟨h.1, h.2.1, h.2.2.1, fun h0 => ?_⟩
  obtain ⟨ad, e1, hr⟩ := h.2.2.2 h0
  obtain ⟨cs, hc⟩ := hA ad e1
  have hc1 := ho _ _ _ ht hc
  refine ⟨ad, e1, fun i p hp => ?_⟩
  obtain ⟨es, he, hK, hcell⟩ := hr i p hp
  refine ⟨es, he, hK, fun j u hu => ?_⟩
  have h2 := hcell j u hu
  have hbl : (ad.add (i * (flat sz enc hl h1).sz + j)).block = ad.block := by unfold Addr.add; split <;> rfl
  unfold World.cell? at h2 ⊢
  rw [hbl, hc] at h2
  rw [hbl, hc1]
  exact h2
section
variable {P : Program} {ops : Array Oper} {rest : List Oper} {o : Oper} {a : Act} {Q : Exit → Act → World → Prop} {Kc : Act → World → Prop}
theorem own_append_t {α : Type} {sz : Nat} {enc : α → List Value} {hl : ∀ x, (enc x).length = sz} {h1 : ∀ x, ∀ u ∈ enc x, u.oneCell' = true} {w0 W : World} (base : Nat) (hgd : o.guard = none) (s x : Operand) (t e : TypeId) (z : Value) (bytes : Nat)
    (ho : o.op = .call { callee := .builtin .append, args := #[s, x], argTypes := #[t, t] })
    (ht : P.underlying t = some (.slice e)) (hinfo : (P.info? e).map (fun i => (i.zero, i.size, i.bytes)) = some (some z, sz, bytes)) (hz : z.cells.size = sz) (hs0 : 0 < sz) (hb0 : 0 < bytes)
    (v : Value) (xs : List α) (p : α) (hs : a.eval s = v) (hx : a.eval x = .slice (some ⟨W.heap.size, 0, none⟩) 1 1)
    (HO : Own (flat sz enc hl h1) e W base v xs) (HB : Below base w0 W) (hbase : base ≤ W.heap.size) (hl2 : (xs.length + 1) * bytes ≤ 140737488355328)
    (h : ∀ v1 w1, Own (flat sz enc hl h1) e w1 base v1 (xs ++ [p]) → Below base w0 w1 → W.heap.size ≤ w1.heap.size → Other e W w1 → wpList P ops Q rest (a.put o.dst v1) w1) :
    wpList P ops Q (o :: rest) a (W.alloc (.cells (enc p).toArray e)) :=
  Kd.R_append (flat sz enc hl h1) base hgd s x t e z bytes ho ht hinfo hz hs0 hb0 v xs p (enc p) (fun _ => True) (fun _ => False) hs hx rfl (fun _ h => h.elim) (fun _ _ => trivial) HO HB hbase hl2
    (fun v1 w1 h1 h2 h3 _ => h v1 w1 h1 h2 h3.size (Other.of HO h3))
end

/-- a page: where it lies, what it holds -/
abbrev Pg := Option Addr × Nat × List Pair
def encPg (q : Pg) : List Value := [.slice q.1 q.2.2.length q.2.1]
def kPg : Kd Pg := flat 1 encPg (fun _ => rfl) (fun _ => one_of rfl)
def rowsOf (ps : List Pg) : List Pair := (ps.map (·.2.2)).flatten
theorem rowsOf_append (a b : List Pg) : rowsOf (a ++ b) = rowsOf a ++ rowsOf b := by simp [rowsOf]
theorem rowsOf_succ (ps : List Pg) (k : Nat) (hk : k < ps.length) : rowsOf (ps.take (k + 1)) = rowsOf (ps.take k) ++ ps[k].2.2 := by
  rw [List.take_succ_eq_append_getElem hk, rowsOf_append]
  simp [rowsOf]
theorem rowsOf_le (ps : List Pg) (k : Nat) : (rowsOf (ps.take k)).length ≤ (rowsOf ps).length := by
  have h : rowsOf ps = rowsOf (ps.take k) ++ rowsOf (ps.drop k) := by rw [← rowsOf_append, List.take_append_drop]
  rw [h, List.length_append]; omega
theorem rpAll_next {l : List Pair} {y : Cursor} (hb : pgBad l y = false) (hm : rpMore l y = true) : rpAll l y = rpOut l y ++ rpAll l { y with after := lastKey y.after (rpOut l y) } ∧ (rpOut l y).length = y.limit.toNat ∧ y.after < lastKey y.after (rpOut l y) ∧ lastKey y.after (rpOut l y) < 4096 ∧ pgBad l { y with after := lastKey y.after (rpOut l y) } = false := by
  obtain ⟨h1, h2, h3⟩ := pg_good hb
  have hlt : y.limit.toNat < (rpAll l y).length := by simpa [rpMore] using hm
  have hpw : (rpAll l y).Pairwise fun p q => p.key < q.key := (table_pairwise h1).filter _
  have hok : ∀ p ∈ rpAll l y, y.after < p.key ∧ p.key < 4096 := fun p hp => by
    have h4 := List.mem_filter.1 hp
    have h5 : okPair p = true := by
      obtain ⟨i, hi, rfl⟩ := List.getElem_of_mem h4.1
      exact ((chk_iff _ _ _).1 h1).1 i hi
    have h6 := h4.2
    simp only [rpq, Bool.and_eq_true, decide_eq_true_eq] at h6
    exact ⟨h6.1, (okPair_key h5).2⟩
  obtain ⟨n, hn⟩ : ∃ n : Nat, y.limit = n := ⟨y.limit.toNat, by omega⟩
  have hol : (rpOut l y).length = y.limit.toNat := by rw [rpOut, List.length_take]; omega
  have hlk : lastKey y.after (rpOut l y) = ((rpAll l y)[y.limit.toNat - 1]'(by omega)).key := by
    have : (rpOut l y).getLast? = some ((rpAll l y)[y.limit.toNat - 1]'(by omega)) := by
      rw [List.getLast?_eq_getElem?, hol, rpOut, List.getElem?_take_of_lt (by omega), List.getElem?_eq_getElem]
    rw [lastKey, this]
  have hb1 := hok _ (List.getElem_mem (show y.limit.toNat - 1 < (rpAll l y).length by omega))
  refine ⟨?_, hol, by rw [hlk]; exact hb1.1, by rw [hlk]; exact hb1.2, ?_⟩
  · have e1 : rpAll l { y with after := lastKey y.after (rpOut l y) } = (rpAll l y).filter fun p => decide (lastKey y.after (rpOut l y) < p.key) := by
      rw [rpAll, rpAll, List.filter_filter]
      congr 1
      funext p
      rw [Bool.eq_iff_iff]
      simp only [rpq, Bool.and_eq_true, decide_eq_true_eq]
      constructor
      · rintro ⟨a, b⟩
        exact ⟨a, by rw [hlk] at a; omega, b⟩
      · rintro ⟨a, _, b⟩
        exact ⟨a, b⟩
    have e2 : rpAll l y = rpOut l y ++ (rpAll l y).drop y.limit.toNat := (List.take_append_drop _ _).symm
    rw [e1]
    conv => lhs; rw [e2]
    congr 1
    conv => rhs; rw [e2, List.filter_append]
    rw [List.pairwise_iff_getElem] at hpw
    have e3 : (rpOut l y).filter (fun p => decide (lastKey y.after (rpOut l y) < p.key)) = [] := by
      rw [List.filter_eq_nil_iff]
      intro p hp
      obtain ⟨i, hi, rfl⟩ := List.getElem_of_mem hp
      have hg : (rpOut l y)[i] = (rpAll l y)[i]'(by omega) := by simp [rpOut]
      rw [hlk, hg]
      simp only [decide_eq_true_eq]
      rcases Nat.lt_or_ge i (y.limit.toNat - 1) with h4 | h4
      · have := hpw i (y.limit.toNat - 1) (by omega) (by omega) h4
        omega
      · have : i = y.limit.toNat - 1 := by omega
        subst this; omega
    have e4 : ((rpAll l y).drop y.limit.toNat).filter (fun p => decide (lastKey y.after (rpOut l y) < p.key)) = (rpAll l y).drop y.limit.toNat := by
      rw [List.filter_eq_self]
      intro p hp
      obtain ⟨i, hi, rfl⟩ := List.getElem_of_mem hp
      rw [hlk, List.getElem_drop]
      simp only [decide_eq_true_eq]
      simp only [List.length_drop] at hi
      exact hpw (y.limit.toNat - 1) (y.limit.toNat + i) (by omega) (by omega) (by omega)
    rw [e3, e4, List.nil_append]
  · have : 4096 > lastKey y.after (rpOut l y) := by rw [hlk]; exact hb1.2
    have h8 : y.after < lastKey y.after (rpOut l y) := by rw [hlk]; exact hb1.1
    simp [pgBad, okCur, h1, h2] at hb ⊢
    omega

set_option maxHeartbeats 2000000 in
theorem scan_All_bad (A B : Option Addr) (c d : Nat) (l : List Pair) (x : Cursor) (w : World) (hr : Sl kPair w A c l) (hs : Sl kSpan w B d x.on) (hbad : pgBad l x = true) :
    Calls Try.prog 44 #[.slice A l.length c, vCur B d x] w fun e w' => e = .returned (.tuple #[.slice none 0 0, .int .i64 1]) ∧ Below w.heap.size w w' := by
  have HP := Aside0.mk (fun W (h : Below w.heap.size w W) => scan_Page_bad A B c d l x W (hr.below h) (hs.below h) hbad)
  clear hr hs hbad
  go_enter Try.func44, Try.ntmps44
  go_wp2
  go_loopw [6] (fun v wr => v = .slice none 0 0 ∧ wr = w.alloc (.cells #[.slice B x.on.length d, .int .i64 x.after, .int .i64 x.limit] 50)) (fun v _ => 0)
  case atStart => exact ⟨rfl, rfl⟩
  case round =>
    obtain ⟨rfl, rfl⟩ := hrel
    go_wp2_with (go_at_call 26; refine calls_box1 ?_; intro W0 hX hb0; have HX := Aside0.mk hX; have b0 := Aside0.mk hb0; clear hX hb0; have HQ := Aside0.mk (Below.refl W0.heap.size W0); refine (HP.out _ HX.out).mono ?_; rintro e w1 ⟨rfl, hb⟩; have HB1 := Aside0.mk (via HX.out hb); clear hb)
    go_ret2
    exact ⟨rfl, below_alloc HB1.out _⟩

def curOf (wr : World) (g : Nat) : Int := intOf ((wr.cell? ⟨g, 1, none⟩).getD (.bool false))
/-- where the cursor's spans lie: as they came in, or in an array of spans -/
def DOk (w wr : World) (B D : Option Addr) (d d' : Nat) (on : List Span) : Prop := Sl kSpan wr D d' on ∧ (Typed wr 162 D ∨ (D = B ∧ d' = d))
theorem DOk.sl {w wr : World} {B D : Option Addr} {d d' : Nat} {on : List Span} (h : DOk w wr B D d d' on) : Sl kSpan wr D d' on := h.1
set_option maxRecDepth 100000 in
set_option maxHeartbeats 4000000 in
theorem scan_All_good (A B : Option Addr) (c d : Nat) (l : List Pair) (x : Cursor) (w : World) (hr : Sl kPair w A c l) (hs : Sl kSpan w B d x.on) (hbig : l.length ≤ 1000000) (hgood : pgBad l x = false) :
    Calls Try.prog 44 #[.slice A l.length c, vCur B d x] w fun e w' => ∃ (ps : List Pg) (C : Option Addr) (c' : Nat), e = .returned (.tuple #[.slice C ps.length c', .int .i64 0]) ∧ Sl kPg w' C c' ps ∧ (∀ q ∈ ps, Sl kPair w' q.1 q.2.1 q.2.2) ∧ rowsOf ps = rpAll l x ∧ 1 ≤ ps.length ∧ (∀ i (h : i + 1 < ps.length), (ps[i].2.2.length : Int) = x.limit) ∧ (∀ q ∈ ps, (q.2.2.length : Int) ≤ x.limit) ∧ Below w.heap.size w w' := by
  have HR := Aside0.mk hr
  have HS := Aside0.mk hs
  have hon : isSet x.on = true ∧ 1 ≤ x.limit := (pg_good hgood).2
  have hall := Aside0.mk (show (rpAll l x).length ≤ 1000000 from Nat.le_trans (List.length_filter_le _ _) hbig)
  clear hr hs
  go_enter Try.func44, Try.ntmps44
  go_wp2
  go_loopw [6] (fun v wr => ∃ (ps : List Pg) (y : Cursor) (D : Option Addr) (d' : Nat), Aside0 (y.on = x.on ∧ y.limit = x.limit ∧ pgBad l y = false ∧ rowsOf ps ++ rpAll l y = rpAll l x ∧ (∀ q ∈ ps, (q.2.2.length : Int) = x.limit)) ∧ Aside0 (wr.heap[w.heap.size]? = some (.cells #[.slice D y.on.length d', .int .i64 y.after, .int .i64 y.limit] 50 (0, 0))) ∧ Aside0 (DOk w wr B D d d' y.on) ∧ Aside0 (∀ q ∈ ps, Sl kPair wr q.1 q.2.1 q.2.2 ∧ Typed wr 84 q.1) ∧ Aside0 (Own kPg 47 wr (w.heap.size + 1) v ps) ∧ w.heap.size + 1 ≤ wr.heap.size ∧ Aside0 (Below w.heap.size w wr)) (fun v wr => (4096 - curOf wr w.heap.size).toNat)
  case atStart => exact ⟨[], x, B, d, ⟨rfl, rfl, hgood, rfl, fun q hq => by simp at hq⟩, ⟨box_top _ _⟩, ⟨HS.out.below (below_alloc (Below.refl _ _) _), .inr ⟨rfl, rfl⟩⟩, ⟨fun q hq => by simp at hq⟩, ⟨Own.nil _ _ _ _⟩, by simp, ⟨below_alloc (Below.refl _ _) _⟩⟩
  case round =>
    obtain ⟨ps, y, D, d', hY, hG, hD, hQ, hO, hsz, hB⟩ := hrel
    obtain ⟨hy1, hy2, hy3, hy4, hy5⟩ := hY.out
    have HP := Aside0.mk (scan_Page_new A D c d' l y wr (HR.out.below hB.out) hD.out.sl hbig hy3)
    have g1 := blk_cell hG.out
    have hmu := Aside0.mk (show curOf wr w.heap.size = y.after by unfold curOf; rw [g1]; rfl)
    rw [next_next hy3, out_out hy3, more_more hy3] at HP
    have hnx := Aside0.mk (rpAll_next hy3)
    have hol := Aside0.mk (show (rpOut l y).length ≤ y.limit.toNat from by rw [rpOut, List.length_take]; omega)
    have hlast := Aside0.mk (show rpMore l y = false → rpOut l y = rpAll l y from fun h => by
      rw [rpOut, List.take_of_length_le]
      simp only [rpMore, decide_eq_false_iff_not] at h
      omega)
    have hyl : 1 ≤ y.limit := by rw [hy2]; exact hon.2
    have hps := Aside0.mk (show ps.length ≤ 1000000 from by
      have h1 : (rowsOf ps).length ≤ 1000000 := by
        have h2 := congrArg List.length hy4
        rw [List.length_append] at h2
        have := hall.out
        omega
      refine Nat.le_trans ?_ h1
      clear HP hG hD hQ hO hY hy4 h1
      induction ps with
      | nil => simp
      | cons q ps ih =>
        have h3 := hy5 q List.mem_cons_self
        have h4 := ih (fun r hr => hy5 r (List.mem_cons_of_mem _ hr))
        have h5 : rowsOf (q :: ps) = q.2.2 ++ rowsOf ps := rfl
        rw [h5, List.length_append, List.length_cons]
        omega)
    have hps1 := hps.out
    clear hy1 hy2 hy3 hy4 hy5 hps
    generalize hlk : lastKey y.after (rpOut l y) = lk at *
    generalize hou : rpOut l y = out at *
    clear hlk hou
    dsimp only at HP
    have HY := Aside0.mk (show True from trivial)
    obtain ⟨on, af, li⟩ := y
    dsimp only at *
    cases hm : rpMore l ⟨on, af, li⟩ with
    | false =>
      rw [hm] at HP
      have hlast := Aside0.mk (hlast.out hm)
      clear hm hnx
      go_wp2_with (first | (go_at_call 26; with_reducible refine HP.out.mono ?_; rintro e w2 ⟨C, c2, D2, d2, rfl, hs1, hs2, hb, ht1, ht2⟩; have hal := below_alloc hb (.cells #[.slice D2 on.length d2, .int .i64 lk, .int .i64 li] 50); have hal2 := below_alloc (Below.refl w2.heap.size w2) (.cells #[.slice D2 on.length d2, .int .i64 lk, .int .i64 li] 50); have HO2 := Aside0.mk (hO.out.below hal); have HG2 := Aside0.mk (blk_keep hal hG.out); have HT2 := Aside0.mk (box_top w2 (.cells #[.slice D2 on.length d2, .int .i64 lk, .int .i64 li] 50)); have HB2 := Aside0.mk (via hB.out hal); have HQ2 : Aside0 (∀ q ∈ ps, Sl kPair (w2.alloc (.cells #[.slice D2 on.length d2, .int .i64 lk, .int .i64 li] 50)) q.1 q.2.1 q.2.2 ∧ Typed (w2.alloc (.cells #[.slice D2 on.length d2, .int .i64 lk, .int .i64 li] 50)) 84 q.1) := ⟨fun q hq => ⟨(hQ.out q hq).1.below hal, (hQ.out q hq).2.below hal⟩⟩; have HN2 : Aside0 (Sl kPair (w2.alloc (.cells #[.slice D2 on.length d2, .int .i64 lk, .int .i64 li] 50)) C c2 out ∧ Typed (w2.alloc (.cells #[.slice D2 on.length d2, .int .i64 lk, .int .i64 li] 50)) 84 C) := ⟨hs1.below hal2, ht1.below hal2⟩; have HD2 : Aside0 (Sl kSpan (w2.alloc (.cells #[.slice D2 on.length d2, .int .i64 lk, .int .i64 li] 50)) D2 d2 on ∧ Typed (w2.alloc (.cells #[.slice D2 on.length d2, .int .i64 lk, .int .i64 li] 50)) 162 D2) := ⟨hs2.below hal2, ht2.below hal2⟩; have hsz2 := hal.size; clear hs1 hs2 hb ht1 ht2 hal hal2) | (at_builtin; go_must (refine own_append_t (w0 := _) (w.heap.size + 1) rfl (.tmp 22) (.tmp 24) 91 47 (.slice none 0 0) 24 rfl Try.underlying91 viewInfo47 rfl (by decide) (by omega) u6 ps (C, c2, out) rfl (by rw [size_alloc]; rfl) HO2.out (Below.refl _ _) (by omega) (by omega) ?_); intro v1 w6 ho hb hs hot; obtain ⟨C6, c6, rfl, _⟩ := ho.sl; have HO6 := Aside0.mk ho; have HG6 := Aside0.mk (blk_same hb (by omega) HG2.out); have HT6 := Aside0.mk (hot _ _ _ (by decide) HT2.out); have HB6 := Aside0.mk (via_m HB2.out hb (by omega)); have HQ6 : Aside0 (∀ q ∈ ps, Sl kPair w6 q.1 q.2.1 q.2.2 ∧ Typed w6 84 q.1) := ⟨fun q hq => ⟨(HQ2.out q hq).1.other (HQ2.out q hq).2 (by decide) hot, hot.typed (by decide) (HQ2.out q hq).2⟩⟩; have HN6 : Aside0 (Sl kPair w6 C c2 out ∧ Typed w6 84 C) := ⟨HN2.out.1.other HN2.out.2 (by decide) hot, hot.typed (by decide) HN2.out.2⟩; have HD6 : Aside0 (Sl kSpan w6 D2 d2 on ∧ Typed w6 162 D2) := ⟨HD2.out.1.other HD2.out.2 (by decide) hot, hot.typed (by decide) HD2.out.2⟩; have x0 := blk_cell HT6.out; have y0 := blk_cell HG6.out; have y1 := blk_frozen HG6.out; have y2 := blk_lt HG6.out; have hsz6 := hs; clear ho hb hs hot))
      go_ret2
      refine ⟨ps ++ [(C, c2, out)], C6, c6, by rw [List.length_append]; rfl, ?_, ?_, ?_, by simp, ?_, ?_, HB6.out⟩
      · exact HO6.out.sl2
      · intro q hq
        rcases List.mem_append.1 hq with hq | hq
        · exact (HQ6.out q hq).1
        · obtain rfl := List.mem_singleton.1 hq
          exact HN6.out.1
      · obtain ⟨_, _, _, h4, _⟩ := hY.out
        rw [← h4, ← hlast.out]
        simp [rowsOf]
      · obtain ⟨_, h2, _, _, h5⟩ := hY.out
        intro i hi
        simp only [List.length_append, List.length_singleton] at hi
        rw [List.getElem_append_left (by omega)]
        exact h5 _ (List.getElem_mem _)
      · obtain ⟨_, h2, _, _, h5⟩ := hY.out
        intro q hq
        rcases List.mem_append.1 hq with hq | hq
        · exact Int.le_of_eq (h5 q hq)
        · obtain rfl := List.mem_singleton.1 hq
          have := hol.out
          dsimp only at this h2 ⊢
          omega
    | true =>
      rw [hm] at HP
      have hnx := Aside0.mk (hnx.out hm)
      clear hm hlast
      go_wp2_with (first | (go_at_call 26; with_reducible refine HP.out.mono ?_; rintro e w2 ⟨C, c2, D2, d2, rfl, hs1, hs2, hb, ht1, ht2⟩; have hal := below_alloc hb (.cells #[.slice D2 on.length d2, .int .i64 lk, .int .i64 li] 50); have hal2 := below_alloc (Below.refl w2.heap.size w2) (.cells #[.slice D2 on.length d2, .int .i64 lk, .int .i64 li] 50); have HO2 := Aside0.mk (hO.out.below hal); have HG2 := Aside0.mk (blk_keep hal hG.out); have HT2 := Aside0.mk (box_top w2 (.cells #[.slice D2 on.length d2, .int .i64 lk, .int .i64 li] 50)); have HB2 := Aside0.mk (via hB.out hal); have HQ2 : Aside0 (∀ q ∈ ps, Sl kPair (w2.alloc (.cells #[.slice D2 on.length d2, .int .i64 lk, .int .i64 li] 50)) q.1 q.2.1 q.2.2 ∧ Typed (w2.alloc (.cells #[.slice D2 on.length d2, .int .i64 lk, .int .i64 li] 50)) 84 q.1) := ⟨fun q hq => ⟨(hQ.out q hq).1.below hal, (hQ.out q hq).2.below hal⟩⟩; have HN2 : Aside0 (Sl kPair (w2.alloc (.cells #[.slice D2 on.length d2, .int .i64 lk, .int .i64 li] 50)) C c2 out ∧ Typed (w2.alloc (.cells #[.slice D2 on.length d2, .int .i64 lk, .int .i64 li] 50)) 84 C) := ⟨hs1.below hal2, ht1.below hal2⟩; have HD2 : Aside0 (Sl kSpan (w2.alloc (.cells #[.slice D2 on.length d2, .int .i64 lk, .int .i64 li] 50)) D2 d2 on ∧ Typed (w2.alloc (.cells #[.slice D2 on.length d2, .int .i64 lk, .int .i64 li] 50)) 162 D2) := ⟨hs2.below hal2, ht2.below hal2⟩; have hsz2 := hal.size; clear hs1 hs2 hb ht1 ht2 hal hal2) | (at_builtin; go_must (refine own_append_t (w0 := _) (w.heap.size + 1) rfl (.tmp 22) (.tmp 24) 91 47 (.slice none 0 0) 24 rfl Try.underlying91 viewInfo47 rfl (by decide) (by omega) u6 ps (C, c2, out) rfl (by rw [size_alloc]; rfl) HO2.out (Below.refl _ _) (by omega) (by omega) ?_); intro v1 w6 ho hb hs hot; obtain ⟨C6, c6, rfl, _⟩ := ho.sl; have HO6 := Aside0.mk ho; have HG6 := Aside0.mk (blk_same hb (by omega) HG2.out); have HT6 := Aside0.mk (hot _ _ _ (by decide) HT2.out); have HB6 := Aside0.mk (via_m HB2.out hb (by omega)); have HQ6 : Aside0 (∀ q ∈ ps, Sl kPair w6 q.1 q.2.1 q.2.2 ∧ Typed w6 84 q.1) := ⟨fun q hq => ⟨(HQ2.out q hq).1.other (HQ2.out q hq).2 (by decide) hot, hot.typed (by decide) (HQ2.out q hq).2⟩⟩; have HN6 : Aside0 (Sl kPair w6 C c2 out ∧ Typed w6 84 C) := ⟨HN2.out.1.other HN2.out.2 (by decide) hot, hot.typed (by decide) HN2.out.2⟩; have HD6 : Aside0 (Sl kSpan w6 D2 d2 on ∧ Typed w6 162 D2) := ⟨HD2.out.1.other HD2.out.2 (by decide) hot, hot.typed (by decide) HD2.out.2⟩; have x0 := blk_cell HT6.out; have y0 := blk_cell HG6.out; have y1 := blk_frozen HG6.out; have y2 := blk_lt HG6.out; have hsz6 := hs; clear ho hb hs hot))
      have hk : KeepBut w6 (((w6.setCell ⟨w.heap.size, 0, none⟩ (.slice D2 on.length d2)).setCell ⟨w.heap.size, 1, none⟩ (.int .i64 lk)).setCell ⟨w.heap.size, 2, none⟩ (.int .i64 li)) w.heap.size none := by
        repeat (with_reducible refine KeepBut.set_ ?_ _ _)
        exact KeepBut.refl _ _ _
      have hot := Other.keep HG6.out hk
      have hG8 := Aside0.mk (show ((((w6.setCell ⟨w.heap.size, 0, none⟩ (.slice D2 on.length d2)).setCell ⟨w.heap.size, 1, none⟩ (.int .i64 lk)).setCell ⟨w.heap.size, 2, none⟩ (.int .i64 li))).heap[w.heap.size]? = some (.cells #[.slice D2 on.length d2, .int .i64 lk, .int .i64 li] 50 (0, 0)) from blk_set (blk_set (blk_set HG6.out 0 (.slice D2 on.length d2)) 1 (.int .i64 lk)) 2 (.int .i64 li))
      have hQ8 : Aside0 (∀ q ∈ ps ++ [(C, c2, out)], Sl kPair (((w6.setCell ⟨w.heap.size, 0, none⟩ (.slice D2 on.length d2)).setCell ⟨w.heap.size, 1, none⟩ (.int .i64 lk)).setCell ⟨w.heap.size, 2, none⟩ (.int .i64 li)) q.1 q.2.1 q.2.2 ∧ Typed (((w6.setCell ⟨w.heap.size, 0, none⟩ (.slice D2 on.length d2)).setCell ⟨w.heap.size, 1, none⟩ (.int .i64 lk)).setCell ⟨w.heap.size, 2, none⟩ (.int .i64 li)) 84 q.1) := ⟨fun q hq => by
        rcases List.mem_append.1 hq with hq | hq
        · exact ⟨(HQ6.out q hq).1.other (HQ6.out q hq).2 (by decide) hot, hot.typed (by decide) (HQ6.out q hq).2⟩
        · obtain rfl := List.mem_singleton.1 hq
          exact ⟨HN6.out.1.other HN6.out.2 (by decide) hot, hot.typed (by decide) HN6.out.2⟩⟩
      have hD8 : Aside0 (DOk w (((w6.setCell ⟨w.heap.size, 0, none⟩ (.slice D2 on.length d2)).setCell ⟨w.heap.size, 1, none⟩ (.int .i64 lk)).setCell ⟨w.heap.size, 2, none⟩ (.int .i64 li)) B D2 d d2 on) := ⟨HD6.out.1.other HD6.out.2 (by decide) hot, .inl (hot.typed (by decide) HD6.out.2)⟩
      have hO8 : Aside0 (Own kPg 47 (((w6.setCell ⟨w.heap.size, 0, none⟩ (.slice D2 on.length d2)).setCell ⟨w.heap.size, 1, none⟩ (.int .i64 lk)).setCell ⟨w.heap.size, 2, none⟩ (.int .i64 li)) (w.heap.size + 1) (.slice C6 (ps.length + 1) c6) (ps ++ [(C, c2, out)])) := ⟨by
        have h1 := HO6.out
        rw [List.length_append, List.length_singleton] at h1
        repeat (with_reducible refine Own.sets ?_ (by omega) _ _)
        exact h1⟩
      have hB8 : Aside0 (Below w.heap.size w (((w6.setCell ⟨w.heap.size, 0, none⟩ (.slice D2 on.length d2)).setCell ⟨w.heap.size, 1, none⟩ (.int .i64 lk)).setCell ⟨w.heap.size, 2, none⟩ (.int .i64 li))) := ⟨by
        repeat (with_reducible refine below_set ?_ (Nat.le_refl _))
        exact HB6.out⟩
      have hsz8 : w.heap.size + 1 ≤ ((((w6.setCell ⟨w.heap.size, 0, none⟩ (.slice D2 on.length d2)).setCell ⟨w.heap.size, 1, none⟩ (.int .i64 lk)).setCell ⟨w.heap.size, 2, none⟩ (.int .i64 li))).heap.size := by simp; omega
      clear hk hot y0 y1 y2 x0
      generalize (((w6.setCell ⟨w.heap.size, 0, none⟩ (.slice D2 on.length d2)).setCell ⟨w.heap.size, 1, none⟩ (.int .i64 lk)).setCell ⟨w.heap.size, 2, none⟩ (.int .i64 li)) = W8 at *
      obtain ⟨n1, n2, n3, n4, n5⟩ := hnx.out
      obtain ⟨h1, h2, h3, h4, h5⟩ := hY.out
      have hlz : (out.length : Int) = x.limit := by rw [← h2]; omega
      refine ⟨⟨ps ++ [(C, c2, out)], ⟨on, lk, li⟩, D2, d2, ⟨h1, h2, n5, ?_, ?_⟩, hG8, hD8, hQ8, hO8, hsz8, hB8⟩, ?_⟩
      · rw [← h4, n1]
        simp [rowsOf]
      · intro q hq
        rcases List.mem_append.1 hq with hq | hq
        · exact h5 q hq
        · obtain rfl := List.mem_singleton.1 hq
          exact hlz
      · have e1 : curOf W8 w.heap.size = lk := by unfold curOf; rw [blk_cell hG8.out]; rfl
        rw [e1, hmu.out]
        omega

theorem pg_at {w : World} {A : Option Addr} {c : Nat} {ps : List Pg} (h : Sl kPg w A c ps) (i : Nat) (hi : i < ps.length) : ∃ ad, A = some ad ∧ w.cell? (ad.add i) = some (.slice ps[i].1 ps[i].2.2.length ps[i].2.1) := by
  obtain ⟨ad, e, hc⟩ := flat_at h i hi
  exact ⟨ad, e, by have := hc 0 _ rfl; simpa using this⟩
theorem rpAll_clip {l : List Pair} {x : Cursor} (h : pgBad l x = false) : rpAll l x = (clip l x.on).filter fun p => decide (x.after < p.key) := by
  obtain ⟨h1, h2, h3⟩ := pg_good h
  rw [rpAll, clip, List.filter_filter]
  congr 1
  funext p
  simp [inClip, h1, h2, rpq]

end Go.Proofs.Ytoeipkjpgbdioaa
