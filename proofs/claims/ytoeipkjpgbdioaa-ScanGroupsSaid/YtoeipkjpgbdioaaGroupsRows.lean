/- Rows one by one are the groups of neighbours. No program in sight. -/
import Derived.Test.YtoeipkjpgbdioaaRefGroups2
set_option linter.unusedVariables false
set_option linter.unusedSimpArgs false
namespace Go.Proofs.Ytoeipkjpgbdioaa
open Go.RowKit Go.Shelf Go.Proofs.YtoeipkjpgbdioaaW.PrintWords

/-! ### the plain law: rows one by one are the groups of neighbours -/
theorem cutsN_tog (tog : Pair → Pair → Bool) (l : List Pair) : ∀ n, n ≤ l.length → (∀ p ∈ (cutsN tog l n).1, ∀ i, p.1 ≤ i → i + 1 < p.2 → tog l[i]! l[i + 1]! = true) ∧ (∀ i, (cutsN tog l n).2 ≤ i → i < n → i + 1 < l.length → i + 1 ≤ n → (i + 1 = n → (cutsN tog l n).2 ≤ i → tog l[i]! l[i + 1]! = true) ∧ (i + 1 < n → tog l[i]! l[i + 1]! = true))
  | 0, _ => ⟨fun p hp => by simp [cutsN] at hp, fun i _ h => by omega⟩
  | n + 1, hn => by
    obtain ⟨h1, h2⟩ := cutsN_tog tog l n (by omega)
    have hle := (cutsN_le tog l n).1
    rw [show cutsN tog l (n + 1) = if n + 1 = l.length ∨ tog l[n]! l[n + 1]! = false then ((cutsN tog l n).1 ++ [((cutsN tog l n).2, n + 1)], n + 1) else cutsN tog l n from rfl]
    have hin : ∀ i, (cutsN tog l n).2 ≤ i → i + 1 < n + 1 → tog l[i]! l[i + 1]! = true := fun i hi hlt => by
      by_cases e : i + 1 = n
      · exact ((h2 i hi (by omega) (by omega) (by omega)).1 e hi)
      · exact ((h2 i hi (by omega) (by omega) (by omega)).2 (by omega))
    split
    · refine ⟨fun p hp => ?_, fun i h3 h4 => by simp at h3; omega⟩
      rcases List.mem_append.1 hp with hp | hp
      · exact h1 p hp
      · obtain rfl := List.mem_singleton.1 hp
        intro i hi hlt
        exact hin i hi hlt
    · rename_i hc
      refine ⟨h1, fun i h3 h4 h5 h6 => ⟨fun e _ => ?_, fun h7 => hin i h3 h7⟩⟩
      have : i = n := by omega
      subst this
      simp only [not_or, Bool.not_eq_false] at hc
      exact hc.2

/-- rows of a list of views, each of one quotient, the quotients rising -/
def selRow (wd : Int) (m : Int) (l : List Pair) : List Pair := l.filter fun p => decide (p.key / wd = m)
theorem rows_views (wd : Int) (n : Nat) : ∀ (a : Nat) (vs : List (List Pair)) (qs : List Nat), qs.length = vs.length → (∀ i (h : i < vs.length) (h' : i < qs.length), vs[i] ≠ [] ∧ ∀ p ∈ vs[i], p.key / wd = (qs[i] : Int)) → qs.Pairwise (· < ·) → (∀ q ∈ qs, a ≤ q ∧ q < a + n) →
    (List.range' a n).flatMap (fun m : Nat => if (selRow wd m vs.flatten).length = 0 then [] else [grp (m * wd) (selRow wd m vs.flatten)]) = (vs.zip qs).map fun x => grp (x.2 * wd) x.1 := by
  induction n with
  | zero =>
    intro a vs qs hl hv hp hb
    cases qs with
    | nil => simp
    | cons q qs => have := hb q List.mem_cons_self; omega
  | succ n ih =>
    intro a vs qs hl hv hp hb
    rw [List.range'_succ, List.flatMap_cons]
    match vs, qs, hl with
    | [], [], _ =>
      have := ih (a + 1) [] [] rfl (by simp) List.Pairwise.nil (by simp)
      rw [this]
      simp [selRow]
    | v :: vs, q :: qs, hl =>
      have hv0 := hv 0 (by simp) (by simp)
      simp only [List.getElem_cons_zero] at hv0
      have hvs : ∀ i (h : i < vs.length) (h' : i < qs.length), vs[i] ≠ [] ∧ ∀ p ∈ vs[i], p.key / wd = (qs[i] : Int) := fun i h h' => by
        have := hv (i + 1) (by simp; omega) (by simp; omega)
        simpa using this
      rw [List.pairwise_cons] at hp
      have hrest : ∀ m : Nat, m ≤ q → selRow wd m vs.flatten = [] := fun m hm => by
        rw [selRow, List.filter_eq_nil_iff]
        intro p hp2
        obtain ⟨u, hu, hpu⟩ := List.mem_flatten.1 hp2
        obtain ⟨i, hi, rfl⟩ := List.getElem_of_mem hu
        have h3 := (hvs i hi (by simp at hl; omega)).2 p hpu
        have h5 : i < qs.length := by simp at hl; omega
        have h4 := hp.1 qs[i] (List.getElem_mem h5)
        simp; omega
      have hfl : ∀ m : Nat, selRow wd m (v :: vs).flatten = (if m = q then v else []) ++ selRow wd m vs.flatten := fun m => by
        rw [List.flatten_cons, selRow, List.filter_append]
        congr 1
        split
        · rename_i e
          rw [List.filter_eq_self]
          intro p hp2
          have := hv0.2 p hp2
          simp; omega
        · rename_i e
          rw [List.filter_eq_nil_iff]
          intro p hp2
          have := hv0.2 p hp2
          simp; omega
      have hbq := hb q List.mem_cons_self
      by_cases hqa : q = a
      · subst hqa
        have e1 : selRow wd q (v :: vs).flatten = v := by rw [hfl, if_pos rfl, hrest q (Nat.le_refl _), List.append_nil]
        rw [e1, if_neg (by have := hv0.1; simpa using this)]
        have := ih (q + 1) vs qs (by simpa using hl) hvs hp.2 (fun r hr => by have h1 := hp.1 r hr; have h2 := hb r (List.mem_cons_of_mem _ hr); omega)
        rw [List.zip_cons_cons, List.map_cons, ← this]
        rw [List.singleton_append]
        congr 1
        have hcg : ∀ (xs : List Nat) (f g : Nat → List Group), (∀ x ∈ xs, f x = g x) → xs.flatMap f = xs.flatMap g := fun xs f g h => by
          induction xs with
          | nil => rfl
          | cons x xs ih2 => rw [List.flatMap_cons, List.flatMap_cons, h x List.mem_cons_self, ih2 (fun y hy => h y (List.mem_cons_of_mem _ hy))]
        apply hcg
        intro m hm
        rw [List.mem_range'_1] at hm
        have e2 : selRow wd m (v :: vs).flatten = selRow wd m vs.flatten := by rw [hfl, if_neg (by omega), List.nil_append]
        rw [e2]
      · have e1 : selRow wd a (v :: vs).flatten = [] := by rw [hfl, if_neg (by omega), hrest a (by omega)]; rfl
        rw [e1]
        have := ih (a + 1) (v :: vs) (q :: qs) hl hv (List.pairwise_cons.2 hp) (fun r hr => by
          have h2 := hb r hr
          rcases List.mem_cons.1 hr with rfl | hr
          · omega
          · have h1 := hp.1 r hr; omega)
        rw [this]
        rfl

theorem rising (f : Nat → Nat) (n : Nat) (h : ∀ i, i + 1 < n → f i < f (i + 1)) : ∀ i j, i < j → j < n → f i < f j := by
  intro i j hij hj
  obtain ⟨d, rfl⟩ : ∃ d, j = i + 1 + d := ⟨j - i - 1, by omega⟩
  clear hij
  induction d with
  | zero => exact h i hj
  | succ d ih =>
    have h1 := ih (by omega)
    have h2 := h (i + 1 + d) (by omega)
    have : i + 1 + (d + 1) = i + 1 + d + 1 := by omega
    rw [this]; omega
theorem ediv_eq_iff_row {k wd : Int} (m : Int) (hw : 1 ≤ wd) : k / wd = m ↔ m * wd ≤ k ∧ k - m * wd < wd := by
  constructor
  · rintro rfl
    have h1 := Int.ediv_mul_le k (show wd ≠ 0 by omega)
    have h2 := Int.lt_ediv_add_one_mul_self k (show 0 < wd by omega)
    rw [Int.add_mul] at h2
    omega
  · rintro ⟨h1, h2⟩
    have h3 := Int.le_ediv_of_mul_le (show 0 < wd by omega) h1
    have h4 : k / wd < m + 1 := Int.ediv_lt_of_lt_mul (by omega) (by rw [Int.add_mul]; omega)
    omega
theorem cuts_quo {l : List Pair} {wd : Int} {p : Nat × Nat} (hp : p ∈ cuts (togW wd) l) : ∀ q ∈ viewOf l p, q.key / wd = l[p.1]!.key / wd := by
  have h := (cutsN_tog (togW wd) l l.length (Nat.le_refl _)).1 p hp
  have hg := cutsN_good (togW wd) l l.length p hp
  have key : ∀ d, p.1 + d < p.2 → l[p.1 + d]!.key / wd = l[p.1]!.key / wd := fun d => by
    induction d with
    | zero => intro _; rfl
    | succ d ih =>
      intro hd
      have h1 := h (p.1 + d) (by omega) (by omega)
      rw [← ih (by omega)]
      simp only [togW, beq_iff_eq] at h1
      exact h1.symm
  intro q hq
  obtain ⟨i, hi, rfl⟩ := List.getElem_of_mem hq
  have hi2 : i < p.2 - p.1 := by simp [viewOf] at hi; omega
  have := key i (by omega)
  rw [getElem!_pos l (p.1 + i) (by omega)] at this
  rw [← this]
  simp [viewOf]
theorem groups_rows {l : List Pair} (hp : l.Pairwise fun p q => p.key < q.key) (hok : ∀ p ∈ l, okPair p = true) {wd : Int} (hw : 1 ≤ wd) (M : Nat) (hM : 4096 ≤ (M : Int) * wd) :
    groups wd l = (List.range' 0 M).flatMap fun m : Nat => if (selRow wd m l).length = 0 then [] else [grp (m * wd) (selRow wd m l)] := by
  have hfl : ((cuts (togW wd) l).map (viewOf l)).flatten = l := by rw [← List.flatMap_def]; exact cuts_part _ _
  have hqn : ∀ p ∈ cuts (togW wd) l, 0 ≤ l[p.1]!.key / wd ∧ l[p.1]!.key / wd < M := fun p hpc => by
    have hg := cutsN_good (togW wd) l l.length p hpc
    rw [getElem!_pos l p.1 (by omega)]
    have h1 := okPair_key (hok l[p.1] (List.getElem_mem _))
    exact ⟨Int.ediv_nonneg h1.1 (by omega), Int.ediv_lt_of_lt_mul (by omega) (by omega)⟩
  have h := rows_views wd M 0 ((cuts (togW wd) l).map (viewOf l)) ((cuts (togW wd) l).map fun p => (l[p.1]!.key / wd).toNat) (by simp) (fun i hi hi' => by
    simp only [List.length_map] at hi
    simp only [List.getElem_map]
    have hm := List.getElem_mem hi
    refine ⟨cuts_view hm, fun p hp2 => ?_⟩
    rw [cuts_quo hm p hp2]
    have := hqn _ hm
    omega) (by
    rw [List.pairwise_iff_getElem]
    intro i j hi hj hij
    simp only [List.length_map] at hi hj
    have hr := rising (fun i => if h : i < (cuts (togW wd) l).length then (l[((cuts (togW wd) l)[i]).1]!.key / wd).toNat else 0) (cuts (togW wd) l).length (fun k hk => by
      have h1 := groups_rise hp hw k (by rw [groups_length]; exact hk)
      simp only [groups, List.getElem_map, gAt, grp] at h1
      have h2 := Int.lt_of_mul_lt_mul_right h1 (by omega)
      have h3 := hqn _ (List.getElem_mem hk)
      have h4 := hqn _ (List.getElem_mem (show k < (cuts (togW wd) l).length by omega))
      simp only [hk, dif_pos, show k < (cuts (togW wd) l).length by omega]
      omega) i j hij hj
    simp only [hi, hj, dif_pos] at hr
    simpa using hr) (fun q hq => by
    obtain ⟨p, hpc, rfl⟩ := List.mem_map.1 hq
    have := hqn p hpc
    omega)
  rw [hfl] at h
  rw [h, groups, List.zip_map', List.map_map]
  apply List.map_congr_left
  intro p hpc
  have := hqn p hpc
  simp only [Function.comp, gAt, viewOf]
  rw [Int.toNat_of_nonneg this.1]
theorem rgN_rows (wd : Int) (l : List Pair) (on : List Span) (M : Nat) : rgN wd l on M = (List.range' 0 M).flatMap fun m : Nat => if (rowF wd l on (m * wd)).length = 0 then [] else [foldG (m * wd) (rowF wd l on (m * wd))] := by
  induction M with
  | zero => rfl
  | succ M ih =>
    rw [show rgN wd l on (M + 1) = rgN wd l on M ++ (if (rowF wd l on (M * wd)).length = 0 then [] else [foldG (M * wd) (rowF wd l on (M * wd))]) from rfl, ih, List.range'_concat, List.flatMap_append]
    simp
theorem row_sel {l : List Pair} {on : List Span} (h1 : isTable l = true) (h2 : isSet on = true) {wd : Int} (hw : 1 ≤ wd) (m : Nat) : rowF wd l on (m * wd) = selRow wd m (clip l on) := by
  rw [rowF, selRow, clip, List.filter_filter]
  congr 1
  funext p
  have h := ediv_eq_iff_row (k := p.key) (m : Int) hw
  rw [Bool.eq_iff_iff]
  simp only [inRow, inClip, h1, h2, Bool.and_eq_true, decide_eq_true_eq, Bool.true_and, h]
theorem refGroups_eq {l : List Pair} {on : List Span} {wd : Int} (hg : gBad l on wd = false) (M : Nat) (hM : 4096 ≤ (M : Int) * wd) : rgN wd l on M = groups wd (clip l on) := by
  have e1 : isTable l = true := by
    cases h : isTable l with
    | true => rfl
    | false => simp [gBad, h] at hg
  have e2 : isSet on = true := by
    cases h : isSet on with
    | true => rfl
    | false => simp [gBad, h] at hg
  have hw : 1 ≤ wd := by
    simp [gBad, e1, e2] at hg
    omega
  rw [rgN_rows, groups_rows (clip_pairwise l on) (fun p hp => clip_ok hp) hw M hM]
  congr 1
  funext m
  rw [row_sel e1 e2 hw, foldG_eq]
  split <;> rfl


/-- the groups of the reference, whatever the width -/
def gaL (l : List Pair) (on : List Span) (wd : Int) : List Group := if gBad l on wd = true then [] else groups wd (clip l on)
def gaE (l : List Pair) (on : List Span) (wd : Int) : Int := if gBad l on wd = true then 1 else 0
theorem gaL_length (l : List Pair) (on : List Span) (wd : Int) : (gaL l on wd).length ≤ l.length := by
  unfold gaL
  split
  · simp
  · have h1 := groups_length wd (clip l on)
    have h2 := cuts_length (togW wd) (clip l on)
    have h3 := clip_length l on
    omega
theorem ref22_Groups (A B : Option Addr) (c d : Nat) (l : List Pair) (on : List Span) (wd : Int) (w : World) (hr : Sl kPair w A c l) (hs : Sl kSpan w B d on) (hbig : l.length ≤ 1000000) :
    Calls Try.prog 36 #[.slice A l.length c, .slice B on.length d, .int .i64 wd] w fun e w' => ∃ C c', e = .returned (.tuple #[.slice C (gaL l on wd).length c', .int .i64 (gaE l on wd)]) ∧ Sl kGroup w' C c' (gaL l on wd) ∧ Below w.heap.size w w' := by
  unfold gaL gaE
  cases h : gBad l on wd with
  | true => exact (ref22_Groups_bad A B c d l on wd w hr hs h).mono fun e w' ⟨he, hb⟩ => ⟨none, 0, he, Sl.nil _ _ _ _, hb⟩
  | false =>
    refine (ref22_Groups_good A B c d l on wd w hr hs hbig h).mono fun e w' ⟨m, C, c', hm, he, hS, hb⟩ => ?_
    rw [refGroups_eq h m hm] at he hS
    exact ⟨C, c', he, hS, hb⟩
theorem scan_Groups (A B : Option Addr) (c d : Nat) (l : List Pair) (on : List Span) (wd : Int) (w : World) (hr : Sl kPair w A c l) (hs : Sl kSpan w B d on) (hbig : l.length ≤ 1000000) :
    Calls Try.prog 35 #[.slice A l.length c, .slice B on.length d, .int .i64 wd] w fun e w' => ∃ C c', e = .returned (.tuple #[.slice C (gaL l on wd).length c', .int .i64 (gaE l on wd)]) ∧ Sl kGroup w' C c' (gaL l on wd) ∧ Below w.heap.size w w' := by
  unfold gaL gaE
  cases h : gBad l on wd with
  | true => exact (scan_Groups_bad A B c d l on wd w hr hs h).mono fun e w' ⟨he, hb⟩ => ⟨none, 0, he, Sl.nil _ _ _ _, hb⟩
  | false => exact (scan_Groups_good A B c d l on wd w hr hs hbig h).mono fun e w' ⟨C, c', he, ho, hb⟩ => ⟨C, c', he, ho.sl2, hb⟩

end Go.Proofs.Ytoeipkjpgbdioaa
