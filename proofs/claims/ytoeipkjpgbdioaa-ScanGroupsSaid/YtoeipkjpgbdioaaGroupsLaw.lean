/- The groups part the pairs: their totals are the total. No program in sight. -/
import Derived.Test.YtoeipkjpgbdioaaTotal
set_option linter.unusedVariables false
set_option linter.unusedSimpArgs false
namespace Go.Proofs.Ytoeipkjpgbdioaa

def viewOf (l : List Pair) (p : Nat × Nat) : List Pair := (l.take p.2).drop p.1
theorem cutsN_part (tog : Pair → Pair → Bool) (l : List Pair) : ∀ n, n ≤ l.length → (cutsN tog l n).1.flatMap (viewOf l) ++ (l.take n).drop (cutsN tog l n).2 = l.take n
  | 0, _ => by simp [cutsN]
  | n + 1, h => by
    have ih := cutsN_part tog l n (by omega)
    have hle := (cutsN_le tog l n).1
    have hn : n < l.length := by omega
    have hd : (l.take (n + 1)).drop (cutsN tog l n).2 = (l.take n).drop (cutsN tog l n).2 ++ [l[n]] := by
      rw [List.take_succ_eq_append_getElem hn, List.drop_append_of_le_length (by rw [List.length_take]; omega)]
    have hk : (cutsN tog l n).1.flatMap (viewOf l) ++ (l.take (n + 1)).drop (cutsN tog l n).2 = l.take (n + 1) := by
      rw [hd, ← List.append_assoc, ih, List.take_succ_eq_append_getElem hn]
    unfold cutsN
    split
    · rw [List.flatMap_append]
      dsimp only
      rw [List.drop_of_length_le (show (l.take (n + 1)).length ≤ n + 1 by rw [List.length_take]; omega), List.append_nil]
      simpa [viewOf] using hk
    · exact hk
theorem cuts_part (tog : Pair → Pair → Bool) (l : List Pair) : (cuts tog l).flatMap (viewOf l) = l := by
  have h := cutsN_part tog l l.length (Nat.le_refl _)
  rw [List.take_length] at h
  have hd : l.drop (cutsN tog l l.length).2 = [] := by
    cases l with
    | nil => simp
    | cons a t =>
      have : (cutsN tog (a :: t) (a :: t).length).2 = (a :: t).length := by
        show (cutsN tog (a :: t) (t.length + 1)).2 = _
        unfold cutsN
        rw [if_pos (.inl (by simp))]
        simp
      rw [this]
      exact List.drop_of_length_le (Nat.le_refl _)
  rw [hd, List.append_nil] at h
  exact h

theorem foldl_min_eq (b c : Int) : ∀ p : List Int, p.foldl min (min b c) = min b (p.foldl min c)
  | [] => rfl
  | x :: p => by
    rw [List.foldl_cons, List.foldl_cons, Int.min_assoc, foldl_min_eq b (min c x) p]
theorem foldl_max_eq (b c : Int) : ∀ p : List Int, p.foldl max (max b c) = max b (p.foldl max c)
  | [] => rfl
  | x :: p => by
    rw [List.foldl_cons, List.foldl_cons, Int.max_assoc, foldl_max_eq b (max c x) p]
theorem least_head (b : Int) (p : List Int) (h : p ≠ []) : p.foldl min b = min b (p.foldl min (p.headD 0)) := by
  cases p with
  | nil => exact absurd rfl h
  | cons x p => rw [List.foldl_cons, foldl_min_eq]; simp [List.foldl_cons]
theorem most_head (b : Int) (p : List Int) (h : p ≠ []) : p.foldl max b = max b (p.foldl max (p.headD 0)) := by
  cases p with
  | nil => exact absurd rfl h
  | cons x p => rw [List.foldl_cons, foldl_max_eq]; simp [List.foldl_cons]

/-- what the law's loop adds up: how many, the sum, the least, the greatest -/
def accN (gs : List Group) : Int := (gs.map (·.n)).sum
def accS (gs : List Group) : Int := (gs.map (·.sum)).sum
def accL (gs : List Group) : Int := (gs.map (·.least)).foldl min 1099511627777
def accM (gs : List Group) : Int := (gs.map (·.most)).foldl max (-1099511627777)
theorem vals_append (a b : List Pair) : vals (a ++ b) = vals a ++ vals b := by simp [vals]
theorem acc_parts (key : Nat × Nat → Int) (l : List Pair) : ∀ ps : List (Nat × Nat), (∀ p ∈ ps, viewOf l p ≠ []) → ∀ b c : Int,
    ((ps.map fun p => grp (key p) (viewOf l p)).map (·.n)).sum = ((ps.flatMap (viewOf l)).length : Int) ∧ ((ps.map fun p => grp (key p) (viewOf l p)).map (·.sum)).sum = (vals (ps.flatMap (viewOf l))).sum ∧
    ((ps.map fun p => grp (key p) (viewOf l p)).map (·.least)).foldl min b = (vals (ps.flatMap (viewOf l))).foldl min b ∧ ((ps.map fun p => grp (key p) (viewOf l p)).map (·.most)).foldl max c = (vals (ps.flatMap (viewOf l))).foldl max c
  | [], _, b, c => by simp [vals]
  | p :: ps, h, b, c => by
    have hne : vals (viewOf l p) ≠ [] := by
      have := h p List.mem_cons_self
      simpa [vals] using this
    obtain ⟨h1, h2, h3, h4⟩ := acc_parts key l ps (fun q hq => h q (List.mem_cons_of_mem _ hq)) ((vals (viewOf l p)).foldl min b) ((vals (viewOf l p)).foldl max c)
    simp only [List.map_cons, List.sum_cons, List.foldl_cons, List.flatMap_cons, vals_append, List.length_append, List.sum_append, List.foldl_append]
    refine ⟨?_, ?_, ?_, ?_⟩
    · rw [h1]; simp [grp]
    · rw [h2]; simp [grp]
    · rw [show min b (grp (key p) (viewOf l p)).least = (vals (viewOf l p)).foldl min b from (least_head b _ hne).symm]; exact h3
    · rw [show max c (grp (key p) (viewOf l p)).most = (vals (viewOf l p)).foldl max c from (most_head c _ hne).symm]; exact h4

theorem cuts_view {tog : Pair → Pair → Bool} {l : List Pair} {p : Nat × Nat} (hp : p ∈ cuts tog l) : viewOf l p ≠ [] := by
  have h := cutsN_good tog l l.length p hp
  intro e
  have : (viewOf l p).length = 0 := by rw [e]; rfl
  simp [viewOf] at this
  omega
theorem foldl_min_le (p : List Int) (b : Int) : p.foldl min b ≤ b := by
  induction p generalizing b with
  | nil => exact Int.le_refl _
  | cons x p ih => exact Int.le_trans (ih _) (Int.min_le_left _ _)
theorem foldl_max_ge (p : List Int) (b : Int) : b ≤ p.foldl max b := by
  induction p generalizing b with
  | nil => exact Int.le_refl _
  | cons x p ih => exact Int.le_trans (Int.le_max_left _ _) (ih _)
theorem groups_total {l : List Pair} (hok : ∀ p ∈ l, okPair p = true) (wd : Int) : accN (groups wd l) = l.length ∧ accS (groups wd l) = (vals l).sum ∧
    (0 < l.length → accL (groups wd l) = (vals l).foldl min ((vals l).headD 0) ∧ accM (groups wd l) = (vals l).foldl max ((vals l).headD 0)) := by
  obtain ⟨h1, h2, h3, h4⟩ := acc_parts (fun p => l[p.1]!.key / wd * wd) l (cuts (togW wd) l) (fun p hp => cuts_view hp) 1099511627777 (-1099511627777)
  rw [cuts_part] at h1 h2 h3 h4
  refine ⟨h1, h2, fun h0 => ?_⟩
  have hne : vals l ≠ [] := by
    intro e
    have : (vals l).length = 0 := by rw [e]; rfl
    simp [vals] at this
    rw [this] at h0
    simp at h0
  have hh : -1099511627776 ≤ (vals l).headD 0 ∧ (vals l).headD 0 ≤ 1099511627776 := by
    cases l with
    | nil => simp at h0
    | cons a t => simpa [vals] using okPair_val (hok a List.mem_cons_self)
  have e3 : accL (groups wd l) = (vals l).foldl min 1099511627777 := h3
  have e4 : accM (groups wd l) = (vals l).foldl max (-1099511627777) := h4
  rw [e3, e4, least_head _ _ hne, most_head _ _ hne]
  have g1 := foldl_min_le (vals l) ((vals l).headD 0)
  have g2 := foldl_max_ge (vals l) ((vals l).headD 0)
  omega

/-- neighbours: where one part ends the next begins, and there they do not go together -/
def Abut (tog : Pair → Pair → Bool) (l : List Pair) (us : List (Nat × Nat)) : Prop :=
  ∀ i (h : i + 1 < us.length), us[i].2 = us[i + 1].1 ∧ us[i].2 < l.length ∧ tog l[us[i].2 - 1]! l[us[i].2]! = false
def Abuts (tog : Pair → Pair → Bool) (l : List Pair) (x : List (Nat × Nat) × Nat) : Prop :=
  Abut tog l x.1 ∧ ∀ (h : 0 < x.1.length), x.1[x.1.length - 1].2 = x.2 ∧ (x.2 = l.length ∨ tog l[x.2 - 1]! l[x.2]! = false)
theorem cutsN_abut (tog : Pair → Pair → Bool) (l : List Pair) : ∀ n, n ≤ l.length → Abuts tog l (cutsN tog l n)
  | 0, _ => ⟨fun i h => by simp [cutsN] at h, fun h => by simp [cutsN] at h⟩
  | n + 1, hn => by
    have ih := cutsN_abut tog l n (by omega)
    have hle := (cutsN_le tog l n).1
    rw [show cutsN tog l (n + 1) = if n + 1 = l.length ∨ tog l[n]! l[n + 1]! = false then ((cutsN tog l n).1 ++ [((cutsN tog l n).2, n + 1)], n + 1) else cutsN tog l n from rfl]
    obtain ⟨us, fr, hcu⟩ : ∃ us fr, cutsN tog l n = (us, fr) := ⟨_, _, rfl⟩
    rw [hcu] at ih hle ⊢
    obtain ⟨ih1, ih2⟩ := ih
    dsimp only at ih1 ih2 hle ⊢
    split
    · rename_i hc
      refine ⟨fun i h => ?_, fun h => ⟨by simp, ?_⟩⟩
      · simp only [List.length_append, List.length_singleton] at h
        by_cases hi : i + 1 < us.length
        · have := ih1 i hi
          simpa [List.getElem_append_left, hi, (by omega : i < us.length)] using this
        · have hi2 : i + 1 = us.length := by omega
          obtain ⟨h3, h4⟩ := ih2 (by omega)
          have e : us.length - 1 = i := by omega
          simp only [e] at h3
          have g1 : (us ++ [(fr, n + 1)])[i]'(by simp; omega) = us[i] := List.getElem_append_left (by omega)
          have g2 : (us ++ [(fr, n + 1)])[i + 1]'(by simp; omega) = (fr, n + 1) := by rw [List.getElem_append_right (by omega)]; simp [hi2]
          simp only [g1, g2, h3]
          exact ⟨trivial, by omega, h4.resolve_left (by omega)⟩
      · rcases hc with hc | hc
        · exact .inl hc
        · exact .inr hc
    · exact ⟨ih1, ih2⟩

theorem groups_length (wd : Int) (l : List Pair) : (groups wd l).length = (cuts (togW wd) l).length := by simp [groups]
theorem groups_rise {l : List Pair} (hp : l.Pairwise fun p q => p.key < q.key) {wd : Int} (hw : 1 ≤ wd) (i : Nat) (h : i + 1 < (groups wd l).length) : (groups wd l)[i].key < (groups wd l)[i + 1].key := by
  have hl := groups_length wd l
  have hab := (cutsN_abut (togW wd) l l.length (Nat.le_refl _)).1 i (by rw [hl] at h; exact h)
  have hg := cuts_good (tog := togW wd) (l := l) (k := i) (by omega)
  have e1 : (groups wd l)[i].key = l[((cuts (togW wd) l)[i]'(by omega)).1]!.key / wd * wd := by simp [groups, gAt, grp]
  have e2 : (groups wd l)[i + 1].key = l[((cuts (togW wd) l)[i + 1]'(by omega)).1]!.key / wd * wd := by simp [groups, gAt, grp]
  rw [e1, e2]
  obtain ⟨h1, h2, h3⟩ : ((cuts (togW wd) l)[i]'(by omega)).2 = ((cuts (togW wd) l)[i + 1]'(by omega)).1 ∧ ((cuts (togW wd) l)[i]'(by omega)).2 < l.length ∧ togW wd l[((cuts (togW wd) l)[i]'(by omega)).2 - 1]! l[((cuts (togW wd) l)[i]'(by omega)).2]! = false := hab
  rw [← h1]
  generalize (cuts (togW wd) l)[i] = p at *
  obtain ⟨fr, tt⟩ := p
  dsimp only at *
  rw [List.pairwise_iff_getElem] at hp
  rw [getElem!_pos l (tt - 1) (by omega), getElem!_pos l tt h2] at h3
  rw [getElem!_pos l fr (by omega), getElem!_pos l tt h2]
  have k1 : l[fr].key ≤ l[tt - 1].key := by
    rcases Nat.lt_or_ge fr (tt - 1) with h4 | h4
    · exact Int.le_of_lt (hp fr (tt - 1) (by omega) (by omega) h4)
    · have : fr = tt - 1 := by omega
      subst this; exact Int.le_refl _
  have k2 := hp (tt - 1) tt (by omega) h2 (by omega)
  have d1 : l[fr].key / wd ≤ l[tt - 1].key / wd := Int.ediv_le_ediv (by omega) k1
  have d2 : l[tt - 1].key / wd ≤ l[tt].key / wd := Int.ediv_le_ediv (by omega) (Int.le_of_lt k2)
  have d3 : l[tt - 1].key / wd ≠ l[tt].key / wd := by simpa [togW] using h3
  exact Int.mul_lt_mul_of_pos_right (by omega) (by omega)

theorem groups_mem {l : List Pair} (hok : ∀ p ∈ l, okPair p = true) {wd : Int} (hw : 1 ≤ wd) (i : Nat) (h : i < (groups wd l).length) :
    (groups wd l)[i].key % wd = 0 ∧ 0 ≤ (groups wd l)[i].key ∧ (groups wd l)[i].key < 4096 ∧ 1 ≤ (groups wd l)[i].n ∧ (groups wd l)[i].n ≤ l.length := by
  have hl := groups_length wd l
  have hg := cuts_good (tog := togW wd) (l := l) (k := i) (by omega)
  have e1 : (groups wd l)[i].key = l[((cuts (togW wd) l)[i]'(by omega)).1]!.key / wd * wd := by simp [groups, gAt, grp]
  have e2 : (groups wd l)[i].n = (((l.take ((cuts (togW wd) l)[i]'(by omega)).2).drop ((cuts (togW wd) l)[i]'(by omega)).1).length : Int) := by simp [groups, gAt, grp]
  rw [e1, e2]
  generalize (cuts (togW wd) l)[i] = p at *
  rw [getElem!_pos l p.1 (by omega)]
  have hk := okPair_key (hok l[p.1] (List.getElem_mem _))
  have q1 : 0 ≤ l[p.1].key / wd * wd := Int.mul_nonneg (Int.ediv_nonneg hk.1 (by omega)) (by omega)
  have q2 : l[p.1].key / wd * wd ≤ l[p.1].key := Int.ediv_mul_le _ (by omega)
  refine ⟨Int.mul_emod_left _ _, q1, by omega, ?_, ?_⟩ <;> simp <;> omega

end Go.Proofs.Ytoeipkjpgbdioaa
