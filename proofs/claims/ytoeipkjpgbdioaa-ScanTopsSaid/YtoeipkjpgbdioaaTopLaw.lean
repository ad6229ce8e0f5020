/- The reference's Top tells what the library's sort tells: no program in sight. -/
import Derived.Test.YtoeipkjpgbdioaaRefTop
set_option linter.unusedVariables false
set_option linter.unusedSimpArgs false
namespace Go.Proofs.Ytoeipkjpgbdioaa
open Go.Shelf Go.Sort

def rkOf (l : List Pair) (p : Pair) : Nat := l.countP fun q => ltOf cmpTop q p
theorem lt_irr (p : Pair) : ltOf cmpTop p p = false := swoTop.irrefl p
theorem lt_tr {p q r : Pair} (h1 : ltOf cmpTop p q = true) (h2 : ltOf cmpTop q r = true) : ltOf cmpTop p r = true := swoTop.trans p q r h1 h2
theorem lt_asy {p q : Pair} (h : ltOf cmpTop p q = true) : ltOf cmpTop q p = false := by
  cases e : ltOf cmpTop q p with
  | false => rfl
  | true => have := lt_tr h e; rw [lt_irr] at this; cases this

theorem cntN_eq {l : List Pair} (hp : l.Pairwise fun p q => p.key < q.key) (i : Nat) (hi : i < l.length) : ∀ k, k ≤ l.length → cntN l i k = (l.take k).countP fun q => ltOf cmpTop q l[i]
  | 0, _ => by simp [cntN]
  | k + 1, hk => by
    have hkl : k < l.length := by omega
    have e : lessAt l i k = ltOf cmpTop l[k] l[i] := by
      rw [lessAt, ltTop, getElem!_pos l i hi, getElem!_pos l k hkl]
      rw [List.pairwise_iff_getElem] at hp
      have hlt : k < i ↔ l[k].key < l[i].key := by
        constructor
        · exact fun h => hp k i hkl hi h
        · intro h
          rcases Nat.lt_trichotomy k i with h1 | h1 | h1
          · exact h1
          · subst h1; omega
          · have := hp i k hi hkl h1; omega
      rw [Bool.eq_iff_iff]
      simp only [Bool.or_eq_true, Bool.and_eq_true, decide_eq_true_eq, beq_iff_eq, hlt]
    rw [cntN, cntN_eq hp i hi k (by omega), List.take_succ_eq_append_getElem hkl, List.countP_append, e]
    simp [List.countP_cons]
theorem cntN_rk {l : List Pair} (hp : l.Pairwise fun p q => p.key < q.key) (i : Nat) (hi : i < l.length) : cntN l i l.length = rkOf l l[i] := by
  rw [cntN_eq hp i hi _ (Nat.le_refl _), List.take_length]; rfl
theorem takN_eq {l : List Pair} (hp : l.Pairwise fun p q => p.key < q.key) (n : Int) : ∀ k, k ≤ l.length → takN l n k = (l.take k).filter fun p => decide ((rkOf l p : Int) < n)
  | 0, _ => by simp [takN]
  | k + 1, hk => by
    have hkl : k < l.length := by omega
    rw [takN, takN_eq hp n k (by omega), cntN_rk hp k hkl, List.take_succ_eq_append_getElem hkl, List.filter_append, getElem!_pos l k hkl]
    by_cases h : (rkOf l l[k] : Int) < n <;> simp [h]
theorem selN_eq {l : List Pair} (hp : l.Pairwise fun p q => p.key < q.key) (r : Nat) : ∀ k, k ≤ l.length → selN l r k = (l.take k).filter fun p => decide (rkOf l p = r)
  | 0, _ => by simp [selN]
  | k + 1, hk => by
    have hkl : k < l.length := by omega
    rw [selN, selN_eq hp r k (by omega), cntN_rk hp k hkl, List.take_succ_eq_append_getElem hkl, List.filter_append, getElem!_pos l k hkl]
    by_cases h : rkOf l l[k] = r <;> simp [h]
theorem outN_eq {l : List Pair} (hp : l.Pairwise fun p q => p.key < q.key) : ∀ r, outN l r = (List.range r).flatMap fun r => l.filter fun p => decide (rkOf l p = r)
  | 0 => by simp [outN]
  | r + 1 => by
    rw [outN, outN_eq hp r, selN_eq hp r _ (Nat.le_refl _), List.take_length, List.range_succ, List.flatMap_append]
    simp

/-- strictly sorted -/
def Srt (s : List Pair) : Prop := s.Pairwise fun p q => ltOf cmpTop p q = true
theorem srt_rk {s : List Pair} (hs : Srt s) (i : Nat) (hi : i < s.length) : rkOf s s[i] = i := by
  unfold Srt at hs
  rw [List.pairwise_iff_getElem] at hs
  unfold rkOf
  rw [show s.countP (fun q => ltOf cmpTop q s[i]) = (s.take i ++ s.drop i).countP (fun q => ltOf cmpTop q s[i]) by rw [List.take_append_drop], List.countP_append, List.countP_eq_length.2, List.countP_eq_zero.2]
  · simp; omega
  · intro p hp
    obtain ⟨k, hk, rfl⟩ := List.getElem_of_mem hp
    simp only [List.length_drop] at hk
    simp only [List.getElem_drop]
    rcases Nat.eq_zero_or_pos k with h0 | h0
    · subst h0; simp [lt_irr]
    · have := lt_asy (hs i (i + k) hi (by omega) (by omega)); simp [this]
  · intro p hp
    obtain ⟨k, hk, rfl⟩ := List.getElem_of_mem hp
    simp only [List.length_take] at hk
    simp only [List.getElem_take]
    exact hs k i (by omega) hi (by omega)
theorem sort_srt {l : List Pair} (hp : l.Pairwise fun p q => p.key < q.key) : Srt (sortTop l) := by
  have h1 : (sortTop l).Pairwise fun x y => (!ltOf cmpTop y x) = true := by
    refine List.pairwise_mergeSort (le := fun x y => !ltOf cmpTop y x) (fun a b c h1 h2 => ?_) (fun a b => ?_) l
    · simp only [Bool.not_eq_true'] at *
      exact swoTop.ntrans c b a h2 h1
    · cases e : ltOf cmpTop b a with
      | false => simp
      | true => simp [lt_asy e]
  have h2 : (sortTop l).Nodup := by
    rw [(sortTop_perm l).nodup_iff]
    exact hp.imp fun h e => by subst e; omega
  unfold Srt
  rw [List.nodup_iff_pairwise_ne] at h2
  refine (h1.and h2).imp fun {x y} ⟨hle, hne⟩ => ?_
  simp only [Bool.not_eq_true'] at hle
  cases e : ltOf cmpTop x y with
  | true => rfl
  | false => exact absurd (totTop x y e hle) hne
theorem rk_perm {l s : List Pair} (h : s.Perm l) (p : Pair) : rkOf s p = rkOf l p := h.countP_eq _
theorem filter_rank {s : List Pair} (hs : Srt s) (r : Nat) (hr : r < s.length) : (s.filter fun p => decide (rkOf s p = r)) = [s[r]] := by
  have e : s = s.take r ++ s[r] :: s.drop (r + 1) := by rw [List.getElem_cons_drop, List.take_append_drop]
  have h1 : (s.take r).filter (fun p => decide (rkOf s p = r)) = [] := by
    rw [List.filter_eq_nil_iff]
    intro p hp
    obtain ⟨k, hk, rfl⟩ := List.getElem_of_mem hp
    simp only [List.length_take] at hk
    simp only [List.getElem_take, decide_eq_true_eq]
    rw [srt_rk hs k (by omega)]
    omega
  have h2 : (s.drop (r + 1)).filter (fun p => decide (rkOf s p = r)) = [] := by
    rw [List.filter_eq_nil_iff]
    intro p hp
    obtain ⟨k, hk, rfl⟩ := List.getElem_of_mem hp
    simp only [List.length_drop] at hk
    simp only [List.getElem_drop, decide_eq_true_eq]
    rw [srt_rk hs _ (by omega)]
    omega
  conv => lhs; arg 2; rw [e]
  rw [List.filter_append, List.filter_cons, h1, h2, srt_rk hs r hr]
  simp
theorem take_rank {s : List Pair} (hs : Srt s) (n : Int) : (s.filter fun p => decide ((rkOf s p : Int) < n)) = s.take (min s.length (max n 0).toNat) := by
  have h1 : (s.take (min s.length (max n 0).toNat)).filter (fun p => decide ((rkOf s p : Int) < n)) = s.take (min s.length (max n 0).toNat) := by
    rw [List.filter_eq_self]
    intro p hp
    obtain ⟨k, hk, rfl⟩ := List.getElem_of_mem hp
    simp only [List.length_take] at hk
    simp only [List.getElem_take, decide_eq_true_eq]
    rw [srt_rk hs k (by omega)]
    omega
  have h2 : (s.drop (min s.length (max n 0).toNat)).filter (fun p => decide ((rkOf s p : Int) < n)) = [] := by
    rw [List.filter_eq_nil_iff]
    intro p hp
    obtain ⟨k, hk, rfl⟩ := List.getElem_of_mem hp
    simp only [List.length_drop] at hk
    simp only [List.getElem_drop, decide_eq_true_eq]
    rw [srt_rk hs _ (by omega)]
    omega
  conv => lhs; arg 2; rw [← List.take_append_drop (min s.length (max n 0).toNat) s]
  rw [List.filter_append, h1, h2, List.append_nil]
theorem flatMap_same {α β : Type} (f g : α → List β) : ∀ (l : List α), (∀ x ∈ l, f x = g x) → l.flatMap f = l.flatMap g
  | [], _ => rfl
  | a :: l, h => by
    rw [List.flatMap_cons, List.flatMap_cons, h a List.mem_cons_self, flatMap_same f g l (fun x hx => h x (List.mem_cons_of_mem _ hx))]
theorem flatMap_one {α β : Type} (g : α → β) : ∀ l : List α, l.flatMap (fun x => [g x]) = l.map g
  | [] => rfl
  | a :: l => by rw [List.flatMap_cons, flatMap_one g l]; rfl
theorem out_sort {t : List Pair} (hp : t.Pairwise fun p q => p.key < q.key) : outN t t.length = sortTop t := by
  rw [outN_eq hp]
  have hs := sort_srt hp
  have hl := sortTop_length t
  have h1 : ∀ r ∈ List.range t.length, (t.filter fun p => decide (rkOf t p = r)) = [(sortTop t)[r]!] := by
    intro r hr
    have hr := List.mem_range.1 hr
    have h2 := filter_rank hs r (by omega)
    have h3 : (t.filter fun p => decide (rkOf t p = r)).Perm [(sortTop t)[r]!] := by
      rw [getElem!_pos _ r (by omega), ← h2]
      have h4 : (fun p => decide (rkOf (sortTop t) p = r)) = fun p => decide (rkOf t p = r) := by
        funext p
        rw [rk_perm (sortTop_perm t)]
      rw [h4]
      exact ((sortTop_perm t).filter _).symm
    exact List.perm_singleton.1 h3
  rw [flatMap_same _ _ _ h1, flatMap_one]
  apply List.ext_getElem
  · simp [hl]
  · intro i h3 h4
    rw [List.getElem_map, List.getElem_range, getElem!_pos _ i h4]
theorem refTop_eq {l : List Pair} (hp : l.Pairwise fun p q => p.key < q.key) (n : Int) : refTop l n = topOf l n := by
  unfold refTop topOf
  rw [takN_eq hp n _ (Nat.le_refl _), List.take_length, out_sort (hp.filter _)]
  have hs := sort_srt hp
  have h1 := take_rank hs n
  have h4 : (fun p => decide ((rkOf (sortTop l) p : Int) < n)) = fun p => decide ((rkOf l p : Int) < n) := by
    funext p
    rw [rk_perm (sortTop_perm l)]
  rw [h4, sortTop_length] at h1
  rw [← h1]
  refine List.Perm.eq_of_pairwise (le := fun x y => ltOf cmpTop x y = true) ?_ (sort_srt (hp.filter _)) ?_ (((sortTop_perm _).trans ((sortTop_perm l).filter _).symm))
  · intro a b _ _ h1 h2
    rw [lt_asy h1] at h2
    cases h2
  · exact hs.filter _

end Go.Proofs.Ytoeipkjpgbdioaa
