/- What scan.Text writes scan.Read reads; what it reads is what was written. -/
import Derived.Test.YtoeipkjpgbdioaaCurRead
import Derived.Test.YtoeipkjpgbdioaaCurText
set_option linter.unusedVariables false
set_option linter.unusedSimpArgs false
namespace Go.Proofs.Ytoeipkjpgbdioaa
open Go.RowKit Go.Shelf Go.Proofs.YtoeipkjpgbdioaaW.PrintWords Go.Proofs.YtoeipkjpgbdioaaW.PrintLast

theorem spansR_written : ∀ (l : List Span) (acc : List Span), (∀ s ∈ l, 0 ≤ s.lo ∧ s.lo < s.hi ∧ s.hi ≤ 4096) → spansR l.length (l.map spanL).flatten 0 acc = ([], 0, acc ++ l) := by
  intro l
  induction l with
  | nil => intro acc _; simp [spansR]
  | cons s t ih =>
    intro acc h
    obtain ⟨h1, h2, h3⟩ := h s List.mem_cons_self
    have ht := ih (acc ++ [s]) (fun u hu => h u (List.mem_cons_of_mem _ hu))
    rw [List.length_cons, List.map_cons, List.flatten_cons, spanL, List.append_assoc, spansR_step, numR_written (by omega)]
    simp only
    rw [numR_written (by omega)]
    simp only
    have e1 : (s.lo.toNat : Int) = s.lo := by omega
    have e2 : (s.hi.toNat : Int) = s.hi := by omega
    rw [e1, e2, ht]
    simp
theorem numL_ne (n : Nat) : numL n ≠ [] := by
  by_cases h : n < 128
  · rw [numL_small h]; simp
  · rw [numL_big h]; simp
theorem encC_ne (x : Cursor) : encC x ≠ [] := by
  intro h
  simp only [encC, headL, List.append_eq_nil_iff] at h
  exact numL_ne _ h.1.1.2
theorem read_written {x : Cursor} (h : okCur x = true) : curErr (encC x) = 0 ∧ curOut (encC x) = x := by
  obtain ⟨hset, ha1, ha2, hm1, hm2⟩ := okCur_facts h
  obtain ⟨hl, hsp⟩ := isSet_facts hset
  have hw : wholeN x.after < 9223372036854775808 := by unfold wholeN; split <;> omega
  have eA : rA (encC x) = ((wholeN x.after : Int), numL x.limit.toNat ++ (numL x.on.length ++ (x.on.map spanL).flatten), 0) := by
    rw [rA, encC, headL, wholeL, List.append_assoc, List.append_assoc, numR_written hw]
  have eB : rB (encC x) = ((x.limit.toNat : Int), numL x.on.length ++ (x.on.map spanL).flatten, 0) := by
    rw [rB, eA]; exact numR_written (by omega) _
  have eN : rN (encC x) = ((x.on.length : Int), (x.on.map spanL).flatten, 0) := by
    rw [rN, eB]; exact numR_written (by omega) _
  have eS : rS (encC x) = ([], 0, x.on) := by
    rw [rS, eN]
    have hmin : min ((x.on.length : Int)).toNat 65 = x.on.length := by simp; omega
    simp only [hmin]
    have := spansR_written x.on [] (fun s hs => by
      obtain ⟨i, hi, rfl⟩ := List.getElem_of_mem hs
      exact hsp i hi)
    simpa using this
  have eC : rC (encC x) = x := by
    rw [rC, eA, eB, eS]
    simp only
    rw [zOf_wholeN]
    have : (x.limit.toNat : Int) = x.limit := by omega
    rw [this]
  have e0 : curErr (encC x) = 0 := by
    rw [curErr, eC, eS, if_neg (by omega), if_neg (by simp [endR]), h]; rfl
  exact ⟨e0, by rw [curOut, if_pos e0, eC]⟩
theorem spansR_back : ∀ (k : Nat) (l : List UInt8) (e : Int) (acc : List Span) (s : List UInt8) (out : List Span), spansR k l e acc = (s, 0, out) → e = 0 ∧ ∃ new, out = acc ++ new ∧ l = (new.map spanL).flatten ++ s ∧ new.length = k := by
  intro k
  induction k with
  | zero =>
    intro l e acc s out h
    simp only [spansR, Prod.mk.injEq] at h
    obtain ⟨rfl, rfl, rfl⟩ := h
    exact ⟨rfl, [], by simp, by simp, rfl⟩
  | succ k ih =>
    intro l e acc s out h
    by_cases he : e = 0
    · subst he
      rw [spansR_step] at h
      obtain ⟨h2, new, hout, hl2, hlen⟩ := ih _ _ _ _ _ h
      rcases numR_cases (numR l 0).2.1 (numR l 0).2.2 with ⟨hx, _⟩ | ⟨h1, m2, hm2, e2, l2⟩
      · exact absurd h2 hx
      · rcases numR_cases l 0 with ⟨hx, _⟩ | ⟨_, m1, hm1, e1, l1⟩
        · exact absurd h1 hx
        · refine ⟨rfl, ⟨(numR l 0).1, (numR (numR l 0).2.1 (numR l 0).2.2).1⟩ :: new, by rw [hout]; simp, ?_, by simp [hlen]⟩
          have v1 : (numR l 0).1 = (m1 : Int) := by rw [e1]
          have v2 : (numR (numR l 0).2.1 (numR l 0).2.2).1 = (m2 : Int) := by rw [e2]
          rw [List.map_cons, List.flatten_cons, spanL]
          simp only [v1, v2, Int.toNat_natCast]
          rw [List.append_assoc, List.append_assoc, ← hl2, ← l2, ← l1]
    · rw [spansR_err he] at h
      simp only [Prod.mk.injEq] at h
      exact absurd h.2.1 he
theorem written_read {l : List UInt8} (h : curErr l = 0) : curOut l = rC l ∧ okCur (rC l) = true ∧ encC (rC l) = l := by
  refine ⟨by rw [curOut, if_pos h], ?_⟩
  rw [curErr] at h
  by_cases h1 : 64 < (rC l).on.length
  · rw [if_pos h1] at h; simp at h
  · rw [if_neg h1] at h
    by_cases h2 : endR (rS l).2.1 (rS l).1 ≠ 0
    · rw [if_pos h2] at h; exact absurd h h2
    · rw [if_neg h2] at h
      cases h3 : okCur (rC l) with
      | false => rw [h3] at h; simp at h
      | true =>
        refine ⟨rfl, ?_⟩
        have h4 : endR (rS l).2.1 (rS l).1 = 0 := by simpa using h2
        have h5 : (rS l).2.1 = 0 ∧ (rS l).1 = [] := by
          unfold endR at h4
          by_cases ha : (rS l).2.1 = 0
          · by_cases hb : (rS l).1 = []
            · exact ⟨ha, hb⟩
            · rw [if_pos ⟨ha, hb⟩] at h4; simp at h4
          · rw [if_neg (fun hc => ha hc.1)] at h4; exact absurd h4 ha
        have hS : rS l = ([], 0, (rC l).on) := by
          have : rS l = ((rS l).1, (rS l).2.1, (rS l).2.2) := rfl
          rw [this, h5.1, h5.2]; rfl
        obtain ⟨eN, new, hout, hl, hlen⟩ := spansR_back _ _ _ _ _ _ (show spansR (min (rN l).1.toNat 65) (rN l).2.1 (rN l).2.2 [] = ([], 0, (rC l).on) from hS)
        simp only [List.nil_append, List.append_nil] at hout hl
        rcases numR_cases (rB l).2.1 (rB l).2.2 with ⟨hx, _⟩ | ⟨eB, n, hn, en, ln⟩
        · exact absurd eN hx
        rcases numR_cases (rA l).2.1 (rA l).2.2 with ⟨hx, _⟩ | ⟨eA, b, hb, eb, lb⟩
        · exact absurd eB hx
        rcases numR_cases l 0 with ⟨hx, _⟩ | ⟨_, a, ha, ea, la⟩
        · exact absurd eA hx
        have v1 : (rA l).1 = (a : Int) := by rw [rA, ea]
        have v2 : (rB l).1 = (b : Int) := by rw [rB, eb]
        have v3 : (rN l).1 = (n : Int) := by rw [rN, en]
        rw [v3] at hlen
        have hn2 : n = (rC l).on.length := by rw [hout]; simp at hlen; rw [hout] at h1; omega
        have w1 : (rC l).after = zOf (a : Int) := by rw [rC, v1]
        have w2 : (rC l).limit = (b : Int) := by rw [rC, v2]
        rw [encC, headL, wholeL, w1, w2, wholeN_zOf, Int.toNat_natCast, ← hn2, hout, ← hl, List.append_assoc, List.append_assoc]
        show numL a ++ (numL b ++ (numL n ++ (numR (rB l).2.1 (rB l).2.2).2.1)) = l
        rw [← ln]
        show numL a ++ (numL b ++ (numR (rA l).2.1 (rA l).2.2).2.1) = l
        rw [← lb]
        exact la.symm

end Go.Proofs.Ytoeipkjpgbdioaa
