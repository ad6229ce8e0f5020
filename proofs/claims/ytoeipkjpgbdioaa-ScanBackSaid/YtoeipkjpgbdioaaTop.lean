/- scan.Top: the pairs of the greatest values, the library's sort in between. -/
import Derived.Test.YtoeipkjpgbdioaaSortLay
import Derived.Test.YtoeipkjpgbdioaaGroups
set_option linter.unusedVariables false
set_option linter.unusedSimpArgs false
namespace Go.Proofs.Ytoeipkjpgbdioaa
open Go.RowKit Go.Shelf Go.Sort Go.Proofs.YtoeipkjpgbdioaaW.PrintWords

theorem ltTop (a b : Pair) : ltOf cmpTop a b = decide (b.val < a.val ∨ (a.val = b.val ∧ a.key < b.key)) := by
  unfold ltOf cmpTop orInt
  rw [decide_eq_decide]
  by_cases h : cmpInt b.val a.val = 0
  · rw [if_pos h, cmpInt_neg]
    rw [cmpInt_zero] at h
    omega
  · rw [if_neg h, cmpInt_neg]
    rw [cmpInt_zero] at h
    omega
theorem swoTop : SWO (ltOf cmpTop) where
  irrefl x := by rw [ltTop]; simp
  trans x y z h1 h2 := by rw [ltTop] at *; simp only [decide_eq_true_eq] at *; omega
  ntrans x y z h1 h2 := by rw [ltTop] at *; simp only [decide_eq_false_iff_not] at *; omega
theorem totTop (x y : Pair) (h1 : ltOf cmpTop x y = false) (h2 : ltOf cmpTop y x = false) : x = y := by
  rw [ltTop] at *
  simp only [decide_eq_false_iff_not] at *
  have hk : x.key = y.key := by omega
  have hv : x.val = y.val := by omega
  cases x; cases y; simp_all

def sortTop (l : List Pair) : List Pair := l.mergeSort fun x y => !(ltOf cmpTop) y x
theorem sortTop_perm (l : List Pair) : (sortTop l).Perm l := List.mergeSort_perm _ _
theorem sortTop_length (l : List Pair) : (sortTop l).length = l.length := (sortTop_perm l).length_eq
theorem cmpTop_lays (blk off size : Nat) (w : World) : CmpLays Try.prog 99 #[] encPair 2 cmpTop blk off size w :=
  fun _ _ _ _ x y => scan_Top_1 x y _

set_option maxHeartbeats 1000000 in
theorem SortFunc_Pair (A : Option Addr) (n c base : Nat) (l : List Pair) (w : World) (ho : Own kPair 84 w base (.slice A l.length c) l) (hbig : l.length ≤ 1000000) :
    Calls Try.prog 98 #[.slice A l.length c, .func (.func 99) #[] #[]] w fun e w' => e = .returned (.tuple #[]) ∧ Own kPair 84 w' base (.slice A (sortTop l).length c) (sortTop l) ∧ Below base w w' := by
  by_cases h0 : l.length = 0
  · have h := AnyF.slices_SortFunc_none Try.sortPair A c (.func (.func 99) #[] #[]) w
    obtain rfl := List.length_eq_zero_iff.1 h0
    exact h.mono fun e w' ⟨he, hw⟩ => ⟨he, by subst hw; simpa [sortTop] using ho, by subst hw; exact Below.refl _ _⟩
  · obtain ⟨ad, rfl, _⟩ := pair_at ho.sl' 0 (by omega)
    have hform : ∃ g, ad = ⟨g, 0, none⟩ := by
      obtain ⟨_, inner, ⟨hlen, hor⟩, hr⟩ := ho
      rcases hor with ⟨he, _⟩ | ⟨g', cap', cur, he, _⟩
      · cases he
      · injection he with h1 _ _
        injection h1 with h1
        exact ⟨g', h1⟩
    obtain ⟨g, rfl⟩ := hform
    have h1 := own_sorted (ys := sortTop l) ho (by omega) (sortTop_length l) 0 #[]
    have h := AnyQ.slices_SortFunc_total Try.sortPair 2 Try.isAgg84 Try.sizeOf84 encPair (fun _ => rfl) (fun _ => one_of rfl) cmpTop swoTop 99 #[] g 0 c l.toArray w (enters_of Try.func99 (by kernel_rfl) rfl) (cmpTop_lays g 0 _ w) h1.2.2.1 h1.2.1 (by simp; omega) totTop
    refine h.mono fun e w' ⟨he, m, os, hw⟩ => ⟨he, ?_⟩
    have h2 := own_sorted (ys := sortTop l) ho (by omega) (sortTop_length l) m os
    rw [hw]
    refine ⟨?_, h2.2.2.2.2⟩
    have h3 := h2.2.2.2.1
    rw [← sortTop_length] at h3
    exact h3

def topOf (l : List Pair) (n : Int) : List Pair := (sortTop l).take (min l.length (max n 0).toNat)
set_option maxHeartbeats 1000000 in
theorem scan_Top (A B : Option Addr) (c d : Nat) (l : List Pair) (on : List Span) (n : Int) (w : World) (hr : Sl kPair w A c l) (hs : Sl kSpan w B d on) (hbig : l.length ≤ 1000000) :
    Calls Try.prog 32 #[.slice A l.length c, .slice B on.length d, .int .i64 n] w fun e w' => ∃ C c', e = .returned (.slice C (topOf (clip l on) n).length c') ∧ Sl kPair w' C c' (topOf (clip l on) n) ∧ Below w.heap.size w w' := by
  have HE := Aside0.mk (calls_own (table_Clip A B c d l on w hr hs hbig))
  have hal : (clip l on).length ≤ 1000000 := by have := clip_length l on; omega
  clear hr hs
  generalize clip l on = all at *
  have HF := Aside0.mk (fun C c' base W (h : Own kPair 84 W base (.slice C all.length c') all) => SortFunc_Pair C all.length c' base all W h hal)
  obtain ⟨m, hm⟩ : ∃ m : Nat, min all.length (max n 0).toNat = m := ⟨_, rfl⟩
  have hml : m ≤ all.length := by omega
  have hmi : min (all.length : Int) (max n 0) = (m : Int) := by omega
  have HT := Aside0.mk (show topOf all n = (sortTop all).take m by rw [topOf, hm])
  have hsl := sortTop_length all
  have hsla := Aside0.mk hsl
  rw [hsl] at HF
  obtain ⟨iP, hi1, hi2⟩ := pairInfo0
  have HS := Aside0.mk (fun C c' (hc : all.length ≤ c') => sl_take (P := Try.prog) (d := kPair) 47 84 Try.underlying47 hi1 C c' (sortTop all) m (by omega) (by omega))
  rw [hsl] at HS
  clear hi1 hi2 hm hsl
  go_enter Try.func32, Try.ntmps32
  go_wp2_with (first | (go_at_call 45; refine HE.out.mono ?_; rintro e w1 ⟨C, c1, rfl, ho, hs1, hb⟩; have HO1 := Aside0.mk ho; have HB1 := Aside0.mk hb; have hlc := hs1.1; obtain ⟨hsl1, hsl2⟩ := HS.out C c1 hlc; have HS2 := Aside0.mk hsl2; clear ho hb hs1 hsl2) | (go_at_call 98; refine (HF.out _ _ _ _ HO1.out).mono ?_; rintro e w2 ⟨rfl, ho, hb⟩; have HO2 := Aside0.mk ho; have HB2 := Aside0.mk (HB1.out.trans hb); clear ho hb))
  go_ret
  exact ⟨C, c1, by rw [HT.out, List.length_take]; rfl, by rw [HT.out]; exact HS2.out _ HO2.out.sl', HB2.out⟩

def few (l : List Pair) (on : List Span) : Bool := decide (l.length ≤ 100) && decide (on.length ≤ 100)
theorem law22_few (A B : Option Addr) (c d : Nat) (l : List Pair) (on : List Span) (w : World) :
    Calls Try.prog 24 #[.slice A l.length c, .slice B on.length d] w fun e w' => e = .returned (.bool (few l on)) ∧ Below w.heap.size w w' := by
  by_cases h : l.length ≤ 100
  · by_cases h2 : on.length ≤ 100
    · have t1 : decide ((l.length : Int) ≤ 100) = true := by simp; omega
      have t2 : decide ((on.length : Int) ≤ 100) = true := by simp; omega
      have E := Aside0.mk (show few l on = true by simp [few, h, h2])
      clear h h2
      go_enter Try.func24, Try.ntmps24
      go_wp2
      go_ret
      exact ⟨by rw [E.out]; rfl, Below.refl _ _⟩
    · have t1 : decide ((l.length : Int) ≤ 100) = true := by simp; omega
      have t2 : decide ((on.length : Int) ≤ 100) = false := by simp; omega
      have E := Aside0.mk (show few l on = false by simp [few, h2])
      clear h h2
      go_enter Try.func24, Try.ntmps24
      go_wp2
      go_ret
      exact ⟨by rw [E.out]; rfl, Below.refl _ _⟩
  · have t1 : decide ((l.length : Int) ≤ 100) = false := by simp; omega
    have E := Aside0.mk (show few l on = false by simp [few, h])
    clear h
    go_enter Try.func24, Try.ntmps24
    go_wp2
    go_ret
    exact ⟨by rw [E.out]; rfl, Below.refl _ _⟩

end Go.Proofs.Ytoeipkjpgbdioaa
