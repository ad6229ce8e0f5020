/- The law ScanTops: what it answers. -/
import Derived.Test.YtoeipkjpgbdioaaTopLaw
set_option linter.unusedVariables false
set_option linter.unusedSimpArgs false
namespace Go.Proofs.Ytoeipkjpgbdioaa
open Go.RowKit Go.Shelf Go.Proofs.YtoeipkjpgbdioaaW.PrintWords

set_option maxHeartbeats 4000000 in
set_option maxRecDepth 100000 in
theorem law22_ScanTops (A B : Option Addr) (c d : Nat) (l : List Pair) (on : List Span) (n : Int) (w : World) (hr : Sl kPair w A c l) (hs : Sl kSpan w B d on) :
    Calls Try.prog 5 #[.slice A l.length c, .slice B on.length d, .int .i64 n] w fun e w' => e = .returned (.bool true) ∧ Below w.heap.size w w' := by
  have HFew := Aside0.mk (law22_few A B c d l on w)
  have HAw := Aside0.mk (fun W => law22_awake W)
  have hr0 := Aside0.mk hr
  have hs0 := Aside0.mk hs
  clear hr hs
  cases ef : few l on with
  | false =>
    rw [ef] at HFew
    clear ef
    go_enter Try.func5, Try.ntmps5
    go_wp2_with (first | (go_at_call 24; with_reducible refine HFew.out.mono ?_; rintro e w1 ⟨rfl, hb⟩; have HB1 := Aside0.mk hb; clear hb) | (go_at_call 25; with_reducible refine (HAw.out _).mono ?_; rintro e w2 ⟨rfl, hb⟩; have HB2 := Aside0.mk (via HB1.out hb); clear hb))
    go_ret
    exact ⟨rfl, HB2.out⟩
  | true =>
    have hl : l.length ≤ 100 ∧ on.length ≤ 100 := by simpa [few] using ef
    rw [ef] at HFew
    clear ef
    by_cases h60 : 60 < l.length
    · have t1 : decide ((60 : Int) < (l.length : Int)) = true := by simp; omega
      have t2 : decide (60 < l.length) = true := by simp; omega
      clear hl h60
      go_enter Try.func5, Try.ntmps5
      go_wp2_with (first | (go_at_call 24; with_reducible refine HFew.out.mono ?_; rintro e w1 ⟨rfl, hb⟩; have HB1 := Aside0.mk hb; clear hb) | (go_at_call 25; with_reducible refine (HAw.out _).mono ?_; rintro e w2 ⟨rfl, hb⟩; have HB2 := Aside0.mk (via HB1.out hb); clear hb))
      go_ret
      exact ⟨rfl, HB2.out⟩
    · have t1 : decide ((60 : Int) < (l.length : Int)) = false := by simp; omega
      have t2 : decide (60 < l.length) = false := by simp; omega
      have hal : (clip l on).length ≤ 100 := by have := clip_length l on; omega
      have hpw := clip_pairwise l on
      have HT := Aside0.mk (fun W (h : Below w.heap.size w W) => scan_Top A B c d l on n W (hr0.out.below h) (hs0.out.below h) (by omega))
      have HR := Aside0.mk (fun C c' m W (hm : m.length ≤ 100) (h : Sl kPair W C c' m) => calls_own (law05_Refs C c' m W h (by omega)))
      have HR3 := Aside0.mk (fun W (h : Below w.heap.size w W) => calls_own (law03_Refs B d on W (hs0.out.below h) (by omega)))
      have HRT := Aside0.mk (fun C c' D d' W (h1 : Sl kPair W C c' l) (h2 : Sl kSpan W D d' on) => calls_own (ref22_Top C D c' d' l on n W h1 h2 (by omega)))
      rw [refTop_eq hpw] at HRT
      have hto : (topOf (clip l on) n).length ≤ 100 := by unfold topOf; rw [List.length_take, sortTop_length]; omega
      clear hpw h60
      generalize topOf (clip l on) n = top at *
      have HS := Aside0.mk (fun C c' D d' W (h1 : Sl kPair W C c' top) (h2 : Sl kPair W D d' top) => ref05_Same C D c' d' top top W h1 h2)
      simp only [decide_true] at HS
      obtain ⟨hl1, hl2⟩ := hl
      go_enter Try.func5, Try.ntmps5
      go_wp2_with (first
        | (go_at_call 24; with_reducible refine HFew.out.mono ?_; rintro e w1 ⟨rfl, hb⟩; have HB1 := Aside0.mk hb; clear hb)
        | (go_at_call 25; with_reducible refine (HAw.out _).mono ?_; rintro e w2 ⟨rfl, hb⟩; have HB2 := Aside0.mk (via HB1.out hb); clear hb)
        | (go_at_call 32; with_reducible refine (HT.out _ HB2.out).mono ?_; rintro e w3 ⟨C3, c3, rfl, hs, hb⟩; have HB3 := Aside0.mk (via HB2.out hb); have HS3 := Aside0.mk hs; clear hs hb)
        | (go_at_call 28; with_reducible refine (HR.out _ _ top _ hto HS3.out).mono ?_; rintro e w4 ⟨C4, c4, rfl, ho, hs, hb⟩; have HB4 := Aside0.mk (via HB3.out hb); have HS4 := Aside0.mk hs; clear ho hs hb HS3)
        | (go_at_call 28; with_reducible refine (HR.out _ _ l _ hl1 (hr0.out.below HB4.out)).mono ?_; rintro e w5 ⟨C5, c5, rfl, ho, hs, hb⟩; have HB5 := Aside0.mk (via HB4.out hb); have HS5 := Aside0.mk hs; have HS45 := Aside0.mk (HS4.out.below hb); clear ho hs hb)
        | (go_at_call 34; with_reducible refine (HR3.out _ HB5.out).mono ?_; rintro e w6 ⟨C6, c6, rfl, ho, hs, hb⟩; have HB6 := Aside0.mk (via HB5.out hb); have HS6 := Aside0.mk hs; have HS56 := Aside0.mk (HS5.out.below hb); have HS46 := Aside0.mk (HS45.out.below hb); clear ho hs hb)
        | (go_at_call 33; with_reducible refine (HRT.out _ _ _ _ _ HS56.out HS6.out).mono ?_; rintro e w7 ⟨C7, c7, rfl, ho, hs, hb⟩; have HB7 := Aside0.mk (via HB6.out hb); have HS7 := Aside0.mk hs; have HS47 := Aside0.mk (HS46.out.below hb); clear ho hs hb)
        | (go_at_call 30; with_reducible refine (HS.out _ _ _ _ _ HS47.out HS7.out).mono ?_; rintro e w8 ⟨rfl, hb⟩; have HB8 := Aside0.mk (via HB7.out hb); clear hb))
      go_ret
      exact ⟨rfl, HB8.out⟩

end Go.Proofs.Ytoeipkjpgbdioaa
