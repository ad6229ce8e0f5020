/- The reference's Top: by counting how many come before. -/
import Derived.Test.YtoeipkjpgbdioaaPlaces
set_option linter.unusedVariables false
set_option linter.unusedSimpArgs false
namespace Go.Proofs.Ytoeipkjpgbdioaa
open Go.RowKit Go.Shelf Go.Proofs.YtoeipkjpgbdioaaW.PrintWords

/-- whether place j comes before place i -/
def lessAt (l : List Pair) (i j : Nat) : Bool := decide (l[i]!.val < l[j]!.val) || (l[j]!.val == l[i]!.val && decide (j < i))
def cntN (l : List Pair) (i : Nat) : Nat → Nat
  | 0 => 0
  | k + 1 => cntN l i k + if lessAt l i k = true then 1 else 0
theorem cntN_le (l : List Pair) (i : Nat) : ∀ k, cntN l i k ≤ k
  | 0 => Nat.le_refl _
  | k + 1 => by
    have := cntN_le l i k
    unfold cntN
    split <;> omega
def takN (l : List Pair) (n : Int) : Nat → List Pair
  | 0 => []
  | k + 1 => if (cntN l k l.length : Int) < n then takN l n k ++ [l[k]!] else takN l n k
def selN (l : List Pair) (r : Nat) : Nat → List Pair
  | 0 => []
  | k + 1 => if cntN l k l.length = r then selN l r k ++ [l[k]!] else selN l r k
def outN (l : List Pair) : Nat → List Pair
  | 0 => []
  | r + 1 => outN l r ++ selN l r l.length
def refTop (l : List Pair) (n : Int) : List Pair := outN (takN l n l.length) (takN l n l.length).length
theorem takN_le (l : List Pair) (n : Int) : ∀ k, (takN l n k).length ≤ k
  | 0 => Nat.le_refl _
  | k + 1 => by
    have := takN_le l n k
    unfold takN
    split
    · simp; omega
    · omega
theorem selN_le (l : List Pair) (r : Nat) : ∀ k, (selN l r k).length ≤ k
  | 0 => Nat.le_refl _
  | k + 1 => by
    have := selN_le l r k
    unfold selN
    split
    · simp; omega
    · omega
theorem outN_le (l : List Pair) : ∀ r, (outN l r).length ≤ r * l.length
  | 0 => by simp [outN]
  | r + 1 => by
    have := outN_le l r
    have h := selN_le l r l.length
    unfold outN
    rw [List.length_append, Nat.add_mul, Nat.one_mul]
    omega

/- the counting loop: list L (readable at the loop's own world by HL), its place i; slots of the count and of the index -/

set_option maxHeartbeats 4000000 in
set_option maxRecDepth 100000 in
theorem ref22_Top (A B : Option Addr) (c d : Nat) (l : List Pair) (on : List Span) (n : Int) (w : World) (hr : Sl kPair w A c l) (hs : Sl kSpan w B d on) (hbig : l.length ≤ 1000) :
    Calls Try.prog 33 #[.slice A l.length c, .slice B on.length d, .int .i64 n] w fun e w' => ∃ v, e = .returned v ∧ Own kPair 172 w' w.heap.size v (refTop (clip l on) n) ∧ Below w.heap.size w w' := by
  have HE := Aside0.mk (calls_own (ref05_Clip A B c d l on w hr hs (by omega)))
  have hal : (clip l on).length ≤ 1000 := by have := clip_length l on; omega
  clear hr hs
  generalize clip l on = all at *
  go_enter Try.func33, Try.ntmps33
  go_wp2_with (go_at_call 41; refine HE.out.mono ?_; rintro e w1 ⟨C, c1, rfl, ho, hs1, hb⟩; have HS1 := Aside0.mk hs1; have HB1 := Aside0.mk hb; clear ho hb hs1)
  go_loopw [8, 9] (fun v i wr => ∃ k : Nat, k ≤ all.length ∧ i = .int .i64 k ∧ Aside0 (Own kPair 172 wr w1.heap.size v (takN all n k)) ∧ Aside0 (Below w1.heap.size w1 wr)) (fun _ i _ => all.length - (intOf i).toNat)
  case atStart => exact ⟨0, by omega, rfl, ⟨Own.nil _ _ _ _⟩, ⟨Below.refl _ _⟩⟩
  case round =>
    obtain ⟨k, hk, rfl, hO, hB⟩ := hrel
    by_cases hlt : k < all.length
    · have HLr := Aside0.mk (HS1.out.below hB.out)
      have htk := Aside0.mk (show takN all n (k + 1) = if (cntN all k all.length : Int) < n then takN all n k ++ [all[k]!] else takN all n k from rfl)
      have htl := takN_le all n k
      rw [getElem!_pos all k hlt] at htk
      go_wp2
      go_loopw [10, 11] (fun cc jj wq => ∃ j : Nat, j ≤ all.length ∧ jj = .int .i64 j ∧ cc = .int .i64 (cntN all k j : Nat) ∧ Aside0 (Below wr.heap.size wr wq)) (fun _ jj _ => all.length - (intOf jj).toNat)
      case atStart => exact ⟨0, by omega, rfl, rfl, ⟨Below.refl _ _⟩⟩
      case round =>
        obtain ⟨j, hj, rfl, rfl, hQ⟩ := hrel
        by_cases hjl : j < all.length
        · obtain ⟨ad, rfl, _, a1⟩ := pair_at (HLr.out.below hQ.out) j hjl
          obtain ⟨ad2, e2, _, b1⟩ := pair_at (HLr.out.below hQ.out) k (by omega)
          cases e2
          have hcl := cntN_le all k j
          have hst := Aside0.mk (show cntN all k (j + 1) = cntN all k j + if lessAt all k j = true then 1 else 0 from rfl)
          have hla := Aside0.mk (show lessAt all k j = (decide (all[k].val < all[j].val) || (all[j].val == all[k].val && decide (j < k))) by rw [lessAt, getElem!_pos all k (by omega), getElem!_pos all j hjl])
          generalize all[j].val = vj at *
          generalize all[k].val = vi at *
          rw [hla.out] at hst
          clear hla
          by_cases g1 : vi < vj
          · have f1 : decide (vi < vj) = true := decide_eq_true g1
            have hE := Aside0.mk (show cntN all k (j + 1) = cntN all k j + 1 by rw [hst.out, f1]; rfl)
            clear hst g1
            generalize cntN all k j = cn at *
            go_wp2
            go_quiet (fail)
            go_wp2
            go_roundw
            case rel => exact ⟨j + 1, by omega, by go_num, by rw [hE.out]; go_num, ⟨via hQ.out (pw_below_drewN (Below.refl _ _) _)⟩⟩
            case measure => simp [intOf]; omega
          · have f1 : decide (vi < vj) = false := decide_eq_false g1
            by_cases g2 : vj = vi
            · have f2 : (vj == vi) = true := by simp [g2]
              by_cases g3 : j < k
              · have f3 : decide ((j : Int) < (k : Int)) = true := by simp; omega
                have f4 : decide (j < k) = true := decide_eq_true g3
                have hE := Aside0.mk (show cntN all k (j + 1) = cntN all k j + 1 by rw [hst.out, f1, f2, decide_eq_true g3]; rfl)
                clear hst g1 g2 g3
                generalize cntN all k j = cn at *
                go_wp2
                go_quiet (fail)
                go_wp2
                go_roundw
                case rel => exact ⟨j + 1, by omega, by go_num, by rw [hE.out]; go_num, ⟨via hQ.out (pw_below_drewN (Below.refl _ _) _)⟩⟩
                case measure => simp [intOf]; omega
              · have f3 : decide ((j : Int) < (k : Int)) = false := by simp; omega
                have f4 : decide (j < k) = false := decide_eq_false g3
                have hE := Aside0.mk (show cntN all k (j + 1) = cntN all k j by rw [hst.out, f1, f2, decide_eq_false g3]; rfl)
                clear hst g1 g2 g3
                generalize cntN all k j = cn at *
                go_wp2
                go_quiet (fail)
                go_wp2
                go_roundw
                case rel => exact ⟨j + 1, by omega, by go_num, by rw [hE.out], ⟨via hQ.out (pw_below_drewN (Below.refl _ _) _)⟩⟩
                case measure => simp [intOf]; omega
            · have f2 : (vj == vi) = false := by simp [g2]
              have hE := Aside0.mk (show cntN all k (j + 1) = cntN all k j by rw [hst.out, f1, f2]; rfl)
              clear hst g1 g2
              generalize cntN all k j = cn at *
              go_wp2
              go_quiet (fail)
              go_wp2
              go_roundw
              case rel => exact ⟨j + 1, by omega, by go_num, by rw [hE.out], ⟨via hQ.out (pw_below_drewN (Below.refl _ _) _)⟩⟩
              case measure => simp [intOf]; omega
        · obtain rfl : j = all.length := by omega
          obtain ⟨ad, rfl, c0, c1'⟩ := pair_at (HLr.out.below hQ.out) k hlt
          have HO2 := Aside0.mk (hO.out.below hQ.out)
          have HB2 := Aside0.mk (via hB.out hQ.out)
          generalize all[k] = p at *
          by_cases hcn : (cntN all k all.length : Int) < n
          · have f1 : decide ((cntN all k all.length : Int) < n) = true := decide_eq_true hcn
            rw [if_pos hcn] at htk
            clear hcn
            generalize cntN all k all.length = cn at *
            go_wp2_with (at_builtin; go_must (refine own_append (w0 := w1) w1.heap.size rfl (.tmp 66) (.tmp 71) 54 172 (.agg #[.int .i64 0, .int .i64 0]) 16 rfl Try.underlying54 info172 rfl (by decide) (by omega) u8 (takN all n k) p rfl rfl HO2.out HB2.out HB2.out.size (by omega) ?_); intro v1 w4 ho hb hs; have HO4 := Aside0.mk ho; have HB4 := Aside0.mk hb; clear ho hb)
            go_roundw
            case rel => exact ⟨k + 1, by omega, by go_num, ⟨by rw [htk.out]; exact HO4.out⟩, HB4⟩
            case measure => simp [intOf]; omega
          · have f1 : decide ((cntN all k all.length : Int) < n) = false := decide_eq_false hcn
            rw [if_neg hcn] at htk
            clear hcn
            generalize cntN all k all.length = cn at *
            go_wp2
            go_roundw
            case rel => exact ⟨k + 1, by omega, by go_num, ⟨by rw [htk.out]; exact HO2.out⟩, HB2⟩
            case measure => simp [intOf]; omega
    · obtain rfl : k = all.length := by omega
      clear HS1
      have HT := Aside0.mk (show refTop all n = outN (takN all n all.length) (takN all n all.length).length from rfl)
      have htl := takN_le all n all.length
      generalize takN all n all.length = tk at *
      obtain ⟨T, ct, rfl, _⟩ := hO.out.sl
      have HTK := Aside0.mk hO.out.sl'
      have HBT := Aside0.mk (via HB1.out hB.out)
      clear hO
      generalize hw2 : wr = w2 at *
      clear hw2
      go_wp2
      go_loopw [12, 13] (fun v i wr => ∃ r : Nat, r ≤ tk.length ∧ i = .int .i64 r ∧ Aside0 (Own kPair 172 wr w2.heap.size v (outN tk r)) ∧ Aside0 (Below w2.heap.size w2 wr)) (fun _ i _ => tk.length - (intOf i).toNat)
      case atStart => exact ⟨0, by omega, rfl, ⟨Own.nil _ _ _ _⟩, ⟨Below.refl _ _⟩⟩
      case round =>
        obtain ⟨r, hr, rfl, hO, hB⟩ := hrel
        by_cases hrt : r < tk.length
        · have hol := outN_le tk r
          have hsq : r * tk.length ≤ 1000 * 1000 := Nat.mul_le_mul (by omega) (by omega)
          have hou := Aside0.mk (show outN tk (r + 1) = outN tk r ++ selN tk r tk.length from rfl)
          go_wp2
          go_loopw [12, 14] (fun v i wq => ∃ k : Nat, k ≤ tk.length ∧ i = .int .i64 k ∧ Aside0 (Own kPair 172 wq w2.heap.size v (outN tk r ++ selN tk r k)) ∧ Aside0 (Below w2.heap.size w2 wq)) (fun _ i _ => tk.length - (intOf i).toNat)
          case atStart => exact ⟨0, by omega, rfl, ⟨by simpa [selN] using hO.out⟩, hB⟩
          case round =>
            obtain ⟨k, hk, rfl, hO, hB⟩ := hrel
            by_cases hkt : k < tk.length
            · have HLr := Aside0.mk (HTK.out.below hB.out)
              have hse := Aside0.mk (show selN tk r (k + 1) = if cntN tk k tk.length = r then selN tk r k ++ [tk[k]!] else selN tk r k from rfl)
              have hsl := selN_le tk r k
              rw [getElem!_pos tk k hkt] at hse
              go_wp2
              go_loopw [15, 16] (fun cc jj wq => ∃ j : Nat, j ≤ tk.length ∧ jj = .int .i64 j ∧ cc = .int .i64 (cntN tk k j : Nat) ∧ Aside0 (Below wr.heap.size wr wq)) (fun _ jj _ => tk.length - (intOf jj).toNat)
              case atStart => exact ⟨0, by omega, rfl, rfl, ⟨Below.refl _ _⟩⟩
              case round =>
                obtain ⟨j, hj, rfl, rfl, hQ⟩ := hrel
                by_cases hjl : j < tk.length
                · obtain ⟨ad, rfl, _, a1⟩ := pair_at (HLr.out.below hQ.out) j hjl
                  obtain ⟨ad2, e2, _, b1⟩ := pair_at (HLr.out.below hQ.out) k (by omega)
                  cases e2
                  have hcl := cntN_le tk k j
                  have hst := Aside0.mk (show cntN tk k (j + 1) = cntN tk k j + if lessAt tk k j = true then 1 else 0 from rfl)
                  have hla := Aside0.mk (show lessAt tk k j = (decide (tk[k].val < tk[j].val) || (tk[j].val == tk[k].val && decide (j < k))) by rw [lessAt, getElem!_pos tk k (by omega), getElem!_pos tk j hjl])
                  generalize tk[j].val = vj at *
                  generalize tk[k].val = vi at *
                  rw [hla.out] at hst
                  clear hla
                  by_cases g1 : vi < vj
                  · have f1 : decide (vi < vj) = true := decide_eq_true g1
                    have hE := Aside0.mk (show cntN tk k (j + 1) = cntN tk k j + 1 by rw [hst.out, f1]; rfl)
                    clear hst g1
                    generalize cntN tk k j = cn at *
                    go_wp2
                    go_quiet (fail)
                    go_wp2
                    go_roundw
                    case rel => exact ⟨j + 1, by omega, by go_num, by rw [hE.out]; go_num, ⟨via hQ.out (pw_below_drewN (Below.refl _ _) _)⟩⟩
                    case measure => simp [intOf]; omega
                  · have f1 : decide (vi < vj) = false := decide_eq_false g1
                    by_cases g2 : vj = vi
                    · have f2 : (vj == vi) = true := by simp [g2]
                      by_cases g3 : j < k
                      · have f3 : decide ((j : Int) < (k : Int)) = true := by simp; omega
                        have f4 : decide (j < k) = true := decide_eq_true g3
                        have hE := Aside0.mk (show cntN tk k (j + 1) = cntN tk k j + 1 by rw [hst.out, f1, f2, decide_eq_true g3]; rfl)
                        clear hst g1 g2 g3
                        generalize cntN tk k j = cn at *
                        go_wp2
                        go_quiet (fail)
                        go_wp2
                        go_roundw
                        case rel => exact ⟨j + 1, by omega, by go_num, by rw [hE.out]; go_num, ⟨via hQ.out (pw_below_drewN (Below.refl _ _) _)⟩⟩
                        case measure => simp [intOf]; omega
                      · have f3 : decide ((j : Int) < (k : Int)) = false := by simp; omega
                        have f4 : decide (j < k) = false := decide_eq_false g3
                        have hE := Aside0.mk (show cntN tk k (j + 1) = cntN tk k j by rw [hst.out, f1, f2, decide_eq_false g3]; rfl)
                        clear hst g1 g2 g3
                        generalize cntN tk k j = cn at *
                        go_wp2
                        go_quiet (fail)
                        go_wp2
                        go_roundw
                        case rel => exact ⟨j + 1, by omega, by go_num, by rw [hE.out], ⟨via hQ.out (pw_below_drewN (Below.refl _ _) _)⟩⟩
                        case measure => simp [intOf]; omega
                    · have f2 : (vj == vi) = false := by simp [g2]
                      have hE := Aside0.mk (show cntN tk k (j + 1) = cntN tk k j by rw [hst.out, f1, f2]; rfl)
                      clear hst g1 g2
                      generalize cntN tk k j = cn at *
                      go_wp2
                      go_quiet (fail)
                      go_wp2
                      go_roundw
                      case rel => exact ⟨j + 1, by omega, by go_num, by rw [hE.out], ⟨via hQ.out (pw_below_drewN (Below.refl _ _) _)⟩⟩
                      case measure => simp [intOf]; omega
                · obtain rfl : j = tk.length := by omega
                  obtain ⟨ad, rfl, c0, c1'⟩ := pair_at (HLr.out.below hQ.out) k hkt
                  have HO2 := Aside0.mk (hO.out.below hQ.out)
                  have HB2 := Aside0.mk (via hB.out hQ.out)
                  generalize tk[k] = p at *
                  by_cases hcn : cntN tk k tk.length = r
                  · have f1 : (((cntN tk k tk.length : Nat) : Int) == (r : Int)) = true := by simp; omega
                    rw [if_pos hcn] at hse
                    have hse2 := Aside0.mk (show outN tk r ++ selN tk r (k + 1) = (outN tk r ++ selN tk r k) ++ [p] by rw [hse.out, List.append_assoc])
                    clear hcn
                    generalize cntN tk k tk.length = cn at *
                    go_wp2_with (at_builtin; go_must (refine own_append (w0 := w2) w2.heap.size rfl (.tmp 125) (.tmp 130) 54 172 (.agg #[.int .i64 0, .int .i64 0]) 16 rfl Try.underlying54 info172 rfl (by decide) (by omega) u12 (outN tk r ++ selN tk r k) p rfl rfl HO2.out HB2.out HB2.out.size (by simp; omega) ?_); intro v1 w4 ho hb hs; have HO4 := Aside0.mk ho; have HB4 := Aside0.mk hb; clear ho hb)
                    go_roundw
                    case rel => exact ⟨k + 1, by omega, by go_num, ⟨by rw [hse2.out]; exact HO4.out⟩, HB4⟩
                    case measure => simp [intOf]; omega
                  · have f1 : (((cntN tk k tk.length : Nat) : Int) == (r : Int)) = false := by simp; omega
                    rw [if_neg hcn] at hse
                    clear hcn
                    generalize cntN tk k tk.length = cn at *
                    go_wp2
                    go_roundw
                    case rel => exact ⟨k + 1, by omega, by go_num, ⟨by rw [hse.out]; exact HO2.out⟩, HB2⟩
                    case measure => simp [intOf]; omega
            · obtain rfl : k = tk.length := by omega
              rw [← hou.out] at hO
              go_wp2
              go_roundw
              case rel => exact ⟨r + 1, by omega, by go_num, hO, hB⟩
              case measure => simp [intOf]; omega
        · obtain rfl : r = tk.length := by omega
          rw [← HT.out] at hO
          go_wp2
          go_ret
          exact ⟨_, rfl, Own.lower hO.out HBT.out.size, via HBT.out hB.out⟩

end Go.Proofs.Ytoeipkjpgbdioaa
