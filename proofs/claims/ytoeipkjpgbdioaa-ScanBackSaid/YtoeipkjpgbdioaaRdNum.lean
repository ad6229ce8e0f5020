/- vint: the reader's numbers. -/
import Derived.Test.YtoeipkjpgbdioaaRd
import Derived.WalkMore
set_option linter.unusedVariables false
set_option linter.unusedSimpArgs false
namespace Go.Proofs.Ytoeipkjpgbdioaa
open Go.RowKit Go.Shelf Go.Proofs.YtoeipkjpgbdioaaW.PrintWords Go.Proofs.YtoeipkjpgbdioaaW.PrintLast

def rd : Nat → Nat → List UInt8 → Option (Nat × List UInt8)
  | _, _, [] => none
  | i, n, b :: r => if i = 9 ∨ (0 < i ∧ b.toNat = 0) then none else if b.toNat < 128 then some (n + b.toNat * 128 ^ i, r) else rd (i + 1) (n + b.toNat % 128 * 128 ^ i) r
theorem rd_drop {l : List UInt8} {k n : Nat} (h : k < l.length) : rd k n (l.drop k) = if k = 9 ∨ (0 < k ∧ l[k].toNat = 0) then none else if l[k].toNat < 128 then some (n + l[k].toNat * 128 ^ k, l.drop (k + 1)) else rd (k + 1) (n + l[k].toNat % 128 * 128 ^ k) (l.drop (k + 1)) := by
  rw [List.drop_eq_getElem_cons h]; rfl
def numR (l : List UInt8) (e : Int) : Int × List UInt8 × Int := if e ≠ 0 then (0, l, e) else match rd 0 0 l with
  | some (v, r) => (v, r, 0)
  | none => (0, [], if wh 0 l then 3 else 5)
theorem numR_err {l : List UInt8} {e : Int} (h : e ≠ 0) : numR l e = (0, l, e) := if_pos h
theorem numR_some {l : List UInt8} {v : Nat} {r : List UInt8} (h : rd 0 0 l = some (v, r)) : numR l 0 = ((v : Int), r, 0) := by
  unfold numR; rw [if_neg (by simp), h]
theorem numR_none {l : List UInt8} (h : rd 0 0 l = none) : numR l 0 = (0, [], if wh 0 l then 3 else 5) := by
  unfold numR; rw [if_neg (by simp), h]
theorem group_lt {n b k : Nat} (hn : n < 128 ^ k) (hb : b < 128) : n + b * 128 ^ k < 128 ^ (k + 1) := by
  rw [Nat.pow_succ]
  have : b * 128 ^ k ≤ 127 * 128 ^ k := Nat.mul_le_mul_right _ (by omega)
  omega
theorem extract_drop (l : List UInt8) (k : Nat) : (ByteArray.mk l.toArray).extract k (ByteArray.mk l.toArray).size = ⟨(l.drop k).toArray⟩ := by
  rw [ByteArray.extract_mk]
  congr 1
  apply Array.ext'
  simp [ByteArray.size, List.take_of_length_le]

theorem wrap_small (x : Nat) (h : x < 256) : wrap64 (x : Int) = (x : Int) := IntWalk.wrap64_in _ (by omega)
theorem wrap_group (b i : Nat) (hb : b < 128) (hi : i ≤ 8) : wrap64 ((b : Int) * 2 ^ (7 * i)) = ((b * 128 ^ i : Nat) : Int) := by
  have h := shl_group b i hb hi
  rw [IntKind.wrap_i64] at h
  unfold wrap64
  omega
set_option maxRecDepth 100000 in
set_option maxHeartbeats 2000000 in
theorem vint_rdNum (g : Nat) (l : List UInt8) (e : Int) (w : World) (h : Rd g l e w) (hl : l.length ≤ 100000000) :
    Calls Try.prog 108 #[.pointer (some ⟨g, 0, none⟩)] w fun r w' => r = .returned (.int .i64 (numR l e).1) ∧ Rd g (numR l e).2.1 (numR l e).2.2 w' ∧ RK g w w' := by
  obtain ⟨j, hj, hjs⟩ := Option.map_eq_some_iff.1 (show (Try.prog.info? 228).map (·.size) = some 2 by kernel_rfl)
  have c0 : w.cell? ⟨g, 0, none⟩ = some (.string ⟨l.toArray⟩) := blk_cell h 0
  have c1 : w.cell? ⟨g, 1, none⟩ = some (.int .i64 e) := blk_cell h 1
  have f0 : w.frozen? ⟨g, 0, none⟩ = false := blk_frozen h 0
  have f1 : w.frozen? ⟨g, 1, none⟩ = false := blk_frozen h 1
  have HE := Aside0.mk (vint_Err g l e w h)
  by_cases he : e = 0
  · subst he
    have HR := Aside0.mk h
    have HW := Aside0.mk (vint_wh l w hl)
    clear h
    go_enter Try.func108, Try.ntmps108
    go_wp2
    go_step3
    go_wp2_with (go_at_call 109; with_reducible refine HE.out.mono ?_; rintro r w' ⟨rfl, rfl⟩)
    go_step3
    go_wp2
    go_loopw [3, 14] (fun v i wr => ∃ k n : Nat, k ≤ l.length ∧ k ≤ 9 ∧ n < 128 ^ k ∧ v = .int .i64 n ∧ i = .int .i64 k ∧ Aside0 (rd 0 0 l = rd k n (l.drop k)) ∧ wr = w') (fun _ i _ => l.length - (intOf i).toNat)
    case atStart => exact ⟨0, 0, by omega, by omega, by simp, rfl, rfl, ⟨rfl⟩, rfl⟩
    case round =>
      obtain ⟨k, n, hk, hk9, hn, rfl, rfl, hI, rfl⟩ := hrel
      by_cases hlt : k < l.length
      · have HD := Aside0.mk (rd_drop (n := n) hlt)
        have t1 : decide ((k : Int) < (l.length : Int)) = true := by simp; omega
        have hba : (ByteArray.mk l.toArray)[k]'hlt = l[k] := rfl
        by_cases h9 : k = 9
        · have t2 : ((k : Int) == 9) = true := by simp; omega
          have E0 := Aside0.mk (show rd 0 0 l = none by rw [hI.out, HD.out]; simp [h9])
          clear h9
          cases hw : wh 0 l with
          | true =>
            have E := Aside0.mk (show numR l 0 = (0, [], 3) by rw [numR_none E0.out, hw]; rfl)
            rw [hw] at HW
            clear hw
            go_wp2_with (first | (go_at_call 146; with_reducible refine HW.out.mono ?_; rintro r w2 ⟨rfl, rfl⟩) | (go_at_call 138; first | (with_reducible refine (vint_fail g l 3 _ HR.out).mono ?_; rintro r w3 ⟨rfl, hr1, hk1⟩; have HR1 := Aside0.mk hr1; have HK1 := Aside0.mk hk1; clear hr1 hk1) | (with_reducible refine (vint_fail_not g [] 3 5 _ HR1.out (by decide)).mono ?_; rintro r w4 ⟨rfl, rfl⟩)))
            try rw [Exit.noGoto_ret]
            go_ret
            rw [E.out]
            exact ⟨rfl, HR1.out, HK1.out⟩
          | false =>
            have E := Aside0.mk (show numR l 0 = (0, [], 5) by rw [numR_none E0.out, hw]; rfl)
            rw [hw] at HW
            clear hw
            go_wp2_with (first | (go_at_call 146; with_reducible refine HW.out.mono ?_; rintro r w2 ⟨rfl, rfl⟩) | (go_at_call 138; (go_must (with_reducible refine (vint_fail g l 5 _ HR.out).mono ?_); rintro r w3 ⟨rfl, hr1, hk1⟩; have HR1 := Aside0.mk hr1; have HK1 := Aside0.mk hk1; clear hr1 hk1)))
            try rw [Exit.noGoto_ret]
            go_ret
            rw [E.out]
            exact ⟨rfl, HR1.out, HK1.out⟩
        · have t2 : ((k : Int) == 9) = false := by simp; omega
          by_cases hz : 0 < k ∧ l[k].toNat = 0
          · have t3 : decide (0 < k) = true := decide_eq_true hz.1
            have t3' : 0 < k := hz.1
            have t4 : ((l[k].toNat : Int) == 0) = true := by simp; omega
            have E0 := Aside0.mk (show rd 0 0 l = none by rw [hI.out, HD.out]; rw [if_pos (Or.inr hz)])
            clear h9 hz
            cases hw : wh 0 l with
            | true =>
              have E := Aside0.mk (show numR l 0 = (0, [], 3) by rw [numR_none E0.out, hw]; rfl)
              rw [hw] at HW
              clear hw
              go_wp2_with (first | (go_at_call 146; with_reducible refine HW.out.mono ?_; rintro r w2 ⟨rfl, rfl⟩) | (go_at_call 138; first | (with_reducible refine (vint_fail g l 3 _ HR.out).mono ?_; rintro r w3 ⟨rfl, hr1, hk1⟩; have HR1 := Aside0.mk hr1; have HK1 := Aside0.mk hk1; clear hr1 hk1) | (with_reducible refine (vint_fail_not g [] 3 5 _ HR1.out (by decide)).mono ?_; rintro r w4 ⟨rfl, rfl⟩)))
              try rw [Exit.noGoto_ret]
              go_ret
              rw [E.out]
              exact ⟨rfl, HR1.out, HK1.out⟩
            | false =>
              have E := Aside0.mk (show numR l 0 = (0, [], 5) by rw [numR_none E0.out, hw]; rfl)
              rw [hw] at HW
              clear hw
              go_wp2_with (first | (go_at_call 146; with_reducible refine HW.out.mono ?_; rintro r w2 ⟨rfl, rfl⟩) | (go_at_call 138; (go_must (with_reducible refine (vint_fail g l 5 _ HR.out).mono ?_); rintro r w3 ⟨rfl, hr1, hk1⟩; have HR1 := Aside0.mk hr1; have HK1 := Aside0.mk hk1; clear hr1 hk1)))
              try rw [Exit.noGoto_ret]
              go_ret
              rw [E.out]
              exact ⟨rfl, HR1.out, HK1.out⟩
          · by_cases hb : l[k].toNat < 128
            · have t5 : decide ((l[k].toNat : Int) < 128) = true := by simp; omega
              have t6 : ¬ 0 < k ∨ (0 < k ∧ ((l[k].toNat : Int) == 0) = false) := by simp; omega
              have E0 := Aside0.mk (show rd 0 0 l = some (n + l[k].toNat * 128 ^ k, l.drop (k + 1)) by rw [hI.out, HD.out, if_neg (by omega), if_pos hb])
              have hsh := wrap_group l[k].toNat k hb (by omega)
              have hwb := wrap_small l[k].toNat (by omega)
              have hor := or_group n l[k].toNat k hn hb (by omega)
              generalize hx : l[k].toNat * 128 ^ k = x at E0 hsh hor
              clear hx
              have E := Aside0.mk (numR_some E0.out)
              generalize n + x = y at E0 hor E
              have hR := blk_set HR.out 0 (.string ⟨(l.drop (k + 1)).toArray⟩)
              have HR2 := Aside0.mk hR
              have HX := Aside0.mk (show (ByteArray.mk l.toArray).extract (k + 1) l.length = _ from extract_drop l (k + 1))
              clear h9 hz hb hn hR
              rcases t6 with hk0 | ⟨hk0, t4⟩ <;> (
                go_wp2
                rw [Exit.noGoto_ret]
                go_ret
                rw [E.out, HX.out]
                exact ⟨rfl, HR2.out, (RK.refl _ _).set_ 0 _⟩)
            · have t5 : decide ((l[k].toNat : Int) < 128) = false := by simp; omega
              have t6 : ¬ 0 < k ∨ (0 < k ∧ ((l[k].toNat : Int) == 0) = false) := by simp; omega
              have E0 := Aside0.mk (show rd 0 0 l = rd (k + 1) (n + l[k].toNat % 128 * 128 ^ k) (l.drop (k + 1)) by rw [hI.out, HD.out, if_neg (by omega), if_neg hb])
              have hm : l[k].toNat % 128 < 128 := by omega
              have hn2 := group_lt hn hm
              have hsh := wrap_group (l[k].toNat % 128) k hm (by omega)
              have hwb := wrap_small (l[k].toNat % 128) (by omega)
              have hor := or_group n (l[k].toNat % 128) k hn hm (by omega)
              have han := and127_u8 l[k].toNat (by have := l[k].toNat_lt; omega)
              generalize hx : l[k].toNat % 128 * 128 ^ k = x at E0 hsh hor hn2
              clear hx
              generalize hq : l[k].toNat % 128 = q at hsh hwb han hm
              generalize n + x = y at E0 hor hn2
              have hk8 : k + 1 ≤ 9 := Nat.lt_of_le_of_ne hk9 h9
              clear h9 hz hb hn hq hm
              rcases t6 with hk0 | ⟨hk0, t4⟩ <;> go_wp2 <;> exact ⟨⟨k + 1, y, hlt, hk8, hn2, rfl, by go_num, E0, trivial⟩, by simp [intOf]; exact Nat.sub_lt_sub_left hlt (Nat.lt_succ_self k)⟩
      · have t1 : decide ((k : Int) < (l.length : Int)) = false := by simp; omega
        have E0 := Aside0.mk (show rd 0 0 l = none by rw [hI.out, List.drop_of_length_le (by omega)]; cases k <;> rfl)
        cases hw : wh 0 l with
        | true =>
          have E := Aside0.mk (show numR l 0 = (0, [], 3) by rw [numR_none E0.out, hw]; rfl)
          rw [hw] at HW
          clear hw
          go_wp2_with (first | (go_at_call 146; with_reducible refine HW.out.mono ?_; rintro r w2 ⟨rfl, rfl⟩) | (go_at_call 138; first | (with_reducible refine (vint_fail g l 3 _ HR.out).mono ?_; rintro r w3 ⟨rfl, hr1, hk1⟩; have HR1 := Aside0.mk hr1; have HK1 := Aside0.mk hk1; clear hr1 hk1) | (with_reducible refine (vint_fail_not g [] 3 5 _ HR1.out (by decide)).mono ?_; rintro r w4 ⟨rfl, rfl⟩)))
          try rw [Exit.noGoto_ret]
          go_ret
          rw [E.out]
          exact ⟨rfl, HR1.out, HK1.out⟩
        | false =>
          have E := Aside0.mk (show numR l 0 = (0, [], 5) by rw [numR_none E0.out, hw]; rfl)
          rw [hw] at HW
          clear hw
          go_wp2_with (first | (go_at_call 146; with_reducible refine HW.out.mono ?_; rintro r w2 ⟨rfl, rfl⟩) | (go_at_call 138; (go_must (with_reducible refine (vint_fail g l 5 _ HR.out).mono ?_); rintro r w3 ⟨rfl, hr1, hk1⟩; have HR1 := Aside0.mk hr1; have HK1 := Aside0.mk hk1; clear hr1 hk1)))
          try rw [Exit.noGoto_ret]
          go_ret
          rw [E.out]
          exact ⟨rfl, HR1.out, HK1.out⟩
  · have E := Aside0.mk (numR_err (l := l) he)
    have t1 : (e == 0) = false := by simp [he]
    have t2 : (e != 0) = true := by simp [he]
    clear he
    go_enter Try.func108, Try.ntmps108
    go_wp2
    go_step3
    go_wp2_with (go_at_call 109; with_reducible refine HE.out.mono ?_; rintro r w' ⟨rfl, rfl⟩)
    rw [Exit.noGoto_ret]
    go_ret
    rw [E.out]
    exact ⟨rfl, by assumption, RK.refl _ _⟩

end Go.Proofs.Ytoeipkjpgbdioaa
