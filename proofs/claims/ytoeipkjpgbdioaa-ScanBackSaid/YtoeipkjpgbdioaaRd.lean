/- vint: the reader. -/
import Derived.Test.YtoeipkjpgbdioaaVint
import Derived.Laws.DeepStrings4
set_option linter.unusedVariables false
set_option linter.unusedSimpArgs false
namespace Go.Proofs.Ytoeipkjpgbdioaa
open Go.RowKit Go.Shelf Go.Proofs.YtoeipkjpgbdioaaW.PrintWords Go.Proofs.YtoeipkjpgbdioaaW.PrintLast

def wh : Nat → List UInt8 → Bool
  | _, [] => false
  | i, b :: r => i = 9 || decide (b.toNat < 128) || wh (i + 1) r
theorem wh_drop {l : List UInt8} {i : Nat} (h : i < l.length) : wh i (l.drop i) = (i = 9 || decide (l[i].toNat < 128) || wh (i + 1) (l.drop (i + 1))) := by
  rw [List.drop_eq_getElem_cons h]; rfl
theorem ba_at (l : List UInt8) (i : Nat) (h : i < (ByteArray.mk l.toArray).size) (h' : i < l.length) : (ByteArray.mk l.toArray)[i] = l[i] := by
  rfl
theorem ba_size (l : List UInt8) : (ByteArray.mk l.toArray).size = l.length := rfl
set_option maxHeartbeats 1000000 in
theorem vint_wh (l : List UInt8) (w : World) (hl : l.length ≤ 100000000) :
    Calls Try.prog 146 #[.string ⟨l.toArray⟩] w fun e w' => e = .returned (.bool (wh 0 l)) ∧ w' = w := by
  go_enter Try.func146, Try.ntmps146
  go_wp2
  go_loopw [6] (fun i wr => ∃ k : Nat, k ≤ l.length ∧ i = .int .i64 k ∧ Aside0 (wh 0 l = wh k (l.drop k)) ∧ wr = w) (fun i _ => l.length - (intOf i).toNat)
  case atStart => exact ⟨0, by omega, rfl, ⟨rfl⟩, rfl⟩
  case round =>
    obtain ⟨k, hk, rfl, hI, rfl⟩ := hrel
    by_cases hlt : k < l.length
    · have HD := Aside0.mk (wh_drop hlt)
      have t1 : decide ((k : Int) < (l.length : Int)) = true := by simp; omega
      have hba : (ByteArray.mk l.toArray)[k]'hlt = l[k] := rfl
      by_cases h9 : k = 9
      · have t2 : ((k : Int) == 9) = true := by simp; omega
        have E := Aside0.mk (show wh 0 l = true by rw [hI.out, HD.out]; simp [h9])
        clear h9
        go_wp2
        go_ret
        exact ⟨by rw [E.out]; rfl, rfl⟩
      · have t2 : ((k : Int) == 9) = false := by simp; omega
        by_cases hb : l[k].toNat < 128
        · have t3 : decide ((l[k].toNat : Int) < 128) = true := by simp; omega
          have E := Aside0.mk (show wh 0 l = true by rw [hI.out, HD.out]; simp [hb])
          clear h9 hb
          go_wp2
          go_ret
          exact ⟨by rw [E.out]; rfl, rfl⟩
        · have t3 : decide ((l[k].toNat : Int) < 128) = false := by simp; omega
          have E := Aside0.mk (show wh 0 l = wh (k + 1) (l.drop (k + 1)) by rw [hI.out, HD.out]; simp [hb, h9])
          clear h9 hb
          go_wp2
          exact ⟨⟨k + 1, by omega, by go_num, E, trivial⟩, by simp [intOf]; omega⟩
    · have t1 : decide ((k : Int) < (l.length : Int)) = false := by simp; omega
      have E := Aside0.mk (show wh 0 l = false by rw [hI.out, List.drop_of_length_le (by omega)]; cases k <;> rfl)
      go_wp2
      go_ret
      exact ⟨by rw [E.out]; rfl, rfl⟩

/-- Only block g is turned. -/
def RK (g : Nat) (w w' : World) : Prop := Below g w w' ∧ KeepBut w w' g none
theorem RK.refl (g : Nat) (w : World) : RK g w w := ⟨Below.refl _ _, KeepBut.refl _ _ _⟩
theorem RK.set_ {g : Nat} {w w' : World} (h : RK g w w') (j : Nat) (u : Value) : RK g w (w'.setCell ⟨g, j, none⟩ u) := ⟨h.1.setCell (p := ⟨g, j, none⟩) (Nat.le_refl _) u, h.2.set_ j u⟩
theorem RK.below {g n : Nat} {w0 w w' : World} (h : RK g w w') (hb : Below n w0 w) (hn : n ≤ g) : Below n w0 w' := hb.trans (h.1.mono hn)
theorem RK.blk {g g' : Nat} {w w' : World} {o : Obj} (h : RK g w w') (hb : w.heap[g']? = some o) (hg : g' ≠ g) : w'.heap[g']? = some o := h.2.blk hb hg (by simp)
theorem RK.own {α : Type} {d : Kd α} {e g : Nat} {w w' : World} {base : Nat} {v : Value} {xs : List α} {l : List UInt8} {er : Int} (h : RK g w w') (ho : Own d e w base v xs) (hE : d.E = []) (hr : w.heap[g]? = some (.cells #[.string ⟨l.toArray⟩, .int .i64 er] 228 (0, 0))) (ht : 228 ≠ e) : Own d e w' base v xs := ho.keep_t hE hr ht h.2
/-- a reader's block -/
abbrev Rd (g : Nat) (l : List UInt8) (e : Int) (w : World) : Prop := w.heap[g]? = some (.cells #[.string ⟨l.toArray⟩, .int .i64 e] 228 (0, 0))
set_option maxHeartbeats 1000000 in
theorem vint_Err (g : Nat) (l : List UInt8) (e : Int) (w : World) (h : Rd g l e w) :
    Calls Try.prog 109 #[.pointer (some ⟨g, 0, none⟩)] w fun r w' => r = .returned (.int .i64 e) ∧ w' = w := by
  obtain ⟨j, hj, hjs⟩ := Option.map_eq_some_iff.1 (show (Try.prog.info? 228).map (·.size) = some 2 by kernel_rfl)
  have hne := Lib.run_neq_ptr_same (P := Try.prog) w ⟨g, 0, none⟩ Try.underlying157 hj
  have c0 : w.cell? ⟨g, 0, none⟩ = some (.string ⟨l.toArray⟩) := blk_cell h 0
  have c1 : w.cell? ⟨g, 1, none⟩ = some (.int .i64 e) := blk_cell h 1
  go_enter Try.func109, Try.ntmps109
  go_wp2
  go_ret
  exact ⟨rfl, rfl⟩

set_option maxHeartbeats 1000000 in
theorem vint_fail (g : Nat) (l : List UInt8) (c : Int) (w : World) (h : Rd g l 0 w) :
    Calls Try.prog 138 #[.pointer (some ⟨g, 0, none⟩), .int .i64 c] w fun r w' => r = .returned (.tuple #[]) ∧ Rd g [] c w' ∧ RK g w w' := by
  obtain ⟨j, hj, hjs⟩ := Option.map_eq_some_iff.1 (show (Try.prog.info? 228).map (·.size) = some 2 by kernel_rfl)
  have hne := Lib.run_neq_ptr_same (P := Try.prog) w ⟨g, 0, none⟩ Try.underlying157 hj
  have c0 : w.cell? ⟨g, 0, none⟩ = some (.string ⟨l.toArray⟩) := blk_cell h 0
  have c1 : w.cell? ⟨g, 1, none⟩ = some (.int .i64 0) := blk_cell h 1
  have f0 : w.frozen? ⟨g, 0, none⟩ = false := blk_frozen h 0
  have f1 : w.frozen? ⟨g, 1, none⟩ = false := blk_frozen h 1
  have hR := blk_set (blk_set h 1 (.int .i64 c)) 0 (.string ⟨#[]⟩)
  have HR := Aside0.mk hR
  clear hR
  go_enter Try.func138, Try.ntmps138
  go_wp2
  go_end0
  exact ⟨rfl, HR.out, ((RK.refl g w).set_ 1 _).set_ 0 _⟩
set_option maxHeartbeats 1000000 in
theorem vint_fail_not (g : Nat) (l : List UInt8) (e c : Int) (w : World) (h : Rd g l e w) (he : e ≠ 0) :
    Calls Try.prog 138 #[.pointer (some ⟨g, 0, none⟩), .int .i64 c] w fun r w' => r = .returned (.tuple #[]) ∧ w' = w := by
  obtain ⟨j, hj, hjs⟩ := Option.map_eq_some_iff.1 (show (Try.prog.info? 228).map (·.size) = some 2 by kernel_rfl)
  have hne := Lib.run_neq_ptr_same (P := Try.prog) w ⟨g, 0, none⟩ Try.underlying157 hj
  have c0 : w.cell? ⟨g, 0, none⟩ = some (.string ⟨l.toArray⟩) := blk_cell h 0
  have c1 : w.cell? ⟨g, 1, none⟩ = some (.int .i64 e) := blk_cell h 1
  have t1 : (e == 0) = false := by simp [he]
  clear he
  go_enter Try.func138, Try.ntmps138
  go_wp2
  go_end0
  exact ⟨rfl, rfl⟩
def endR (e : Int) (l : List UInt8) : Int := if e = 0 ∧ l ≠ [] then 2 else e
set_option maxRecDepth 100000 in
set_option maxHeartbeats 1000000 in
theorem vint_End (g : Nat) (l : List UInt8) (e : Int) (w : World) (h : Rd g l e w) :
    Calls Try.prog 110 #[.pointer (some ⟨g, 0, none⟩)] w fun r w' => r = .returned (.int .i64 (endR e l)) ∧ w' = w := by
  obtain ⟨j, hj, hjs⟩ := Option.map_eq_some_iff.1 (show (Try.prog.info? 228).map (·.size) = some 2 by kernel_rfl)
  have c0 : w.cell? ⟨g, 0, none⟩ = some (.string ⟨l.toArray⟩) := blk_cell h 0
  have c1 : w.cell? ⟨g, 1, none⟩ = some (.int .i64 e) := blk_cell h 1
  have HE := Aside0.mk (vint_Err g l e w h)
  by_cases he : e = 0
  · subst he
    by_cases hl : l = []
    · subst hl
      have t1 : (ByteArray.toList ⟨([] : List UInt8).toArray⟩ == ByteArray.toList ⟨#[]⟩) = true := by simp
      go_enter Try.func110, Try.ntmps110
      go_wp2_with (go_at_call 109; with_reducible refine HE.out.mono ?_; rintro r w' ⟨rfl, rfl⟩)
      go_ret
      exact ⟨rfl, rfl⟩
    · have E := Aside0.mk (show endR 0 l = 2 from if_pos ⟨rfl, hl⟩)
      have t1 : (l == []) = false := by simp [hl]
      have t2 : l.isEmpty = false := by simp [hl]
      clear hl
      go_enter Try.func110, Try.ntmps110
      go_wp2_with (go_at_call 109; with_reducible refine HE.out.mono ?_; rintro r w' ⟨rfl, rfl⟩)
      go_ret
      exact ⟨by rw [E.out]; rfl, rfl⟩
  · have E := Aside0.mk (show endR e l = e from if_neg (fun h => he h.1))
    have t1 : (e == 0) = false := by simp [he]
    clear he
    go_enter Try.func110, Try.ntmps110
    go_wp2_with (go_at_call 109; with_reducible refine HE.out.mono ?_; rintro r w' ⟨rfl, rfl⟩)
    go_ret
    exact ⟨by rw [E.out]; rfl, rfl⟩
set_option maxHeartbeats 1000000 in
theorem vint_From (l : List UInt8) (w : World) :
    Calls Try.prog 82 #[.string ⟨l.toArray⟩] w fun r w' => r = .returned (.pointer (some ⟨w.heap.size, 0, none⟩)) ∧ Rd w.heap.size l 0 w' ∧ Below w.heap.size w w' := by
  go_enter Try.func82, Try.ntmps82
  go_wp2
  go_ret
  exact ⟨rfl, blk_new _ _, below_alloc (Below.refl _ _) _⟩

end Go.Proofs.Ytoeipkjpgbdioaa
