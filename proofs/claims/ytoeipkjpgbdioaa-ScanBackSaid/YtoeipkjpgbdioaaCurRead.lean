/- scan.Read: the cursor of bytes. -/
import Derived.Test.YtoeipkjpgbdioaaRdLaw
import Derived.Test.YtoeipkjpgbdioaaCursor
import Derived.Test.YtoeipkjpgbdioaaPage2
import Derived.Test.YtoeipkjpgbdioaaGroups
set_option linter.unusedVariables false
set_option linter.unusedSimpArgs false
namespace Go.Proofs.Ytoeipkjpgbdioaa
open Go.RowKit Go.Shelf Go.Proofs.YtoeipkjpgbdioaaW.PrintWords Go.Proofs.YtoeipkjpgbdioaaW.PrintLast

/-- what is left, the error, the spans -/
def spansR : Nat → List UInt8 → Int → List Span → List UInt8 × Int × List Span
  | 0, l, e, acc => (l, e, acc)
  | k + 1, l, e, acc => if e ≠ 0 then (l, e, acc) else
      spansR k (numR (numR l e).2.1 (numR l e).2.2).2.1 (numR (numR l e).2.1 (numR l e).2.2).2.2 (acc ++ [⟨(numR l e).1, (numR (numR l e).2.1 (numR l e).2.2).1⟩])
theorem spansR_err {k : Nat} {l : List UInt8} {e : Int} {acc : List Span} (h : e ≠ 0) : spansR k l e acc = (l, e, acc) := by
  cases k with
  | zero => rfl
  | succ k => rw [spansR, if_pos h]
theorem spansR_step {k : Nat} {l : List UInt8} {acc : List Span} : spansR (k + 1) l 0 acc = spansR k (numR (numR l 0).2.1 (numR l 0).2.2).2.1 (numR (numR l 0).2.1 (numR l 0).2.2).2.2 (acc ++ [⟨(numR l 0).1, (numR (numR l 0).2.1 (numR l 0).2.2).1⟩]) := by
  rw [spansR, if_neg (by simp)]
def rA (l : List UInt8) := numR l 0
def rB (l : List UInt8) := numR (rA l).2.1 (rA l).2.2
def rN (l : List UInt8) := numR (rB l).2.1 (rB l).2.2
def rS (l : List UInt8) := spansR (min (rN l).1.toNat 65) (rN l).2.1 (rN l).2.2 []
def rC (l : List UInt8) : Cursor := ⟨(rS l).2.2, zOf (rA l).1, (rB l).1⟩
def curErr (l : List UInt8) : Int := if 64 < (rC l).on.length then 3 else if endR (rS l).2.1 (rS l).1 ≠ 0 then endR (rS l).2.1 (rS l).1 else if okCur (rC l) then 0 else 3
def curOut (l : List UInt8) : Cursor := if curErr l = 0 then rC l else ⟨[], 0, 0⟩

set_option maxRecDepth 100000 in
set_option maxHeartbeats 4000000 in
theorem scan_Read (l : List UInt8) (w : World) (hl : l.length ≤ 1000000) :
    Calls Try.prog 47 #[.string ⟨l.toArray⟩] w fun e w' => ∃ A c, e = .returned (.tuple #[vCur A c (curOut l), .int .i64 (curErr l)]) ∧ Sl kSpan w' A c (curOut l).on ∧ Below w.heap.size w w' := by
  have hfr := Aside0.mk (fun W => vint_From l W)
  have hwa : Aside0 (∀ W g, Rd g l 0 W → Calls Try.prog 86 #[.pointer (some ⟨g, 0, none⟩)] W fun r w' => r = .returned (.int .i64 (zOf (rA l).1)) ∧ Rd g (rA l).2.1 (rA l).2.2 w' ∧ RK g W w') := ⟨fun W g h => vint_rdWhole g l 0 W h (by omega)⟩
  have la : (rA l).2.1.length ≤ l.length := numR_less l 0
  have hnb : Aside0 (∀ W g, Rd g (rA l).2.1 (rA l).2.2 W → Calls Try.prog 108 #[.pointer (some ⟨g, 0, none⟩)] W fun r w' => r = .returned (.int .i64 (rB l).1) ∧ Rd g (rB l).2.1 (rB l).2.2 w' ∧ RK g W w') := ⟨fun W g h => vint_rdNum g _ _ W h (by omega)⟩
  have lb : (rB l).2.1.length ≤ (rA l).2.1.length := numR_less _ _
  have ln : (rN l).2.1.length ≤ (rB l).2.1.length := numR_less _ _
  obtain ⟨N, hN, hNe⟩ := numR_nat (rB l).2.1 (rB l).2.2
  have hnn : Aside0 (∀ W g, Rd g (rB l).2.1 (rB l).2.2 W → Calls Try.prog 108 #[.pointer (some ⟨g, 0, none⟩)] W fun r w' => r = .returned (.int .i64 N) ∧ Rd g (rN l).2.1 (rN l).2.2 w' ∧ RK g W w') := ⟨fun W g h => by rw [← hNe]; exact vint_rdNum g _ _ W h (by omega)⟩
  have hSp := Aside0.mk (show rS l = spansR (min N 65) (rN l).2.1 (rN l).2.2 [] from by rw [rS, show (rN l).1 = (N : Int) from hNe]; rfl)
  have hLn := Aside0.mk (show (rN l).2.1.length ≤ 1000000 by omega)
  clear la lb ln hNe hl
  generalize hra : rA l = ra at *
  generalize hrb : rB l = rb at *
  generalize hrn : rN l = rn at *
  have HRA := Aside0.mk hra
  have HRB := Aside0.mk hrb
  clear hra hrb hrn
  go_enter Try.func47, Try.ntmps47
  go_wp2_with (first
    | (go_at_call 82; go_loud (refine calls_box1 (fun W0 hb0 hp0 => ?_); with_reducible refine (hfr.out _).mono ?_; rintro r w1 ⟨rfl, hr1, hb1⟩; have hgp := blk_lt hp0; have HP1 := Aside0.mk (blk_same hb1 hgp hp0); have HB1 := Aside0.mk (below_then hb0 hb0.size hb1); generalize W0.heap.size = g at *; have HR1 := Aside0.mk hr1; clear hr1 hb1 hb0 hp0))
    | (go_at_call 86; go_must (with_reducible refine (hwa.out _ _ HR1.out).mono ?_); rintro r w2 ⟨rfl, hr2, hk2⟩; have HR2 := Aside0.mk hr2; have HP2 := Aside0.mk (hk2.blk HP1.out (by omega)); have HB2 := Aside0.mk (hk2.below HB1.out (by omega)); clear hr2 hk2)
    | (go_at_call 108; with_reducible refine (hnb.out _ _ HR2.out).mono ?_; rintro r w3 ⟨rfl, hr3, hk3⟩; have HR3 := Aside0.mk hr3; have HP3 := Aside0.mk (hk3.blk HP2.out (by omega)); have HB3 := Aside0.mk (hk3.below HB2.out (by omega)); clear hr3 hk3)
    | (go_at_call 108; go_must (with_reducible refine calls_box1 (fun W0 hb0 hc0 => ?_)); have hgc := blk_lt HR3.out; have hr0 := blk_same hb0 hgc HR3.out; have hp0 := blk_same hb0 (blk_lt HP3.out) HP3.out; have hb5 := below_then HB3.out HB3.out.size hb0; with_reducible refine (hnn.out _ _ hr0).mono ?_; rintro r w4 ⟨rfl, hr4, hk4⟩; have HR4 := Aside0.mk hr4; have HP4 := Aside0.mk (hk4.blk hp0 (by omega)); have HC4 := Aside0.mk (hk4.blk hc0 (by omega)); have HB4 := Aside0.mk (hk4.below hb5 (by omega)); generalize w3.heap.size = c at *; clear hr4 hk4 hr0 hp0 hb5 hc0 hb0 HR1 HR2 HR3 HP1 HP2 HP3 HB1 HB2 HB3))
  generalize hza : zOf ra.1 = za at *
  generalize hzb : rb.1 = zb at *
  have HZ := Aside0.mk (show (rC l) = ⟨(rS l).2.2, za, zb⟩ by rw [rC, HRA.out, HRB.out, hza, hzb])
  clear hza hzb hwa hnb hnn hfr HRA HRB
  go_loopw [6] (fun i wr => ∃ (k : Nat) (l' : List UInt8) (e' : Int) (acc : List Span) (v : Value), i = .int .i64 k ∧ acc.length = k ∧ k ≤ min N 65 ∧ l'.length ≤ 1000000 ∧ Aside0 (rS l = spansR (min N 65 - k) l' e' acc) ∧ Aside0 (Rd g l' e' wr) ∧ Aside0 (wr.heap[w.heap.size]? = some (.cells #[.slice none 0 0, .int .i64 0, .int .i64 0] 50 (0, 0))) ∧ Aside0 (wr.heap[c]? = some (.cells #[v, .int .i64 za, .int .i64 zb] 50 (0, 0))) ∧ Aside0 (Own kSpan 162 wr (c + 1) v acc) ∧ Aside0 (Below w.heap.size w wr)) (fun i _ => 65 - (intOf i).toNat)
  case atStart => exact ⟨0, rn.2.1, rn.2.2, [], .slice none 0 0, rfl, rfl, by omega, hLn.out, ⟨by rw [hSp.out]; rfl⟩, HR4, HP4, HC4, ⟨Own.nil _ _ _ _⟩, HB4⟩
  case round =>
    obtain ⟨k, l', e', acc, v, rfl, rfl, hkN, hll, HS, HR, HP, HC, HO, HB⟩ := hrel
    clear HR4 HP4 HC4 HB4
    obtain ⟨D, d, rfl, hsl⟩ := HO.out.sl
    have HSL := Aside0.mk hsl
    clear hsl
    have HE := Aside0.mk (vint_Err g l' e' wr HR.out)
    have HX0 : e' ≠ 0 ∨ acc.length = min N 65 → Aside0 (rS l = (l', e', acc)) := fun h => ⟨by
      rw [HS.out]
      rcases h with h | h
      · exact spansR_err h
      · rw [h, Nat.sub_self]; rfl⟩
    by_cases h1 : acc.length < N
    · have t1 : decide ((acc.length : Int) < (N : Int)) = true := by simp; omega
      by_cases h2 : acc.length ≤ 64
      · have t2 : decide ((acc.length : Int) ≤ 64) = true := by simp; omega
        by_cases h3 : e' = 0
        · subst h3
          clear HX0
          have hl1 : (numR l' 0).2.1.length ≤ 100000000 := by have := numR_less l' 0; omega
          have hl2 : (numR (numR l' 0).2.1 (numR l' 0).2.2).2.1.length ≤ 1000000 := by have := numR_less l' 0; have := numR_less (numR l' 0).2.1 (numR l' 0).2.2; omega
          go_wp2_with (go_at_call 109; with_reducible refine HE.out.mono ?_; rintro r wr ⟨rfl, rfl⟩)
          refine start_ (n := 11) (S := fun w' => w'.heap[c]? = some (.cells #[.slice D acc.length d, .int .i64 za, .int .i64 zb] 50 (0, 0)) ∧ (∀ i, w'.cell? ⟨c, i, none⟩ = (#[.slice D acc.length d, .int .i64 za, .int .i64 zb] : Array Value)[i]?)) (ds := [8, 10]) #[false, false, false, false, false, false, false, false, false, false, false] (by kernel_rfl) rfl rfl ⟨blk_drew HC.out, (fun i => blk_cell HC.out i)⟩ (fun hHeld => ?_)
          refine pure_ (i := 0) (N := some 32) (v := ?_) (a' := ?_) #[true, false, false, false, false, false, false, false, false, false, false] rfl rfl (by kernel_rfl) (fun _ _ _ h => h) (Or.inl ⟨by rfl, ?_⟩) ?_ ?_
          rotate_left
          · intro w'
            go_simp
            with_reducible rfl
          rotate_left
          · simp only [Act.put, List.setIfInBounds_toArray, List.set_cons_zero, List.set_cons_succ, i64_w, i32_w]
            rfl
          refine pure_ (i := 2) (N := some 34) (v := ?_) (a' := ?_) #[true, false, true, false, false, false, false, false, false, false, false] rfl rfl (by kernel_rfl) (fun _ _ _ h => h) (Or.inl ⟨by rfl, ?_⟩) ?_ ?_
          rotate_left
          · intro w'
            go_simp
            with_reducible rfl
          rotate_left
          · simp only [Act.put, List.setIfInBounds_toArray, List.set_cons_zero, List.set_cons_succ, i64_w, i32_w]
            rfl
          refine pure_ (i := 4) (N := some 36) (v := ?_) (a' := ?_) #[true, false, true, false, true, false, false, false, false, false, false] rfl rfl (by kernel_rfl) (fun _ _ _ h => h) (Or.inl ⟨by rfl, ?_⟩) ?_ ?_
          rotate_left
          · intro w'
            go_simp
            with_reducible rfl
          rotate_left
          · simp only [Act.put, List.setIfInBounds_toArray, List.set_cons_zero, List.set_cons_succ, i64_w, i32_w]
            rfl
          refine take_ (i := 1) (N := some 33) (v := ?_) (a' := ?_) #[true, true, true, false, true, false, false, false, false, false, false] rfl rfl (by kernel_rfl) (fun _ _ _ h => h) (Or.inl ⟨by rfl, ?_⟩) hHeld ?_ ?_
          rotate_left
          · rintro w' ⟨s0, s1⟩
            go_simp
            with_reducible rfl
          rotate_left
          · simp only [Act.put, List.setIfInBounds_toArray, List.set_cons_zero, List.set_cons_succ, i64_w, i32_w]
            rfl
          refine one_ (i := 3) (N := some 35) #[true, true, true, true, true, false, false, false, false, false, false] rfl rfl (by kernel_rfl) (by decide) (fun K hK => ?_)
          refine goes_ Try.func108 (by kernel_rfl) rfl #[.pointer (some ⟨g, 0, none⟩)] (by rfl) rfl rfl (by simp only [List.map_toArray, List.map_cons, List.map_nil]; rfl) ?_
          with_reducible refine (vint_rdNum g l' 0 _ (blk_drew HR.out) (by omega)).mono ?_
          rintro r w5 ⟨rfl, hr5, hk5⟩
          refine ⟨_, rfl, ?_⟩
          have HR5 := Aside0.mk hr5
          have HP5 := Aside0.mk (hk5.blk (blk_drew HP.out) (by omega))
          have HB5 := Aside0.mk (hk5.below (below_drew HB.out) (by omega))
          have HO5 := Aside0.mk (hk5.own (HO.out.below (below_drew (Below.refl _ _))) rfl (blk_drew HR.out) (by decide))
          refine hK.out _ _ ⟨hk5.blk hHeld.1 (by omega), (fun i => blk_cell (hk5.blk hHeld.1 (by omega)) i)⟩ (fun hHeld => ?_)
          clear hK K
          refine norm_ (a' := ?_) ?_ ?_
          rotate_left
          · show Act.put _ (some 35) _ = _
            simp only [Act.put, List.setIfInBounds_toArray, List.set_cons_zero, List.set_cons_succ, i64_w, i32_w]
            rfl
          refine one_ (i := 5) (N := some 37) #[true, true, true, true, true, true, false, false, false, false, false] rfl rfl (by kernel_rfl) (by decide) (fun K hK => ?_)
          refine goes_ Try.func108 (by kernel_rfl) rfl #[.pointer (some ⟨g, 0, none⟩)] (by rfl) rfl rfl (by simp only [List.map_toArray, List.map_cons, List.map_nil]; rfl) ?_
          with_reducible refine (vint_rdNum g _ _ _ HR5.out hl1).mono ?_
          rintro r w6 ⟨rfl, hr6, hk6⟩
          refine ⟨_, rfl, ?_⟩
          have HR6 := Aside0.mk hr6
          have HP6 := Aside0.mk (hk6.blk HP5.out (by omega))
          have HB6 := Aside0.mk (hk6.below HB5.out (by omega))
          have HO6 := Aside0.mk (hk6.own HO5.out rfl HR5.out (by decide))
          refine hK.out _ _ ⟨hk6.blk hHeld.1 (by omega), (fun i => blk_cell (hk6.blk hHeld.1 (by omega)) i)⟩ (fun hHeld => ?_)
          clear hK K
          refine norm_ (a' := ?_) ?_ ?_
          rotate_left
          · show Act.put _ (some 37) _ = _
            simp only [Act.put, List.setIfInBounds_toArray, List.set_cons_zero, List.set_cons_succ, i64_w, i32_w]
            rfl
          refine pure_ (i := 6) (N := some 38) (v := ?_) (a' := ?_) #[true, true, true, true, true, true, true, false, false, false, false] rfl rfl (by kernel_rfl) (fun _ _ _ h => h) (Or.inl ⟨by rfl, ?_⟩) ?_ ?_
          rotate_left
          · intro w'
            go_simp
            with_reducible rfl
          rotate_left
          · simp only [Act.put, List.setIfInBounds_toArray, List.set_cons_zero, List.set_cons_succ, i64_w, i32_w]
            rfl
          refine one_ (i := 7) (N := some 39) #[true, true, true, true, true, true, true, true, false, false, false] rfl rfl (by kernel_rfl) (by decide) (fun K hK => ?_)
          have HC6 := Aside0.mk hHeld.1
          refine value_ (w1 := ?_) (v := ?_) (by rfl) rfl ?_ ?_
          rotate_left 2
          · go_simp
            constructor
            · rfl
            · rfl
          refine hK.out _ _ ⟨blk_alloc hHeld.1 _, (fun i => blk_cell (blk_alloc hHeld.1 _) i)⟩ (fun hHeld => ?_)
          clear hK K
          refine norm_ (a' := ?_) ?_ ?_
          rotate_left
          · show Act.put _ (some 39) _ = _
            simp only [Act.put, List.setIfInBounds_toArray, List.set_cons_zero, List.set_cons_succ, i64_w, i32_w]
            rfl
          refine last_ (i := 8) (N := some 40) #[true, true, true, true, true, true, true, true, true, false, false] rfl rfl (by kernel_rfl) (by decide) (fun K hK => ?_)
          refine own_append_step (w0 := _) (c + 1) (by rfl) (.tmp 33) (.tmp 39) 48 162 (.agg #[.int .i64 0, .int .i64 0]) 16 rfl Try.underlying48 info162 rfl (by decide) (by omega) (.slice D acc.length d) acc ⟨(numR l' 0).1, (numR (numR l' 0).2.1 (numR l' 0).2.2).1⟩ rfl rfl HO6.out (Below.refl _ _) (blk_lt HC6.out) (by omega) ?_
          intro v1 w7 ho hb hs
          obtain ⟨C6, c6, rfl, hs6⟩ := ho.sl
          clear hs6
          have HO7 := Aside0.mk ho
          have HC7 := Aside0.mk (blk_same hb (Nat.lt_succ_self c) HC6.out)
          have HP7 := Aside0.mk (blk_same hb (by omega) HP6.out)
          have HR7 := Aside0.mk (blk_same hb (by omega) HR6.out)
          have HB7 := Aside0.mk (HB6.out.trans (hb.mono (by omega)))
          have q0 := blk_cell HC7.out
          have q1 := blk_frozen HC7.out
          have q2 := blk_lt HC7.out
          clear ho hb hs
          refine hK.out _ _ ?_
          clear hK K
          refine norm_ (a' := ?_) ?_ ?_
          rotate_left
          · show Act.put _ (some 40) _ = _
            simp only [Act.put, List.setIfInBounds_toArray, List.set_cons_zero, List.set_cons_succ, i64_w, i32_w]
            rfl
          refine pure_ (i := 9) (N := some 41) (v := ?_) (a' := ?_) #[true, true, true, true, true, true, true, true, true, true, false] rfl rfl (by kernel_rfl) (fun _ _ _ h => h) (Or.inl ⟨by rfl, ?_⟩) ?_ ?_
          rotate_left
          · intro w'
            go_simp
            with_reducible rfl
          rotate_left
          · simp only [Act.put, List.setIfInBounds_toArray, List.set_cons_zero, List.set_cons_succ, i64_w, i32_w]
            rfl
          refine last_ (i := 10) (N := none) #[true, true, true, true, true, true, true, true, true, true, true] rfl rfl (by kernel_rfl) (by decide) (fun K hK => ?_)
          refine skip_ (w1 := ?_) (by rfl) rfl ?_ ?_
          rotate_left
          · go_simp
            rfl
          refine hK.out _ _ ?_
          clear hK K
          refine done_ (by kernel_rfl) ?_

          have hg8 := Aside0.mk (blk_set HC7.out 0 (.slice C6 (acc.length + 1) c6))
          have hp8 := Aside0.mk (blk_far HP7.out (p := ⟨c, 0, none⟩) (show w.heap.size ≠ c by omega) (.slice C6 (acc.length + 1) c6))
          have hr8 := Aside0.mk (blk_far HR7.out (p := ⟨c, 0, none⟩) (show g ≠ c by omega) (.slice C6 (acc.length + 1) c6))
          have hb8 := Aside0.mk (below_set (j := 0) (v := .slice C6 (acc.length + 1) c6) HB7.out (show w.heap.size ≤ c by omega))
          have ho8 := Aside0.mk (Own.sets HO7.out (Nat.lt_succ_self c) 0 (.slice C6 (acc.length + 1) c6))
          clear q0 q1 q2
          generalize w7.setCell ⟨c, 0, none⟩ (.slice C6 (acc.length + 1) c6) = w8 at *
          go_wp2
          refine ⟨⟨acc.length + 1, (numR (numR l' 0).2.1 (numR l' 0).2.2).2.1, (numR (numR l' 0).2.1 (numR l' 0).2.2).2.2, acc ++ [⟨(numR l' 0).1, (numR (numR l' 0).2.1 (numR l' 0).2.2).1⟩], .slice C6 (acc.length + 1) c6, by go_num, by simp, by omega, hl2, ?_, hr8, hp8, hg8, ?_, hb8⟩, by simp [intOf]; omega⟩
          · refine ⟨?_⟩
            rw [HS.out, show min N 65 - acc.length = (min N 65 - (acc.length + 1)) + 1 by omega, spansR_step]
          · refine ⟨?_⟩
            have h := ho8.out
            rw [List.length_append, List.length_singleton] at h
            exact h
        · have t3 : (e' == 0) = false := by simp [h3]
          have HX := HX0 (.inl h3)
          clear HX0 h3
          have hEnd := vint_End g l' e' wr HR.out
          have HCC := Aside0.mk (show rC l = ⟨acc, za, zb⟩ by rw [HZ.out, HX.out])
          have hCh := scan_check D d ⟨acc, za, zb⟩ wr HSL.out
          have p0 := blk_cell HC.out
          have p1 := blk_cell HP.out
          have p2 := blk_frozen HP.out
          by_cases h4 : 64 < acc.length
          · have t4 : decide (64 < (acc.length : Int)) = true := by simp; omega
            have E := Aside0.mk (show curErr l = 3 by rw [curErr, HCC.out, if_pos h4])
            have E0 := Aside0.mk (show curErr l ≠ 0 by rw [E.out]; decide)
            have HEnd := Aside0.mk hEnd
            clear hCh hEnd
            first | (exfalso; omega) | skip
            all_goals go_wp2_with (first | (go_at_call 109; with_reducible refine HE.out.mono ?_; rintro r wr ⟨rfl, rfl⟩) | (go_at_call 110; go_must (with_reducible refine HEnd.out.mono ?_); rintro r wr ⟨rfl, rfl⟩) | (go_at_call 89; go_must (with_reducible refine HCh.out.mono ?_); rintro r w9 ⟨rfl, hb9⟩; have HC9 := Aside0.mk (blk_keep hb9 HC.out); have HP9 := Aside0.mk (blk_keep hb9 HP.out); have HB9 := Aside0.mk (below_then HB.out HB.out.size hb9); have HO9 := Aside0.mk (HO.out.below hb9); have q0 := blk_cell HC9.out; have q1 := blk_cell HP9.out; have q2 := blk_frozen HP9.out; clear hb9))
            all_goals (
              have hz := blk_set (blk_set (blk_set HP.out 0 (.slice none 0 0)) 1 (.int .i64 0)) 2 (.int .i64 0)
              have hbz : Below w.heap.size w (((wr.setCell ⟨w.heap.size, 0, none⟩ (.slice none 0 0)).setCell ⟨w.heap.size, 1, none⟩ (.int .i64 0)).setCell ⟨w.heap.size, 2, none⟩ (.int .i64 0)) := by
                repeat (with_reducible refine below_set ?_ (Nat.le_refl _))
                exact HB.out
              clear p0 p1 p2
              generalize (((wr.setCell ⟨w.heap.size, 0, none⟩ (.slice none 0 0)).setCell ⟨w.heap.size, 1, none⟩ (.int .i64 0)).setCell ⟨w.heap.size, 2, none⟩ (.int .i64 0)) = W at *
              have z0 := blk_cell hz
              refine bodyPost_ret (v := .tuple #[.agg #[.slice none 0 0, .int .i64 0, .int .i64 0], .int .i64 3]) (by simp [results, Try.results47, go_sem, z0]) rfl ⟨none, 0, ?_, ?_, hbz⟩
              · rw [curOut, if_neg E0.out, E.out]; rfl
              · rw [curOut, if_neg E0.out]; exact Sl.nil _ _ _ _)
          · have t4 : decide (64 < (acc.length : Int)) = false := by simp; omega
            first | (exfalso; omega) | skip
            all_goals (
              by_cases h5 : endR e' l' = 0
              · have E1 := Aside0.mk (show curErr l = if okCur ⟨acc, za, zb⟩ then 0 else 3 by rw [curErr, HCC.out, if_neg h4, HX.out, if_neg (by simp [h5])])
                rw [h5] at hEnd
                have HEnd := Aside0.mk hEnd
                clear hEnd h5
                cases h6 : okCur ⟨acc, za, zb⟩ with
                | true =>
                  have E := Aside0.mk (show curErr l = 0 by rw [E1.out, h6]; rfl)
                  rw [h6] at hCh
                  have HCh := Aside0.mk hCh
                  clear hCh h6 E1
                  go_wp2_with (first | (go_at_call 109; with_reducible refine HE.out.mono ?_; rintro r wr ⟨rfl, rfl⟩) | (go_at_call 110; go_must (with_reducible refine HEnd.out.mono ?_); rintro r wr ⟨rfl, rfl⟩) | (go_at_call 89; go_must (with_reducible refine HCh.out.mono ?_); rintro r w9 ⟨rfl, hb9⟩; have HC9 := Aside0.mk (blk_keep hb9 HC.out); have HP9 := Aside0.mk (blk_keep hb9 HP.out); have HB9 := Aside0.mk (below_then HB.out HB.out.size hb9); have HO9 := Aside0.mk (HO.out.below hb9); have q0 := blk_cell HC9.out; have q1 := blk_cell HP9.out; have q2 := blk_frozen HP9.out; clear hb9))
                  have hz := blk_set (blk_set (blk_set HP9.out 0 (.slice D acc.length d)) 1 (.int .i64 za)) 2 (.int .i64 zb)
                  have hbz : Below w.heap.size w (((w9.setCell ⟨w.heap.size, 0, none⟩ (.slice D acc.length d)).setCell ⟨w.heap.size, 1, none⟩ (.int .i64 za)).setCell ⟨w.heap.size, 2, none⟩ (.int .i64 zb)) := by
                    repeat (with_reducible refine below_set ?_ (Nat.le_refl _))
                    exact HB9.out
                  have hoz : Own kSpan 162 (((w9.setCell ⟨w.heap.size, 0, none⟩ (.slice D acc.length d)).setCell ⟨w.heap.size, 1, none⟩ (.int .i64 za)).setCell ⟨w.heap.size, 2, none⟩ (.int .i64 zb)) (c + 1) (.slice D acc.length d) acc := by
                    repeat (with_reducible refine Own.sets ?_ (by omega) _ _)
                    exact HO9.out
                  clear p0 p1 p2 q0 q1 q2
                  generalize (((w9.setCell ⟨w.heap.size, 0, none⟩ (.slice D acc.length d)).setCell ⟨w.heap.size, 1, none⟩ (.int .i64 za)).setCell ⟨w.heap.size, 2, none⟩ (.int .i64 zb)) = W at *
                  have z0 := blk_cell hz
                  have hco := Aside0.mk (show curOut l = ⟨acc, za, zb⟩ by rw [curOut, if_pos E.out, HCC.out])
                  refine bodyPost_ret (v := .tuple #[.agg #[.slice D acc.length d, .int .i64 za, .int .i64 zb], .int .i64 0]) (by simp [results, Try.results47, go_sem, z0]) rfl ⟨D, d, ?_, ?_, hbz⟩
                  · rw [hco.out, E.out]
                  · rw [hco.out]; exact hoz.sl2
                | false =>
                  have E := Aside0.mk (show curErr l = 3 by rw [E1.out, h6]; rfl)
                  have E0 := Aside0.mk (show curErr l ≠ 0 by rw [E.out]; decide)
                  rw [h6] at hCh
                  have HCh := Aside0.mk hCh
                  clear hCh h6 E1
                  go_wp2_with (first | (go_at_call 109; with_reducible refine HE.out.mono ?_; rintro r wr ⟨rfl, rfl⟩) | (go_at_call 110; go_must (with_reducible refine HEnd.out.mono ?_); rintro r wr ⟨rfl, rfl⟩) | (go_at_call 89; go_must (with_reducible refine HCh.out.mono ?_); rintro r w9 ⟨rfl, hb9⟩; have HC9 := Aside0.mk (blk_keep hb9 HC.out); have HP9 := Aside0.mk (blk_keep hb9 HP.out); have HB9 := Aside0.mk (below_then HB.out HB.out.size hb9); have HO9 := Aside0.mk (HO.out.below hb9); have q0 := blk_cell HC9.out; have q1 := blk_cell HP9.out; have q2 := blk_frozen HP9.out; clear hb9))
                  have hz := blk_set (blk_set (blk_set HP9.out 0 (.slice none 0 0)) 1 (.int .i64 0)) 2 (.int .i64 0)
                  have hbz : Below w.heap.size w (((w9.setCell ⟨w.heap.size, 0, none⟩ (.slice none 0 0)).setCell ⟨w.heap.size, 1, none⟩ (.int .i64 0)).setCell ⟨w.heap.size, 2, none⟩ (.int .i64 0)) := by
                    repeat (with_reducible refine below_set ?_ (Nat.le_refl _))
                    exact HB9.out
                  clear p0 p1 p2 q0 q1 q2
                  generalize (((w9.setCell ⟨w.heap.size, 0, none⟩ (.slice none 0 0)).setCell ⟨w.heap.size, 1, none⟩ (.int .i64 0)).setCell ⟨w.heap.size, 2, none⟩ (.int .i64 0)) = W at *
                  have z0 := blk_cell hz
                  refine bodyPost_ret (v := .tuple #[.agg #[.slice none 0 0, .int .i64 0, .int .i64 0], .int .i64 3]) (by simp [results, Try.results47, go_sem, z0]) rfl ⟨none, 0, ?_, ?_, hbz⟩
                  · rw [curOut, if_neg E0.out, E.out]; rfl
                  · rw [curOut, if_neg E0.out]; exact Sl.nil _ _ _ _
              · have t5 : (endR e' l' == 0) = false := by simp [h5]
                have E := Aside0.mk (show curErr l = endR e' l' by rw [curErr, HCC.out, if_neg h4, HX.out, if_pos h5])
                have E0 := Aside0.mk (show curErr l ≠ 0 by rw [E.out]; exact h5)
                have HEnd := Aside0.mk hEnd
                clear hCh hEnd h5
                generalize endR e' l' = er at *
                go_wp2_with (first | (go_at_call 109; with_reducible refine HE.out.mono ?_; rintro r wr ⟨rfl, rfl⟩) | (go_at_call 110; go_must (with_reducible refine HEnd.out.mono ?_); rintro r wr ⟨rfl, rfl⟩) | (go_at_call 89; go_must (with_reducible refine HCh.out.mono ?_); rintro r w9 ⟨rfl, hb9⟩; have HC9 := Aside0.mk (blk_keep hb9 HC.out); have HP9 := Aside0.mk (blk_keep hb9 HP.out); have HB9 := Aside0.mk (below_then HB.out HB.out.size hb9); have HO9 := Aside0.mk (HO.out.below hb9); have q0 := blk_cell HC9.out; have q1 := blk_cell HP9.out; have q2 := blk_frozen HP9.out; clear hb9))
                have hz := blk_set (blk_set (blk_set HP.out 0 (.slice none 0 0)) 1 (.int .i64 0)) 2 (.int .i64 0)
                have hbz : Below w.heap.size w (((wr.setCell ⟨w.heap.size, 0, none⟩ (.slice none 0 0)).setCell ⟨w.heap.size, 1, none⟩ (.int .i64 0)).setCell ⟨w.heap.size, 2, none⟩ (.int .i64 0)) := by
                  repeat (with_reducible refine below_set ?_ (Nat.le_refl _))
                  exact HB.out
                clear p0 p1 p2
                generalize (((wr.setCell ⟨w.heap.size, 0, none⟩ (.slice none 0 0)).setCell ⟨w.heap.size, 1, none⟩ (.int .i64 0)).setCell ⟨w.heap.size, 2, none⟩ (.int .i64 0)) = W at *
                have z0 := blk_cell hz
                refine bodyPost_ret (v := .tuple #[.agg #[.slice none 0 0, .int .i64 0, .int .i64 0], .int .i64 er]) (by simp [results, Try.results47, go_sem, z0]) rfl ⟨none, 0, ?_, ?_, hbz⟩
                · rw [curOut, if_neg E0.out, E.out]; rfl
                · rw [curOut, if_neg E0.out]; exact Sl.nil _ _ _ _)
      · have t2 : decide ((acc.length : Int) ≤ 64) = false := by simp; omega
        have HX := HX0 (.inr (by omega))
        clear HX0
        have hEnd := vint_End g l' e' wr HR.out
        have HCC := Aside0.mk (show rC l = ⟨acc, za, zb⟩ by rw [HZ.out, HX.out])
        have hCh := scan_check D d ⟨acc, za, zb⟩ wr HSL.out
        have p0 := blk_cell HC.out
        have p1 := blk_cell HP.out
        have p2 := blk_frozen HP.out
        by_cases h4 : 64 < acc.length
        · have t4 : decide (64 < (acc.length : Int)) = true := by simp; omega
          have E := Aside0.mk (show curErr l = 3 by rw [curErr, HCC.out, if_pos h4])
          have E0 := Aside0.mk (show curErr l ≠ 0 by rw [E.out]; decide)
          have HEnd := Aside0.mk hEnd
          clear hCh hEnd
          first | (exfalso; omega) | skip
          all_goals go_wp2_with (first | (go_at_call 109; with_reducible refine HE.out.mono ?_; rintro r wr ⟨rfl, rfl⟩) | (go_at_call 110; go_must (with_reducible refine HEnd.out.mono ?_); rintro r wr ⟨rfl, rfl⟩) | (go_at_call 89; go_must (with_reducible refine HCh.out.mono ?_); rintro r w9 ⟨rfl, hb9⟩; have HC9 := Aside0.mk (blk_keep hb9 HC.out); have HP9 := Aside0.mk (blk_keep hb9 HP.out); have HB9 := Aside0.mk (below_then HB.out HB.out.size hb9); have HO9 := Aside0.mk (HO.out.below hb9); have q0 := blk_cell HC9.out; have q1 := blk_cell HP9.out; have q2 := blk_frozen HP9.out; clear hb9))
          all_goals (
            have hz := blk_set (blk_set (blk_set HP.out 0 (.slice none 0 0)) 1 (.int .i64 0)) 2 (.int .i64 0)
            have hbz : Below w.heap.size w (((wr.setCell ⟨w.heap.size, 0, none⟩ (.slice none 0 0)).setCell ⟨w.heap.size, 1, none⟩ (.int .i64 0)).setCell ⟨w.heap.size, 2, none⟩ (.int .i64 0)) := by
              repeat (with_reducible refine below_set ?_ (Nat.le_refl _))
              exact HB.out
            clear p0 p1 p2
            generalize (((wr.setCell ⟨w.heap.size, 0, none⟩ (.slice none 0 0)).setCell ⟨w.heap.size, 1, none⟩ (.int .i64 0)).setCell ⟨w.heap.size, 2, none⟩ (.int .i64 0)) = W at *
            have z0 := blk_cell hz
            refine bodyPost_ret (v := .tuple #[.agg #[.slice none 0 0, .int .i64 0, .int .i64 0], .int .i64 3]) (by simp [results, Try.results47, go_sem, z0]) rfl ⟨none, 0, ?_, ?_, hbz⟩
            · rw [curOut, if_neg E0.out, E.out]; rfl
            · rw [curOut, if_neg E0.out]; exact Sl.nil _ _ _ _)
        · have t4 : decide (64 < (acc.length : Int)) = false := by simp; omega
          first | (exfalso; omega) | skip
          all_goals (
            by_cases h5 : endR e' l' = 0
            · have E1 := Aside0.mk (show curErr l = if okCur ⟨acc, za, zb⟩ then 0 else 3 by rw [curErr, HCC.out, if_neg h4, HX.out, if_neg (by simp [h5])])
              rw [h5] at hEnd
              have HEnd := Aside0.mk hEnd
              clear hEnd h5
              cases h6 : okCur ⟨acc, za, zb⟩ with
              | true =>
                have E := Aside0.mk (show curErr l = 0 by rw [E1.out, h6]; rfl)
                rw [h6] at hCh
                have HCh := Aside0.mk hCh
                clear hCh h6 E1
                go_wp2_with (first | (go_at_call 109; with_reducible refine HE.out.mono ?_; rintro r wr ⟨rfl, rfl⟩) | (go_at_call 110; go_must (with_reducible refine HEnd.out.mono ?_); rintro r wr ⟨rfl, rfl⟩) | (go_at_call 89; go_must (with_reducible refine HCh.out.mono ?_); rintro r w9 ⟨rfl, hb9⟩; have HC9 := Aside0.mk (blk_keep hb9 HC.out); have HP9 := Aside0.mk (blk_keep hb9 HP.out); have HB9 := Aside0.mk (below_then HB.out HB.out.size hb9); have HO9 := Aside0.mk (HO.out.below hb9); have q0 := blk_cell HC9.out; have q1 := blk_cell HP9.out; have q2 := blk_frozen HP9.out; clear hb9))
                have hz := blk_set (blk_set (blk_set HP9.out 0 (.slice D acc.length d)) 1 (.int .i64 za)) 2 (.int .i64 zb)
                have hbz : Below w.heap.size w (((w9.setCell ⟨w.heap.size, 0, none⟩ (.slice D acc.length d)).setCell ⟨w.heap.size, 1, none⟩ (.int .i64 za)).setCell ⟨w.heap.size, 2, none⟩ (.int .i64 zb)) := by
                  repeat (with_reducible refine below_set ?_ (Nat.le_refl _))
                  exact HB9.out
                have hoz : Own kSpan 162 (((w9.setCell ⟨w.heap.size, 0, none⟩ (.slice D acc.length d)).setCell ⟨w.heap.size, 1, none⟩ (.int .i64 za)).setCell ⟨w.heap.size, 2, none⟩ (.int .i64 zb)) (c + 1) (.slice D acc.length d) acc := by
                  repeat (with_reducible refine Own.sets ?_ (by omega) _ _)
                  exact HO9.out
                clear p0 p1 p2 q0 q1 q2
                generalize (((w9.setCell ⟨w.heap.size, 0, none⟩ (.slice D acc.length d)).setCell ⟨w.heap.size, 1, none⟩ (.int .i64 za)).setCell ⟨w.heap.size, 2, none⟩ (.int .i64 zb)) = W at *
                have z0 := blk_cell hz
                have hco := Aside0.mk (show curOut l = ⟨acc, za, zb⟩ by rw [curOut, if_pos E.out, HCC.out])
                refine bodyPost_ret (v := .tuple #[.agg #[.slice D acc.length d, .int .i64 za, .int .i64 zb], .int .i64 0]) (by simp [results, Try.results47, go_sem, z0]) rfl ⟨D, d, ?_, ?_, hbz⟩
                · rw [hco.out, E.out]
                · rw [hco.out]; exact hoz.sl2
              | false =>
                have E := Aside0.mk (show curErr l = 3 by rw [E1.out, h6]; rfl)
                have E0 := Aside0.mk (show curErr l ≠ 0 by rw [E.out]; decide)
                rw [h6] at hCh
                have HCh := Aside0.mk hCh
                clear hCh h6 E1
                go_wp2_with (first | (go_at_call 109; with_reducible refine HE.out.mono ?_; rintro r wr ⟨rfl, rfl⟩) | (go_at_call 110; go_must (with_reducible refine HEnd.out.mono ?_); rintro r wr ⟨rfl, rfl⟩) | (go_at_call 89; go_must (with_reducible refine HCh.out.mono ?_); rintro r w9 ⟨rfl, hb9⟩; have HC9 := Aside0.mk (blk_keep hb9 HC.out); have HP9 := Aside0.mk (blk_keep hb9 HP.out); have HB9 := Aside0.mk (below_then HB.out HB.out.size hb9); have HO9 := Aside0.mk (HO.out.below hb9); have q0 := blk_cell HC9.out; have q1 := blk_cell HP9.out; have q2 := blk_frozen HP9.out; clear hb9))
                have hz := blk_set (blk_set (blk_set HP9.out 0 (.slice none 0 0)) 1 (.int .i64 0)) 2 (.int .i64 0)
                have hbz : Below w.heap.size w (((w9.setCell ⟨w.heap.size, 0, none⟩ (.slice none 0 0)).setCell ⟨w.heap.size, 1, none⟩ (.int .i64 0)).setCell ⟨w.heap.size, 2, none⟩ (.int .i64 0)) := by
                  repeat (with_reducible refine below_set ?_ (Nat.le_refl _))
                  exact HB9.out
                clear p0 p1 p2 q0 q1 q2
                generalize (((w9.setCell ⟨w.heap.size, 0, none⟩ (.slice none 0 0)).setCell ⟨w.heap.size, 1, none⟩ (.int .i64 0)).setCell ⟨w.heap.size, 2, none⟩ (.int .i64 0)) = W at *
                have z0 := blk_cell hz
                refine bodyPost_ret (v := .tuple #[.agg #[.slice none 0 0, .int .i64 0, .int .i64 0], .int .i64 3]) (by simp [results, Try.results47, go_sem, z0]) rfl ⟨none, 0, ?_, ?_, hbz⟩
                · rw [curOut, if_neg E0.out, E.out]; rfl
                · rw [curOut, if_neg E0.out]; exact Sl.nil _ _ _ _
            · have t5 : (endR e' l' == 0) = false := by simp [h5]
              have E := Aside0.mk (show curErr l = endR e' l' by rw [curErr, HCC.out, if_neg h4, HX.out, if_pos h5])
              have E0 := Aside0.mk (show curErr l ≠ 0 by rw [E.out]; exact h5)
              have HEnd := Aside0.mk hEnd
              clear hCh hEnd h5
              generalize endR e' l' = er at *
              go_wp2_with (first | (go_at_call 109; with_reducible refine HE.out.mono ?_; rintro r wr ⟨rfl, rfl⟩) | (go_at_call 110; go_must (with_reducible refine HEnd.out.mono ?_); rintro r wr ⟨rfl, rfl⟩) | (go_at_call 89; go_must (with_reducible refine HCh.out.mono ?_); rintro r w9 ⟨rfl, hb9⟩; have HC9 := Aside0.mk (blk_keep hb9 HC.out); have HP9 := Aside0.mk (blk_keep hb9 HP.out); have HB9 := Aside0.mk (below_then HB.out HB.out.size hb9); have HO9 := Aside0.mk (HO.out.below hb9); have q0 := blk_cell HC9.out; have q1 := blk_cell HP9.out; have q2 := blk_frozen HP9.out; clear hb9))
              have hz := blk_set (blk_set (blk_set HP.out 0 (.slice none 0 0)) 1 (.int .i64 0)) 2 (.int .i64 0)
              have hbz : Below w.heap.size w (((wr.setCell ⟨w.heap.size, 0, none⟩ (.slice none 0 0)).setCell ⟨w.heap.size, 1, none⟩ (.int .i64 0)).setCell ⟨w.heap.size, 2, none⟩ (.int .i64 0)) := by
                repeat (with_reducible refine below_set ?_ (Nat.le_refl _))
                exact HB.out
              clear p0 p1 p2
              generalize (((wr.setCell ⟨w.heap.size, 0, none⟩ (.slice none 0 0)).setCell ⟨w.heap.size, 1, none⟩ (.int .i64 0)).setCell ⟨w.heap.size, 2, none⟩ (.int .i64 0)) = W at *
              have z0 := blk_cell hz
              refine bodyPost_ret (v := .tuple #[.agg #[.slice none 0 0, .int .i64 0, .int .i64 0], .int .i64 er]) (by simp [results, Try.results47, go_sem, z0]) rfl ⟨none, 0, ?_, ?_, hbz⟩
              · rw [curOut, if_neg E0.out, E.out]; rfl
              · rw [curOut, if_neg E0.out]; exact Sl.nil _ _ _ _)
    · have t1 : decide ((acc.length : Int) < (N : Int)) = false := by simp; omega
      have HX := HX0 (.inr (by omega))
      clear HX0
      have hEnd := vint_End g l' e' wr HR.out
      have HCC := Aside0.mk (show rC l = ⟨acc, za, zb⟩ by rw [HZ.out, HX.out])
      have hCh := scan_check D d ⟨acc, za, zb⟩ wr HSL.out
      have p0 := blk_cell HC.out
      have p1 := blk_cell HP.out
      have p2 := blk_frozen HP.out
      by_cases h4 : 64 < acc.length
      · have t4 : decide (64 < (acc.length : Int)) = true := by simp; omega
        have E := Aside0.mk (show curErr l = 3 by rw [curErr, HCC.out, if_pos h4])
        have E0 := Aside0.mk (show curErr l ≠ 0 by rw [E.out]; decide)
        have HEnd := Aside0.mk hEnd
        clear hCh hEnd
        first | (exfalso; omega) | skip
        all_goals go_wp2_with (first | (go_at_call 109; with_reducible refine HE.out.mono ?_; rintro r wr ⟨rfl, rfl⟩) | (go_at_call 110; go_must (with_reducible refine HEnd.out.mono ?_); rintro r wr ⟨rfl, rfl⟩) | (go_at_call 89; go_must (with_reducible refine HCh.out.mono ?_); rintro r w9 ⟨rfl, hb9⟩; have HC9 := Aside0.mk (blk_keep hb9 HC.out); have HP9 := Aside0.mk (blk_keep hb9 HP.out); have HB9 := Aside0.mk (below_then HB.out HB.out.size hb9); have HO9 := Aside0.mk (HO.out.below hb9); have q0 := blk_cell HC9.out; have q1 := blk_cell HP9.out; have q2 := blk_frozen HP9.out; clear hb9))
        all_goals (
          have hz := blk_set (blk_set (blk_set HP.out 0 (.slice none 0 0)) 1 (.int .i64 0)) 2 (.int .i64 0)
          have hbz : Below w.heap.size w (((wr.setCell ⟨w.heap.size, 0, none⟩ (.slice none 0 0)).setCell ⟨w.heap.size, 1, none⟩ (.int .i64 0)).setCell ⟨w.heap.size, 2, none⟩ (.int .i64 0)) := by
            repeat (with_reducible refine below_set ?_ (Nat.le_refl _))
            exact HB.out
          clear p0 p1 p2
          generalize (((wr.setCell ⟨w.heap.size, 0, none⟩ (.slice none 0 0)).setCell ⟨w.heap.size, 1, none⟩ (.int .i64 0)).setCell ⟨w.heap.size, 2, none⟩ (.int .i64 0)) = W at *
          have z0 := blk_cell hz
          refine bodyPost_ret (v := .tuple #[.agg #[.slice none 0 0, .int .i64 0, .int .i64 0], .int .i64 3]) (by simp [results, Try.results47, go_sem, z0]) rfl ⟨none, 0, ?_, ?_, hbz⟩
          · rw [curOut, if_neg E0.out, E.out]; rfl
          · rw [curOut, if_neg E0.out]; exact Sl.nil _ _ _ _)
      · have t4 : decide (64 < (acc.length : Int)) = false := by simp; omega
        first | (exfalso; omega) | skip
        all_goals (
          by_cases h5 : endR e' l' = 0
          · have E1 := Aside0.mk (show curErr l = if okCur ⟨acc, za, zb⟩ then 0 else 3 by rw [curErr, HCC.out, if_neg h4, HX.out, if_neg (by simp [h5])])
            rw [h5] at hEnd
            have HEnd := Aside0.mk hEnd
            clear hEnd h5
            cases h6 : okCur ⟨acc, za, zb⟩ with
            | true =>
              have E := Aside0.mk (show curErr l = 0 by rw [E1.out, h6]; rfl)
              rw [h6] at hCh
              have HCh := Aside0.mk hCh
              clear hCh h6 E1
              go_wp2_with (first | (go_at_call 109; with_reducible refine HE.out.mono ?_; rintro r wr ⟨rfl, rfl⟩) | (go_at_call 110; go_must (with_reducible refine HEnd.out.mono ?_); rintro r wr ⟨rfl, rfl⟩) | (go_at_call 89; go_must (with_reducible refine HCh.out.mono ?_); rintro r w9 ⟨rfl, hb9⟩; have HC9 := Aside0.mk (blk_keep hb9 HC.out); have HP9 := Aside0.mk (blk_keep hb9 HP.out); have HB9 := Aside0.mk (below_then HB.out HB.out.size hb9); have HO9 := Aside0.mk (HO.out.below hb9); have q0 := blk_cell HC9.out; have q1 := blk_cell HP9.out; have q2 := blk_frozen HP9.out; clear hb9))
              have hz := blk_set (blk_set (blk_set HP9.out 0 (.slice D acc.length d)) 1 (.int .i64 za)) 2 (.int .i64 zb)
              have hbz : Below w.heap.size w (((w9.setCell ⟨w.heap.size, 0, none⟩ (.slice D acc.length d)).setCell ⟨w.heap.size, 1, none⟩ (.int .i64 za)).setCell ⟨w.heap.size, 2, none⟩ (.int .i64 zb)) := by
                repeat (with_reducible refine below_set ?_ (Nat.le_refl _))
                exact HB9.out
              have hoz : Own kSpan 162 (((w9.setCell ⟨w.heap.size, 0, none⟩ (.slice D acc.length d)).setCell ⟨w.heap.size, 1, none⟩ (.int .i64 za)).setCell ⟨w.heap.size, 2, none⟩ (.int .i64 zb)) (c + 1) (.slice D acc.length d) acc := by
                repeat (with_reducible refine Own.sets ?_ (by omega) _ _)
                exact HO9.out
              clear p0 p1 p2 q0 q1 q2
              generalize (((w9.setCell ⟨w.heap.size, 0, none⟩ (.slice D acc.length d)).setCell ⟨w.heap.size, 1, none⟩ (.int .i64 za)).setCell ⟨w.heap.size, 2, none⟩ (.int .i64 zb)) = W at *
              have z0 := blk_cell hz
              have hco := Aside0.mk (show curOut l = ⟨acc, za, zb⟩ by rw [curOut, if_pos E.out, HCC.out])
              refine bodyPost_ret (v := .tuple #[.agg #[.slice D acc.length d, .int .i64 za, .int .i64 zb], .int .i64 0]) (by simp [results, Try.results47, go_sem, z0]) rfl ⟨D, d, ?_, ?_, hbz⟩
              · rw [hco.out, E.out]
              · rw [hco.out]; exact hoz.sl2
            | false =>
              have E := Aside0.mk (show curErr l = 3 by rw [E1.out, h6]; rfl)
              have E0 := Aside0.mk (show curErr l ≠ 0 by rw [E.out]; decide)
              rw [h6] at hCh
              have HCh := Aside0.mk hCh
              clear hCh h6 E1
              go_wp2_with (first | (go_at_call 109; with_reducible refine HE.out.mono ?_; rintro r wr ⟨rfl, rfl⟩) | (go_at_call 110; go_must (with_reducible refine HEnd.out.mono ?_); rintro r wr ⟨rfl, rfl⟩) | (go_at_call 89; go_must (with_reducible refine HCh.out.mono ?_); rintro r w9 ⟨rfl, hb9⟩; have HC9 := Aside0.mk (blk_keep hb9 HC.out); have HP9 := Aside0.mk (blk_keep hb9 HP.out); have HB9 := Aside0.mk (below_then HB.out HB.out.size hb9); have HO9 := Aside0.mk (HO.out.below hb9); have q0 := blk_cell HC9.out; have q1 := blk_cell HP9.out; have q2 := blk_frozen HP9.out; clear hb9))
              have hz := blk_set (blk_set (blk_set HP9.out 0 (.slice none 0 0)) 1 (.int .i64 0)) 2 (.int .i64 0)
              have hbz : Below w.heap.size w (((w9.setCell ⟨w.heap.size, 0, none⟩ (.slice none 0 0)).setCell ⟨w.heap.size, 1, none⟩ (.int .i64 0)).setCell ⟨w.heap.size, 2, none⟩ (.int .i64 0)) := by
                repeat (with_reducible refine below_set ?_ (Nat.le_refl _))
                exact HB9.out
              clear p0 p1 p2 q0 q1 q2
              generalize (((w9.setCell ⟨w.heap.size, 0, none⟩ (.slice none 0 0)).setCell ⟨w.heap.size, 1, none⟩ (.int .i64 0)).setCell ⟨w.heap.size, 2, none⟩ (.int .i64 0)) = W at *
              have z0 := blk_cell hz
              refine bodyPost_ret (v := .tuple #[.agg #[.slice none 0 0, .int .i64 0, .int .i64 0], .int .i64 3]) (by simp [results, Try.results47, go_sem, z0]) rfl ⟨none, 0, ?_, ?_, hbz⟩
              · rw [curOut, if_neg E0.out, E.out]; rfl
              · rw [curOut, if_neg E0.out]; exact Sl.nil _ _ _ _
          · have t5 : (endR e' l' == 0) = false := by simp [h5]
            have E := Aside0.mk (show curErr l = endR e' l' by rw [curErr, HCC.out, if_neg h4, HX.out, if_pos h5])
            have E0 := Aside0.mk (show curErr l ≠ 0 by rw [E.out]; exact h5)
            have HEnd := Aside0.mk hEnd
            clear hCh hEnd h5
            generalize endR e' l' = er at *
            go_wp2_with (first | (go_at_call 109; with_reducible refine HE.out.mono ?_; rintro r wr ⟨rfl, rfl⟩) | (go_at_call 110; go_must (with_reducible refine HEnd.out.mono ?_); rintro r wr ⟨rfl, rfl⟩) | (go_at_call 89; go_must (with_reducible refine HCh.out.mono ?_); rintro r w9 ⟨rfl, hb9⟩; have HC9 := Aside0.mk (blk_keep hb9 HC.out); have HP9 := Aside0.mk (blk_keep hb9 HP.out); have HB9 := Aside0.mk (below_then HB.out HB.out.size hb9); have HO9 := Aside0.mk (HO.out.below hb9); have q0 := blk_cell HC9.out; have q1 := blk_cell HP9.out; have q2 := blk_frozen HP9.out; clear hb9))
            have hz := blk_set (blk_set (blk_set HP.out 0 (.slice none 0 0)) 1 (.int .i64 0)) 2 (.int .i64 0)
            have hbz : Below w.heap.size w (((wr.setCell ⟨w.heap.size, 0, none⟩ (.slice none 0 0)).setCell ⟨w.heap.size, 1, none⟩ (.int .i64 0)).setCell ⟨w.heap.size, 2, none⟩ (.int .i64 0)) := by
              repeat (with_reducible refine below_set ?_ (Nat.le_refl _))
              exact HB.out
            clear p0 p1 p2
            generalize (((wr.setCell ⟨w.heap.size, 0, none⟩ (.slice none 0 0)).setCell ⟨w.heap.size, 1, none⟩ (.int .i64 0)).setCell ⟨w.heap.size, 2, none⟩ (.int .i64 0)) = W at *
            have z0 := blk_cell hz
            refine bodyPost_ret (v := .tuple #[.agg #[.slice none 0 0, .int .i64 0, .int .i64 0], .int .i64 er]) (by simp [results, Try.results47, go_sem, z0]) rfl ⟨none, 0, ?_, ?_, hbz⟩
            · rw [curOut, if_neg E0.out, E.out]; rfl
            · rw [curOut, if_neg E0.out]; exact Sl.nil _ _ _ _)

end Go.Proofs.Ytoeipkjpgbdioaa
