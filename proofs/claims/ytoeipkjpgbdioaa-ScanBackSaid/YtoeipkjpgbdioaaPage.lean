/- scan.Page: the pairs of a page, where it goes on, whether there is more. -/
import Derived.Test.YtoeipkjpgbdioaaSearch
set_option linter.unusedVariables false
set_option linter.unusedSimpArgs false
namespace Go.Proofs.Ytoeipkjpgbdioaa
open Go.RowKit Go.Shelf Go.Proofs.YtoeipkjpgbdioaaW.PrintWords

theorem sl_take {P : Program} {α : Type} {d : Kd α} (t e : TypeId) {i : TypeInfo} (ht : P.underlying t = some (.slice e)) (hi : P.info? e = some i) (A : Option Addr) (c : Nat) (xs : List α) (m : Nat) (hm : m ≤ xs.length) (hc : xs.length ≤ c) :
    (∀ W : World, (Instr.slice t (.slice A xs.length c) none (some (.int .i64 m)) none).run P W = .ok (.slice A (xs.take m).length c) W) ∧ (∀ w, Sl d w A c xs → Sl d w A c (xs.take m)) := by
  have hl : (xs.take m).length = m := by rw [List.length_take]; omega
  refine ⟨fun W => ?_, fun w h => ⟨by omega, Kd.C_take h.2 hm⟩⟩
  have hel : P.elem t = e := by simp [Program.elem, ht]
  have hu : P.underlying t = some (.slice (P.elem t)) := by rw [hel]; exact ht
  have ha : (A.map fun x => x.add 0) = A := by cases A <;> simp [Addr.add]
  rw [run_slice_h W t A xs.length c hu .i64 m (by omega) (by omega), hel, hl]
  simp [sizeOf, typeInfo, hi, sliced, Result.andThen, ha]
theorem sl_drop {P : Program} {α : Type} {d : Kd α} (t e : TypeId) {i : TypeInfo} (ht : P.underlying t = some (.slice e)) (hi : P.info? e = some i) (hsz : i.size = d.sz) (A : Option Addr) (c : Nat) (xs : List α) (m : Nat) (hm : m ≤ xs.length) (hc : xs.length ≤ c) :
    ∃ B : Option Addr, (∀ W : World, (Instr.slice t (.slice A xs.length c) (some (.int .i64 m)) none none).run P W = .ok (.slice B (xs.drop m).length (c - m)) W) ∧ (∀ w, Sl d w A c xs → Sl d w B (c - m) (xs.drop m)) ∧ (∀ ad, B = some ad → ∃ a0, A = some a0 ∧ ad.block = a0.block) := by
  have hl : (xs.drop m).length = xs.length - m := List.length_drop
  refine ⟨if c = m then A else A.map (·.add (m * d.sz)), fun W => ?_, fun w h => ⟨by omega, Kd.C_drop h.2 hm hc⟩, fun ad h => by
    split at h
    · exact ⟨ad, h, rfl⟩
    · obtain ⟨a0, h1, rfl⟩ := Option.map_eq_some_iff.1 h
      exact ⟨a0, h1, by unfold Addr.add; split <;> rfl⟩⟩
  have hel : P.elem t = e := by simp [Program.elem, ht]
  have hu : P.underlying t = some (.slice (P.elem t)) := by rw [hel]; exact ht
  rw [run_slice_l W t A xs.length c hu .i64 m (by omega) (by omega), hel, hl]
  simp [sizeOf, typeInfo, hi, hsz, sliced, Result.andThen]

set_option maxHeartbeats 2000000 in
theorem scan_own (A : Option Addr) (c : Nat) (x : Cursor) (w : World) (hs : Sl kSpan w A c x.on) (hbig : x.on.length ≤ 1000000) :
    Calls Try.prog 93 #[vCur A c x] w fun e w' => ∃ B d, e = .returned (vCur B d x) ∧ Own kSpan 162 w' w.heap.size (.slice B x.on.length d) x.on ∧ Below w.heap.size w w' := by
  have HX := Aside0.mk (below_alloc (below_alloc (Below.refl w.heap.size w) (.cells #[.slice A x.on.length c, .int .i64 x.after, .int .i64 x.limit] 50)) (.cells #[.slice none 0 0, .int .i64 0, .int .i64 0] 50))
  have b0 := Aside0.mk (box_under (box_top w (.cells #[.slice A x.on.length c, .int .i64 x.after, .int .i64 x.limit] 50)) (.cells #[.slice none 0 0, .int .i64 0, .int .i64 0] 50))
  have b1 := Aside0.mk (box_top1 w (.cells #[.slice A x.on.length c, .int .i64 x.after, .int .i64 x.limit] 50) (.cells #[.slice none 0 0, .int .i64 0, .int .i64 0] 50))
  have HC := Aside0.mk (calls_own (Clone_Span A c x.on _ (hs.below HX.out) hbig))
  clear hs
  go_enter Try.func93, Try.ntmps93
  go_wp2_with ((go_at_call 140; refine HC.out.mono ?_; rintro e w1 ⟨B, d, rfl, ho, hs1, hb⟩; obtain ⟨x0, x1, x2⟩ := box_later hb b0.out; obtain ⟨y0, y1, y2⟩ := box_later hb b1.out; have HO := Aside0.mk ho; have HB := Aside0.mk (via HX.out hb); clear ho hs1 hb))
  refine bodyPost_ret (v := vCur B d x) (by simp [results, Try.results93, go_sem, x0, y0]) rfl ⟨B, d, rfl, ?_, ?_⟩
  · exact Own.lower (by (repeat first | exact HO.out | apply Own.set); all_goals (first | (simp; done) | (simp; omega))) (by simp; omega)
  · exact (by repeat first | exact HB.out | apply pw_below_drewN | apply below_drew | refine below_set ?_ (by simp))

/-- What a page is: its pairs, where it goes on, whether there is more, the error. -/
def pgAll (l : List Pair) (x : Cursor) : List Pair := clip l x.on
def pgRest (l : List Pair) (x : Cursor) : List Pair := (clip l x.on).drop (ahead (fun p => cmpInt p.key (x.after + 1)) (clip l x.on))
def pgOut (l : List Pair) (x : Cursor) : List Pair := (pgRest l x).take (min (pgRest l x).length x.limit.toNat)
def pgNext (l : List Pair) (x : Cursor) : Cursor := match (pgOut l x).getLast? with | some p => { x with after := p.key } | none => x
def pgMore (l : List Pair) (x : Cursor) : Bool := decide ((pgOut l x).length < (pgRest l x).length)
def pgBad (l : List Pair) (x : Cursor) : Bool := !isTable l || !okCur x


set_option maxHeartbeats 2000000 in
theorem scan_Page_bad (A B : Option Addr) (c d : Nat) (l : List Pair) (x : Cursor) (w : World) (hr : Sl kPair w A c l) (hs : Sl kSpan w B d x.on) (hbad : pgBad l x = true) :
    Calls Try.prog 26 #[.slice A l.length c, vCur B d x] w fun e w' => e = .returned (.tuple #[.slice none 0 0, vCur none 0 ⟨[], 0, 0⟩, .bool false, .int .i64 1]) ∧ Below w.heap.size w w' := by
  have HX := Aside0.mk (below_alloc (below_alloc (Below.refl w.heap.size w) (.cells #[.slice B x.on.length d, .int .i64 x.after, .int .i64 x.limit] 50)) (.cells #[.slice none 0 0, .int .i64 0, .int .i64 0] 50))
  have b0 := Aside0.mk (box_under (box_top w (.cells #[.slice B x.on.length d, .int .i64 x.after, .int .i64 x.limit] 50)) (.cells #[.slice none 0 0, .int .i64 0, .int .i64 0] 50))
  have b1 := Aside0.mk (box_top1 w (.cells #[.slice B x.on.length d, .int .i64 x.after, .int .i64 x.limit] 50) (.cells #[.slice none 0 0, .int .i64 0, .int .i64 0] 50))
  have HC := Aside0.mk (table_Check A c l _ (hr.below HX.out))
  have HD := Aside0.mk (fun W (h : Below w.heap.size w W) => scan_check B d x W (hs.below h))
  clear hr hs
  cases e1 : isTable l with
  | false =>
    rw [e1] at HC
    clear e1 hbad
    go_enter Try.func26, Try.ntmps26
    go_wp2_with (go_at_call 88; refine HC.out.mono ?_; rintro e w1 ⟨rfl, hb⟩; obtain ⟨y0, y1, y2⟩ := box_later hb b1.out; have HB := Aside0.mk (via HX.out hb); clear hb)
    refine bodyPost_ret (v := .tuple #[.slice none 0 0, vCur none 0 ⟨[], 0, 0⟩, .bool false, .int .i64 1]) (by simp [results, Try.results26, go_sem, y0]) rfl ⟨rfl, ?_⟩
    exact (by repeat first | exact HB.out | apply pw_below_drewN | apply below_drew | refine below_set ?_ (by simp))
  | true =>
    have e2 : okCur x = false := by
      cases h : okCur x with
      | false => rfl
      | true => simp [pgBad, e1, h] at hbad
    rw [e1] at HC
    rw [e2] at HD
    clear e1 hbad e2
    go_enter Try.func26, Try.ntmps26
    go_wp2_with (first | (go_at_call 88; refine HC.out.mono ?_; rintro e w1 ⟨rfl, hb⟩; obtain ⟨x0, x1, x2⟩ := box_later hb b0.out; have HB0 := Aside0.mk hb; have HB := Aside0.mk (via HX.out hb); clear hb) | (go_at_call 89; refine (HD.out _ HB.out).mono ?_; rintro e w2 ⟨rfl, hb⟩; clear x0 x1 x2; obtain ⟨y0, y1, y2⟩ := box_later (via HB0.out hb) b1.out; have HB2 := Aside0.mk (via HB.out hb); clear hb))
    refine bodyPost_ret (v := .tuple #[.slice none 0 0, vCur none 0 ⟨[], 0, 0⟩, .bool false, .int .i64 1]) (by simp [results, Try.results26, go_sem, y0]) rfl ⟨rfl, ?_⟩
    exact (by repeat first | exact HB2.out | apply pw_below_drewN | apply below_drew | refine below_set ?_ (by simp))

end Go.Proofs.Ytoeipkjpgbdioaa
