/- scan.Page where the table and the cursor may be. -/
import Derived.Test.YtoeipkjpgbdioaaPage
set_option linter.unusedVariables false
set_option linter.unusedSimpArgs false
namespace Go.Proofs.Ytoeipkjpgbdioaa
open Go.RowKit Go.Shelf Go.Proofs.YtoeipkjpgbdioaaW.PrintWords

theorem table_lt {l : List Pair} (h : isTable l = true) : ∀ i j (hi : i < l.length) (hj : j < l.length), i < j → l[i].key < l[j].key := by
  have h2 := ((chk_iff _ _ _).1 h).2
  intro i j hi hj hij
  obtain ⟨n, rfl⟩ : ∃ n, j = i + 1 + n := ⟨j - i - 1, by omega⟩
  clear hij
  induction n with
  | zero => have := h2 i hj; simpa [ltPair] using this
  | succ n ih =>
    have h3 := ih (by omega)
    have h4 := h2 (i + 1 + n) hj
    simp only [ltPair, decide_eq_true_eq] at h4
    exact Int.lt_trans h3 h4
theorem table_pairwise {l : List Pair} (h : isTable l = true) : l.Pairwise fun p q => p.key < q.key :=
  List.pairwise_iff_getElem.2 fun i j hi hj hij => table_lt h i j hi hj hij
theorem clip_pairwise (l : List Pair) (on : List Span) : (clip l on).Pairwise fun p q => p.key < q.key := by
  cases h : isTable l with
  | true => exact (table_pairwise h).filter _
  | false => rw [clip_nil (.inl h)]; exact List.Pairwise.nil
theorem clip_lt (l : List Pair) (on : List Span) : ∀ i j (hi : i < (clip l on).length) (hj : j < (clip l on).length), i < j → (clip l on)[i].key < (clip l on)[j].key := fun i j hi hj hij => List.pairwise_iff_getElem.1 (clip_pairwise l on) i j hi hj hij
theorem clip_mono (l : List Pair) (on : List Span) (k : Int) : ∀ i j (hi : i < (clip l on).length) (hj : j < (clip l on).length), i ≤ j → cmpInt (clip l on)[j].key k < 0 → cmpInt (clip l on)[i].key k < 0 := by
  intro i j hi hj hij h
  rw [cmpInt_neg] at h ⊢
  rcases Nat.lt_or_ge i j with h1 | h1
  · exact Int.lt_trans (clip_lt l on i j hi hj h1) h
  · obtain rfl : i = j := by omega
    exact h
theorem clip_length (l : List Pair) (on : List Span) : (clip l on).length ≤ l.length := List.length_filter_le _ _
theorem ahead_le (cf : Pair → Int) (l : List Pair) : ahead cf l ≤ l.length := List.countP_le_length

theorem pair_at? {w : World} {A : Option Addr} {c : Nat} {xs : List Pair} (h : Sl kPair w A c xs) {i : Nat} {q : Pair} (hi : xs[i]? = some q) :
    ∃ ad, A = some ad ∧ w.cell? (ad.add (i * 2)) = some (.int .i64 q.key) ∧ w.cell? ⟨(ad.add (i * 2)).block, (ad.add (i * 2)).off + 1, none⟩ = some (.int .i64 q.val) := by
  obtain ⟨h1, rfl⟩ := List.getElem?_eq_some_iff.1 hi
  exact pair_at h i h1
theorem sl_drop' {P : Program} {α : Type} {d : Kd α} (t e : TypeId) {i : TypeInfo} (ht : P.underlying t = some (.slice e)) (hi : P.info? e = some i) (hsz : i.size = d.sz) (A : Option Addr) (c : Nat) (xs ys : List α) (m : Nat) (hm : m ≤ xs.length) (hc : xs.length ≤ c) (hys : xs.drop m = ys) :
    ∃ B : Option Addr, (∀ W : World, (Instr.slice t (.slice A xs.length c) (some (.int .i64 m)) none none).run P W = .ok (.slice B ys.length (c - m)) W) ∧ (∀ w, Sl d w A c xs → Sl d w B (c - m) ys) ∧ (∀ ad, B = some ad → ∃ a0, A = some a0 ∧ ad.block = a0.block) := by
  subst hys
  exact sl_drop t e ht hi hsz A c xs m hm hc
/-- The block of a slice is an array of its own elements' type. -/
def Typed (w : World) (t : TypeId) (A : Option Addr) : Prop := ∀ ad, A = some ad → ∃ cs, w.heap[ad.block]? = some (.cells cs t (0, 0))
theorem Typed.none (w : World) (t : TypeId) : Typed w t none := fun _ h => by cases h
theorem Typed.below {w w1 : World} {t : TypeId} {A : Option Addr} (h : Typed w t A) (hb : Below w.heap.size w w1) : Typed w1 t A := fun ad e => by
  obtain ⟨cs, hc⟩ := h ad e
  exact ⟨cs, (hb.block _ (blk_lt hc)).trans hc⟩
theorem Typed.set {w : World} {t : TypeId} {A : Option Addr} (h : Typed w t A) {g j : Nat} (u : Value) : Typed (w.setCell ⟨g, j, .none⟩ u) t A := fun ad e => by
  obtain ⟨cs, hc⟩ := h ad e
  by_cases hg : g = ad.block
  · subst hg; exact ⟨_, blk_set hc j u⟩
  · exact ⟨cs, blk_far hc (p := ⟨g, j, .none⟩) (fun e => hg e.symm) u⟩
theorem Typed.same {w : World} {t : TypeId} {A B : Option Addr} (h : Typed w t A) (hB : ∀ ad, B = some ad → ∃ a0, A = some a0 ∧ ad.block = a0.block) : Typed w t B := fun ad e => by
  obtain ⟨a0, h1, h2⟩ := hB ad e
  rw [h2]
  exact h a0 h1
theorem Own.typed {α : Type} {d : Kd α} {e : Nat} {w : World} {base : Nat} {A : Option Addr} {n c : Nat} {xs : List α} (h : Own d e w base (.slice A n c) xs) : Typed w e A := fun ad h1 => by
  subst h1
  obtain ⟨_, inner, ho, _⟩ := h
  refine own_typed ho ad.block ?_
  rcases ho.2 with ⟨h1, _⟩ | ⟨g, cap, cur, h1, _⟩
  · cases h1
  · cases h1; rfl
theorem setCell_self {w : World} {a : Addr} {v : Value} (h : w.cell? a = some v) : w.setCell a v = w := by
  unfold World.cell? at h
  unfold World.setCell
  congr 1
  cases hb : w.heap[a.block]? with
  | none => rw [hb] at h; cases h
  | some o =>
    rw [hb] at h
    cases o with
    | cells c t f =>
      simp only at h
      apply Array.ext_getElem?
      intro i
      rw [Array.getElem?_modify]
      split
      · rename_i e
        subst e
        rw [hb]
        simp only [Option.map_some]
        split at h
        · cases h
        · rename_i hsp
          simp only [hsp]
          congr 2
          apply Array.ext_getElem?
          intro j
          simp only [Bool.false_eq_true, if_false, Array.getElem?_setIfInBounds]
          split
          · rename_i e
            subst e
            rw [h]
            have := (Array.getElem?_eq_some_iff.1 h).1
            rw [if_pos this]
          · rfl
      · rfl
    | _ => simp at h
theorem blk_drew {w : World} {g : Nat} {o : Obj} (h : w.heap[g]? = some o) : w.drew.heap[g]? = some o := h
theorem calls_some {P : Program} {f : FuncId} {args : Array Value} {w : World} {m : Int} {fb : Bool} {n : Nat}
    (h : Calls P f args w fun e w' => e = .returned (.tuple #[.int .i64 m, .bool fb]) ∧ Below n w w') : Calls P f args w fun e w' => ∃ fb, e = .returned (.tuple #[.int .i64 m, .bool fb]) ∧ Below n w w' :=
  h.mono fun _ _ ⟨he, hb⟩ => ⟨_, he, hb⟩

set_option maxHeartbeats 4000000 in
theorem scan_Page_new (A B : Option Addr) (c d : Nat) (l : List Pair) (x : Cursor) (w : World) (hr : Sl kPair w A c l) (hs : Sl kSpan w B d x.on) (hbig : l.length ≤ 1000000) (hgood : pgBad l x = false) :
    Calls Try.prog 26 #[.slice A l.length c, vCur B d x] w fun e w' => ∃ C c' D d', e = .returned (.tuple #[.slice C (pgOut l x).length c', vCur D d' (pgNext l x), .bool (pgMore l x), .int .i64 0]) ∧ Sl kPair w' C c' (pgOut l x) ∧ Sl kSpan w' D d' (pgNext l x).on ∧ Below w.heap.size w w' ∧ Typed w' 84 C ∧ Typed w' 162 D := by
  have e1 : isTable l = true := by
    cases h : isTable l with
    | true => rfl
    | false => simp [pgBad, h] at hgood
  have e2 : okCur x = true := by
    cases h : okCur x with
    | true => rfl
    | false => simp [pgBad, h] at hgood
  have hon : isSet x.on = true ∧ -1 ≤ x.after ∧ x.after < 4096 ∧ 1 ≤ x.limit ∧ x.limit ≤ 500 := by simpa [okCur] using e2
  have hsz : x.on.length ≤ 64 := by have := hon.1; simp only [isSet, Bool.and_eq_true, decide_eq_true_eq] at this; exact this.2
  obtain ⟨_, ha0, ha1, hl0, hl1⟩ := hon
  have HX := Aside0.mk (below_alloc (below_alloc (Below.refl w.heap.size w) (.cells #[.slice B x.on.length d, .int .i64 x.after, .int .i64 x.limit] 50)) (.cells #[.slice none 0 0, .int .i64 0, .int .i64 0] 50))
  have b0 := Aside0.mk (box_under (box_top w (.cells #[.slice B x.on.length d, .int .i64 x.after, .int .i64 x.limit] 50)) (.cells #[.slice none 0 0, .int .i64 0, .int .i64 0] 50))
  have b1 := Aside0.mk (box_top1 w (.cells #[.slice B x.on.length d, .int .i64 x.after, .int .i64 x.limit] 50) (.cells #[.slice none 0 0, .int .i64 0, .int .i64 0] 50))
  have HC := Aside0.mk (table_Check A c l _ (hr.below HX.out))
  have HD := Aside0.mk (fun W (h : Below w.heap.size w W) => scan_check B d x W (hs.below h))
  have HE := Aside0.mk (fun W (h : Below w.heap.size w W) => calls_own (table_Clip A B c d l x.on W (hr.below h) (hs.below h) hbig))
  have HF := Aside0.mk (fun C c' W (h : Sl kPair W C c' (clip l x.on)) => calls_some (BinarySearch_Pair C c' (clip l x.on) (x.after + 1) (fun p => cmpInt p.key (x.after + 1)) 91 #[] (enters_of Try.func91 (by kernel_rfl) rfl) W h (by have := clip_length l x.on; omega) (fun p W' _ => scan_Page_1 p (x.after + 1) W') (clip_mono l x.on _)))
  have HG := Aside0.mk (fun W (h : Below w.heap.size w W) => scan_own B d x W (hs.below h) (by omega))
  clear hr hs hgood
  rw [e1] at HC
  rw [e2] at HD
  clear e1 e2
  have hcl := clip_length l x.on
  have hpo : pgOut l x = (((clip l x.on).drop (ahead (fun p => cmpInt p.key (x.after + 1)) (clip l x.on)))).take (min ((clip l x.on).drop (ahead (fun p => cmpInt p.key (x.after + 1)) (clip l x.on))).length x.limit.toNat) := rfl
  have hmle := ahead_le (fun p => cmpInt p.key (x.after + 1)) (clip l x.on)
  have HPO := Aside0.mk hpo
  have HPN := Aside0.mk (show pgNext l x = match (pgOut l x).getLast? with | some p => { x with after := p.key } | none => x from rfl)
  have HPM := Aside0.mk (show pgMore l x = decide ((pgOut l x).length < ((clip l x.on).drop (ahead (fun p => cmpInt p.key (x.after + 1)) (clip l x.on))).length) from rfl)
  clear hpo
  have pairInfo0 : (∃ i, Try.prog.info? 84 = some i ∧ i.size = kPair.sz) := by
    obtain ⟨i, hi, hz⟩ := Option.map_eq_some_iff.1 info84
    simp only [Prod.mk.injEq] at hz
    exact ⟨i, hi, hz.2.1⟩
  obtain ⟨iP, hi1, hi2⟩ := pairInfo0
  have pairInfo := Aside0.mk (And.intro hi1 hi2)
  clear hi1 hi2
  generalize ahead (fun p => cmpInt p.key (x.after + 1)) (clip l x.on) = m at *
  generalize clip l x.on = all at *
  obtain ⟨rest, hrest⟩ : ∃ rest, all.drop m = rest := ⟨_, rfl⟩
  have hrl : rest.length = all.length - m := by rw [← hrest]; simp
  rw [hrest] at HPO HPM
  have HRS := Aside0.mk hrest
  have HRL := Aside0.mk hrl
  have hrl1 : rest.length ≤ 1000000 := by omega
  clear hrest hrl
  generalize pgOut l x = out at *
  generalize pgNext l x = nx at *
  generalize pgMore l x = more at *
  obtain ⟨on, af, li⟩ := x
  obtain ⟨n, rfl⟩ : ∃ n : Nat, li = (n : Int) := Int.eq_ofNat_of_zero_le (by simp at hl0; omega)
  simp only [Int.toNat_natCast] at *
  by_cases hlim : n < rest.length
  · have hout : out = rest.take n := by rw [HPO.out, Nat.min_eq_right (by omega)]
    have hol : out.length = n := by rw [hout]; simp; omega
    have hon : 0 < n := by omega
    obtain ⟨q, hq⟩ : ∃ q, out[n - 1]? = some q := ⟨_, List.getElem?_eq_getElem (by omega)⟩
    have hnx : nx = { on := on, after := q.key, limit := n } := by rw [HPN.out, List.getLast?_eq_getElem?, hol, hq]
    have HQ := Aside0.mk hq
    have HMO := Aside0.mk (show more = true by rw [HPM.out, decide_eq_true_eq, hol]; omega)
    have HO := Aside0.mk hout
    have HOL := Aside0.mk hol
    have HNX := Aside0.mk hnx
    clear hout hol hnx hq
    go_enter Try.func26, Try.ntmps26
    go_wp2_with (first
      | (go_at_call 88; refine HC.out.mono ?_; rintro e w1 ⟨rfl, hb⟩; obtain ⟨x0, x1, x2⟩ := box_later hb b0.out; have HB0 := Aside0.mk hb; have HB := Aside0.mk (via HX.out hb); clear hb)
      | (go_at_call 89; refine (HD.out _ HB.out).mono ?_; rintro e w2 ⟨rfl, hb⟩; clear x0 x1 x2; have HB2 := Aside0.mk (via HB.out hb); have hq := via HB0.out hb; obtain ⟨x0, x1, x2⟩ := box_later hq b0.out; have HB02 := Aside0.mk hq; clear hb hq HB HB0)
      | (go_at_call 45; refine (HE.out _ HB2.out).mono ?_; rintro e w3 ⟨C, c3, rfl, ho, hs1, hb⟩; clear x0 x1 x2; have HB3 := Aside0.mk (via HB2.out hb); have hq := via HB02.out hb; obtain ⟨x0, x1, x2⟩ := box_later hq b0.out; have HB03 := Aside0.mk hq; have HO3 := Aside0.mk ho; have HCT := Aside0.mk ho.typed; have hsz0 := (box_later HB02.out b1.out).2.2; clear hb hq HB2 HB02 ho hs1)
      | (go_at_call 90; refine (HF.out _ _ _ HO3.out.sl2).mono ?_; rintro e w4 ⟨fb, rfl, hb⟩; clear x0 x1 x2; have HB4 := Aside0.mk (via HB3.out hb); have hq := via HB03.out hb; obtain ⟨x0, x1, x2⟩ := box_later hq b0.out; have HB04 := Aside0.mk hq; have HO4 := Aside0.mk (HO3.out.below hb); have HBS := Aside0.mk hb; clear hb hq HB3 HB03 HO3; obtain ⟨R, hr1, hr2, hr3⟩ := sl_drop' (P := Try.prog) (d := kPair) 47 84 Try.underlying47 pairInfo.out.1 pairInfo.out.2 C c3 all rest m hmle HO4.out.sl2.1 HRS.out; have HR2 := Aside0.mk hr2; have HRT := Aside0.mk ((HCT.out.below HBS.out).same hr3); clear hr2 hr3; have hcm : rest.length ≤ c3 - m := by have := HO4.out.sl2.1; have := HRL.out; omega)
      | (go_at_call 93; refine (HG.out _ HB4.out).mono ?_; rintro e w5 ⟨D, d5, rfl, hs1, hb⟩; clear x0 x1 x2; have HB5 := Aside0.mk (via HB4.out hb); have hq := via HB04.out hb; obtain ⟨y0, y1, y2⟩ := box_later hq b1.out; have hsz4 := (box_later HB04.out b1.out).2.2; have BK := Aside0.mk ((hq.block _ (blk_lt b1.out)).trans b1.out); have HO5 := Aside0.mk (HO4.out.below hb); have HS5 := Aside0.mk hs1; have HDT := Aside0.mk hs1.typed; have HRT5 := Aside0.mk (HRT.out.below hb); clear hb hq HB4 HB04 HO4 hs1; obtain ⟨ad, rfl, c0, _⟩ := pair_at? (w := (((w5.setCell ⟨w.heap.size + 1, 0, none⟩ (.slice D on.length d5)).setCell ⟨w.heap.size + 1, 1, none⟩ (.int .i64 af)).setCell ⟨w.heap.size + 1, 2, none⟩ (.int .i64 n))) (A := R) (c := c3 - m) (xs := out) (by rw [HO.out]; have hz := HR2.out (((w5.setCell ⟨w.heap.size + 1, 0, none⟩ (.slice D on.length d5)).setCell ⟨w.heap.size + 1, 1, none⟩ (.int .i64 af)).setCell ⟨w.heap.size + 1, 2, none⟩ (.int .i64 n)) (show Sl kPair (((w5.setCell ⟨w.heap.size + 1, 0, none⟩ (.slice D on.length d5)).setCell ⟨w.heap.size + 1, 1, none⟩ (.int .i64 af)).setCell ⟨w.heap.size + 1, 2, none⟩ (.int .i64 n)) C c3 all from (by apply Own.sl2; (repeat first | exact HO5.out | apply Own.set); all_goals (show (w.heap.size + 1) < _; omega))); exact ⟨by have := hz.1; simp; omega, Kd.C_take hz.2 (by omega)⟩) HQ.out))
    have z := blk_set (blk_set (blk_set (blk_set BK.out 0 (.slice D on.length d5)) 1 (.int .i64 af)) 2 (.int .i64 n)) 1 (.int .i64 q.key)
    clear c0
    have fz := blk_frozen z
    have k0 : (((((w5.setCell ⟨w.heap.size + 1, 0, none⟩ (.slice D on.length d5)).setCell ⟨w.heap.size + 1, 1, none⟩ (.int .i64 af)).setCell ⟨w.heap.size + 1, 2, none⟩ (.int .i64 n))).setCell ⟨w.heap.size + 1, 1, none⟩ (.int .i64 q.key)).cell? ⟨w.heap.size + 1, 0, none⟩ = some (.slice D on.length d5) := (blk_cell z 0).trans rfl
    have k1 : (((((w5.setCell ⟨w.heap.size + 1, 0, none⟩ (.slice D on.length d5)).setCell ⟨w.heap.size + 1, 1, none⟩ (.int .i64 af)).setCell ⟨w.heap.size + 1, 2, none⟩ (.int .i64 n))).setCell ⟨w.heap.size + 1, 1, none⟩ (.int .i64 q.key)).cell? ⟨w.heap.size + 1, 1, none⟩ = some (.int .i64 q.key) := (blk_cell z 1).trans rfl
    have k2 : (((((w5.setCell ⟨w.heap.size + 1, 0, none⟩ (.slice D on.length d5)).setCell ⟨w.heap.size + 1, 1, none⟩ (.int .i64 af)).setCell ⟨w.heap.size + 1, 2, none⟩ (.int .i64 n))).setCell ⟨w.heap.size + 1, 1, none⟩ (.int .i64 q.key)).cell? ⟨w.heap.size + 1, 2, none⟩ = some (.int .i64 n) := (blk_cell z 2).trans rfl
    have hSP : Sl kPair (((((w5.setCell ⟨w.heap.size + 1, 0, none⟩ (.slice D on.length d5)).setCell ⟨w.heap.size + 1, 1, none⟩ (.int .i64 af)).setCell ⟨w.heap.size + 1, 2, none⟩ (.int .i64 n))).setCell ⟨w.heap.size + 1, 1, none⟩ (.int .i64 q.key)) (some ad) (c3 - m) out := by
      have hz := HR2.out (((((w5.setCell ⟨w.heap.size + 1, 0, none⟩ (.slice D on.length d5)).setCell ⟨w.heap.size + 1, 1, none⟩ (.int .i64 af)).setCell ⟨w.heap.size + 1, 2, none⟩ (.int .i64 n))).setCell ⟨w.heap.size + 1, 1, none⟩ (.int .i64 q.key)) (show Sl kPair (((((w5.setCell ⟨w.heap.size + 1, 0, none⟩ (.slice D on.length d5)).setCell ⟨w.heap.size + 1, 1, none⟩ (.int .i64 af)).setCell ⟨w.heap.size + 1, 2, none⟩ (.int .i64 n))).setCell ⟨w.heap.size + 1, 1, none⟩ (.int .i64 q.key)) C c3 all from (by apply Own.sl2; (repeat first | exact HO5.out | apply Own.set); all_goals (show (w.heap.size + 1) < _; omega)))
      rw [HO.out]
      exact ⟨by have := hz.1; simp; omega, Kd.C_take hz.2 (by omega)⟩
    have hSS : Sl kSpan (((((w5.setCell ⟨w.heap.size + 1, 0, none⟩ (.slice D on.length d5)).setCell ⟨w.heap.size + 1, 1, none⟩ (.int .i64 af)).setCell ⟨w.heap.size + 1, 2, none⟩ (.int .i64 n))).setCell ⟨w.heap.size + 1, 1, none⟩ (.int .i64 q.key)) D d5 on := (by apply Own.sl2; (repeat first | exact HS5.out | apply Own.set); all_goals (show (w.heap.size + 1) < _; omega))
    have HRT6 := Aside0.mk (show Typed (((((w5.setCell ⟨w.heap.size + 1, 0, none⟩ (.slice D on.length d5)).setCell ⟨w.heap.size + 1, 1, none⟩ (.int .i64 af)).setCell ⟨w.heap.size + 1, 2, none⟩ (.int .i64 n))).setCell ⟨w.heap.size + 1, 1, none⟩ (.int .i64 q.key)) 84 (some ad) from by (repeat (with_reducible refine Typed.set ?_ _)); exact HRT5.out)
    have HDT6 := Aside0.mk (show Typed (((((w5.setCell ⟨w.heap.size + 1, 0, none⟩ (.slice D on.length d5)).setCell ⟨w.heap.size + 1, 1, none⟩ (.int .i64 af)).setCell ⟨w.heap.size + 1, 2, none⟩ (.int .i64 n))).setCell ⟨w.heap.size + 1, 1, none⟩ (.int .i64 q.key)) 162 D from by (repeat (with_reducible refine Typed.set ?_ _)); exact HDT.out)
    have HSP := Aside0.mk hSP
    have HSS := Aside0.mk hSS
    have HBW := Aside0.mk (show Below w.heap.size w (((((w5.setCell ⟨w.heap.size + 1, 0, none⟩ (.slice D on.length d5)).setCell ⟨w.heap.size + 1, 1, none⟩ (.int .i64 af)).setCell ⟨w.heap.size + 1, 2, none⟩ (.int .i64 n))).setCell ⟨w.heap.size + 1, 1, none⟩ (.int .i64 q.key)) from below_set (below_set (below_set (below_set HB5.out (by omega)) (by omega)) (by omega)) (by omega))
    clear hSP hSS
    clear HC HD HE HF HG y0 z y1 y2
    generalize (((((w5.setCell ⟨w.heap.size + 1, 0, none⟩ (.slice D on.length d5)).setCell ⟨w.heap.size + 1, 1, none⟩ (.int .i64 af)).setCell ⟨w.heap.size + 1, 2, none⟩ (.int .i64 n))).setCell ⟨w.heap.size + 1, 1, none⟩ (.int .i64 q.key)) = W at *
    have s0 : ∀ a, (W.drewN a).setCell ⟨w.heap.size + 1, 0, none⟩ (.slice D on.length d5) = W.drewN a := fun a => setCell_self (by simp [k0])
    have s1 : ∀ a, (W.drewN a).setCell ⟨w.heap.size + 1, 1, none⟩ (.int .i64 q.key) = W.drewN a := fun a => setCell_self (by simp [k1])
    have s2 : ∀ a, (W.drewN a).setCell ⟨w.heap.size + 1, 2, none⟩ (.int .i64 n) = W.drewN a := fun a => setCell_self (by simp [k2])
    go_quiet (fail)
    go_wp2
    refine bodyPost_ret (v := .tuple #[.slice (some ad) n (c3 - m), .agg #[.slice D on.length d5, .int .i64 q.key, .int .i64 n], .bool true, .int .i64 0]) (by simp [results, Try.results26, go_sem, k0, k1, k2]) rfl ⟨(some ad), c3 - m, D, d5, ?_, ?_, ?_, ?_, HRT6.out, HDT6.out⟩
    · rw [HOL.out, HNX.out, HMO.out]
    · exact HSP.out.below (pw_below_drewN (Below.refl _ _) _)
    · rw [HNX.out]
      exact HSS.out.below (pw_below_drewN (Below.refl _ _) _)
    · exact pw_below_drewN HBW.out _
  · have hout : out = rest := by rw [HPO.out, Nat.min_eq_left (by omega), List.take_length]
    have HMO := Aside0.mk (show more = false by rw [HPM.out, decide_eq_false_iff_not, hout]; omega)
    have HO := Aside0.mk (show out = rest.take rest.length by rw [hout, List.take_length])
    by_cases h0 : rest.length = 0
    · have hol : out.length = rest.length := by rw [hout]
      have HNX := Aside0.mk (show nx = { on := on, after := af, limit := n } by
        obtain rfl := List.eq_nil_of_length_eq_zero h0
        rw [HPN.out, hout]; rfl)
      have HOL := Aside0.mk hol
      have hr0 : decide (0 < rest.length) = false := decide_eq_false (by omega)
      clear hout hol h0
      go_enter Try.func26, Try.ntmps26
      go_wp2_with (first
        | (go_at_call 88; refine HC.out.mono ?_; rintro e w1 ⟨rfl, hb⟩; obtain ⟨x0, x1, x2⟩ := box_later hb b0.out; have HB0 := Aside0.mk hb; have HB := Aside0.mk (via HX.out hb); clear hb)
        | (go_at_call 89; refine (HD.out _ HB.out).mono ?_; rintro e w2 ⟨rfl, hb⟩; clear x0 x1 x2; have HB2 := Aside0.mk (via HB.out hb); have hq := via HB0.out hb; obtain ⟨x0, x1, x2⟩ := box_later hq b0.out; have HB02 := Aside0.mk hq; clear hb hq HB HB0)
        | (go_at_call 45; refine (HE.out _ HB2.out).mono ?_; rintro e w3 ⟨C, c3, rfl, ho, hs1, hb⟩; clear x0 x1 x2; have HB3 := Aside0.mk (via HB2.out hb); have hq := via HB02.out hb; obtain ⟨x0, x1, x2⟩ := box_later hq b0.out; have HB03 := Aside0.mk hq; have HO3 := Aside0.mk ho; have HCT := Aside0.mk ho.typed; have hsz0 := (box_later HB02.out b1.out).2.2; clear hb hq HB2 HB02 ho hs1)
        | (go_at_call 90; refine (HF.out _ _ _ HO3.out.sl2).mono ?_; rintro e w4 ⟨fb, rfl, hb⟩; clear x0 x1 x2; have HB4 := Aside0.mk (via HB3.out hb); have hq := via HB03.out hb; obtain ⟨x0, x1, x2⟩ := box_later hq b0.out; have HB04 := Aside0.mk hq; have HO4 := Aside0.mk (HO3.out.below hb); have HBS := Aside0.mk hb; clear hb hq HB3 HB03 HO3; obtain ⟨R, hr1, hr2, hr3⟩ := sl_drop' (P := Try.prog) (d := kPair) 47 84 Try.underlying47 pairInfo.out.1 pairInfo.out.2 C c3 all rest m hmle HO4.out.sl2.1 HRS.out; have HR2 := Aside0.mk hr2; have HRT := Aside0.mk ((HCT.out.below HBS.out).same hr3); clear hr2 hr3; have hcm : rest.length ≤ c3 - m := by have := HO4.out.sl2.1; have := HRL.out; omega)
        | (go_at_call 93; refine (HG.out _ HB4.out).mono ?_; rintro e w5 ⟨D, d5, rfl, hs1, hb⟩; clear x0 x1 x2; have HB5 := Aside0.mk (via HB4.out hb); have hq := via HB04.out hb; obtain ⟨y0, y1, y2⟩ := box_later hq b1.out; have hsz4 := (box_later HB04.out b1.out).2.2; have BK := Aside0.mk ((hq.block _ (blk_lt b1.out)).trans b1.out); have HO5 := Aside0.mk (HO4.out.below hb); have HS5 := Aside0.mk hs1; have HDT := Aside0.mk hs1.typed; have HRT5 := Aside0.mk (HRT.out.below hb); clear hb hq HB4 HB04 HO4 hs1))
      have z := blk_set (blk_set (blk_set BK.out 0 (.slice D on.length d5)) 1 (.int .i64 af)) 2 (.int .i64 n)
      have fz := blk_frozen z
      have k0 : (((w5.setCell ⟨w.heap.size + 1, 0, none⟩ (.slice D on.length d5)).setCell ⟨w.heap.size + 1, 1, none⟩ (.int .i64 af)).setCell ⟨w.heap.size + 1, 2, none⟩ (.int .i64 n)).cell? ⟨w.heap.size + 1, 0, none⟩ = some (.slice D on.length d5) := (blk_cell z 0).trans rfl
      have k1 : (((w5.setCell ⟨w.heap.size + 1, 0, none⟩ (.slice D on.length d5)).setCell ⟨w.heap.size + 1, 1, none⟩ (.int .i64 af)).setCell ⟨w.heap.size + 1, 2, none⟩ (.int .i64 n)).cell? ⟨w.heap.size + 1, 1, none⟩ = some (.int .i64 af) := (blk_cell z 1).trans rfl
      have k2 : (((w5.setCell ⟨w.heap.size + 1, 0, none⟩ (.slice D on.length d5)).setCell ⟨w.heap.size + 1, 1, none⟩ (.int .i64 af)).setCell ⟨w.heap.size + 1, 2, none⟩ (.int .i64 n)).cell? ⟨w.heap.size + 1, 2, none⟩ = some (.int .i64 n) := (blk_cell z 2).trans rfl
      have hSP : Sl kPair (((w5.setCell ⟨w.heap.size + 1, 0, none⟩ (.slice D on.length d5)).setCell ⟨w.heap.size + 1, 1, none⟩ (.int .i64 af)).setCell ⟨w.heap.size + 1, 2, none⟩ (.int .i64 n)) R (c3 - m) out := by
        have hz := HR2.out (((w5.setCell ⟨w.heap.size + 1, 0, none⟩ (.slice D on.length d5)).setCell ⟨w.heap.size + 1, 1, none⟩ (.int .i64 af)).setCell ⟨w.heap.size + 1, 2, none⟩ (.int .i64 n)) (show Sl kPair (((w5.setCell ⟨w.heap.size + 1, 0, none⟩ (.slice D on.length d5)).setCell ⟨w.heap.size + 1, 1, none⟩ (.int .i64 af)).setCell ⟨w.heap.size + 1, 2, none⟩ (.int .i64 n)) C c3 all from (by apply Own.sl2; (repeat first | exact HO5.out | apply Own.set); all_goals (show (w.heap.size + 1) < _; omega)))
        rw [HO.out]
        exact ⟨by have := hz.1; simp; omega, Kd.C_take hz.2 (by omega)⟩
      have hSS : Sl kSpan (((w5.setCell ⟨w.heap.size + 1, 0, none⟩ (.slice D on.length d5)).setCell ⟨w.heap.size + 1, 1, none⟩ (.int .i64 af)).setCell ⟨w.heap.size + 1, 2, none⟩ (.int .i64 n)) D d5 on := (by apply Own.sl2; (repeat first | exact HS5.out | apply Own.set); all_goals (show (w.heap.size + 1) < _; omega))
      have HRT6 := Aside0.mk (show Typed (((w5.setCell ⟨w.heap.size + 1, 0, none⟩ (.slice D on.length d5)).setCell ⟨w.heap.size + 1, 1, none⟩ (.int .i64 af)).setCell ⟨w.heap.size + 1, 2, none⟩ (.int .i64 n)) 84 R from by (repeat (with_reducible refine Typed.set ?_ _)); exact HRT5.out)
      have HDT6 := Aside0.mk (show Typed (((w5.setCell ⟨w.heap.size + 1, 0, none⟩ (.slice D on.length d5)).setCell ⟨w.heap.size + 1, 1, none⟩ (.int .i64 af)).setCell ⟨w.heap.size + 1, 2, none⟩ (.int .i64 n)) 162 D from by (repeat (with_reducible refine Typed.set ?_ _)); exact HDT.out)
      have HSP := Aside0.mk hSP
      have HSS := Aside0.mk hSS
      have HBW := Aside0.mk (show Below w.heap.size w (((w5.setCell ⟨w.heap.size + 1, 0, none⟩ (.slice D on.length d5)).setCell ⟨w.heap.size + 1, 1, none⟩ (.int .i64 af)).setCell ⟨w.heap.size + 1, 2, none⟩ (.int .i64 n)) from below_set (below_set (below_set HB5.out (by omega)) (by omega)) (by omega))
      clear hSP hSS
      clear HC HD HE HF HG y0 z y1 y2
      generalize (((w5.setCell ⟨w.heap.size + 1, 0, none⟩ (.slice D on.length d5)).setCell ⟨w.heap.size + 1, 1, none⟩ (.int .i64 af)).setCell ⟨w.heap.size + 1, 2, none⟩ (.int .i64 n)) = W at *
      have s0 : ∀ a, (W.drewN a).setCell ⟨w.heap.size + 1, 0, none⟩ (.slice D on.length d5) = W.drewN a := fun a => setCell_self (by simp [k0])
      have s1 : ∀ a, (W.drewN a).setCell ⟨w.heap.size + 1, 1, none⟩ (.int .i64 af) = W.drewN a := fun a => setCell_self (by simp [k1])
      have s2 : ∀ a, (W.drewN a).setCell ⟨w.heap.size + 1, 2, none⟩ (.int .i64 n) = W.drewN a := fun a => setCell_self (by simp [k2])
      go_quiet (fail)
      go_wp2
      refine bodyPost_ret (v := .tuple #[.slice R rest.length (c3 - m), .agg #[.slice D on.length d5, .int .i64 af, .int .i64 n], .bool false, .int .i64 0]) (by simp [results, Try.results26, go_sem, k0, k1, k2]) rfl ⟨R, c3 - m, D, d5, ?_, ?_, ?_, ?_, HRT6.out, HDT6.out⟩
      · rw [HOL.out, HNX.out, HMO.out]
      · exact HSP.out.below (pw_below_drewN (Below.refl _ _) _)
      · rw [HNX.out]
        exact HSS.out.below (pw_below_drewN (Below.refl _ _) _)
      · exact pw_below_drewN HBW.out _
    · have hol : out.length = rest.length := by rw [hout]
      have hr0 : decide (0 < rest.length) = true := decide_eq_true (by omega)
      obtain ⟨q, hq⟩ : ∃ q, out[rest.length - 1]? = some q := ⟨_, List.getElem?_eq_getElem (by omega)⟩
      have hnx : nx = { on := on, after := q.key, limit := n } := by rw [HPN.out, List.getLast?_eq_getElem?, hol, hq]
      have HQ := Aside0.mk hq
      have HOL := Aside0.mk hol
      have HNX := Aside0.mk hnx
      clear hout hol hnx hq
      go_enter Try.func26, Try.ntmps26
      go_wp2_with (first
        | (go_at_call 88; refine HC.out.mono ?_; rintro e w1 ⟨rfl, hb⟩; obtain ⟨x0, x1, x2⟩ := box_later hb b0.out; have HB0 := Aside0.mk hb; have HB := Aside0.mk (via HX.out hb); clear hb)
        | (go_at_call 89; refine (HD.out _ HB.out).mono ?_; rintro e w2 ⟨rfl, hb⟩; clear x0 x1 x2; have HB2 := Aside0.mk (via HB.out hb); have hq := via HB0.out hb; obtain ⟨x0, x1, x2⟩ := box_later hq b0.out; have HB02 := Aside0.mk hq; clear hb hq HB HB0)
        | (go_at_call 45; refine (HE.out _ HB2.out).mono ?_; rintro e w3 ⟨C, c3, rfl, ho, hs1, hb⟩; clear x0 x1 x2; have HB3 := Aside0.mk (via HB2.out hb); have hq := via HB02.out hb; obtain ⟨x0, x1, x2⟩ := box_later hq b0.out; have HB03 := Aside0.mk hq; have HO3 := Aside0.mk ho; have HCT := Aside0.mk ho.typed; have hsz0 := (box_later HB02.out b1.out).2.2; clear hb hq HB2 HB02 ho hs1)
        | (go_at_call 90; refine (HF.out _ _ _ HO3.out.sl2).mono ?_; rintro e w4 ⟨fb, rfl, hb⟩; clear x0 x1 x2; have HB4 := Aside0.mk (via HB3.out hb); have hq := via HB03.out hb; obtain ⟨x0, x1, x2⟩ := box_later hq b0.out; have HB04 := Aside0.mk hq; have HO4 := Aside0.mk (HO3.out.below hb); have HBS := Aside0.mk hb; clear hb hq HB3 HB03 HO3; obtain ⟨R, hr1, hr2, hr3⟩ := sl_drop' (P := Try.prog) (d := kPair) 47 84 Try.underlying47 pairInfo.out.1 pairInfo.out.2 C c3 all rest m hmle HO4.out.sl2.1 HRS.out; have HR2 := Aside0.mk hr2; have HRT := Aside0.mk ((HCT.out.below HBS.out).same hr3); clear hr2 hr3; have hcm : rest.length ≤ c3 - m := by have := HO4.out.sl2.1; have := HRL.out; omega)
        | (go_at_call 93; refine (HG.out _ HB4.out).mono ?_; rintro e w5 ⟨D, d5, rfl, hs1, hb⟩; clear x0 x1 x2; have HB5 := Aside0.mk (via HB4.out hb); have hq := via HB04.out hb; obtain ⟨y0, y1, y2⟩ := box_later hq b1.out; have hsz4 := (box_later HB04.out b1.out).2.2; have BK := Aside0.mk ((hq.block _ (blk_lt b1.out)).trans b1.out); have HO5 := Aside0.mk (HO4.out.below hb); have HS5 := Aside0.mk hs1; have HDT := Aside0.mk hs1.typed; have HRT5 := Aside0.mk (HRT.out.below hb); clear hb hq HB4 HB04 HO4 hs1; obtain ⟨ad, rfl, c0, _⟩ := pair_at? (w := (((w5.setCell ⟨w.heap.size + 1, 0, none⟩ (.slice D on.length d5)).setCell ⟨w.heap.size + 1, 1, none⟩ (.int .i64 af)).setCell ⟨w.heap.size + 1, 2, none⟩ (.int .i64 n))) (A := R) (c := c3 - m) (xs := out) (by rw [HO.out]; have hz := HR2.out (((w5.setCell ⟨w.heap.size + 1, 0, none⟩ (.slice D on.length d5)).setCell ⟨w.heap.size + 1, 1, none⟩ (.int .i64 af)).setCell ⟨w.heap.size + 1, 2, none⟩ (.int .i64 n)) (show Sl kPair (((w5.setCell ⟨w.heap.size + 1, 0, none⟩ (.slice D on.length d5)).setCell ⟨w.heap.size + 1, 1, none⟩ (.int .i64 af)).setCell ⟨w.heap.size + 1, 2, none⟩ (.int .i64 n)) C c3 all from (by apply Own.sl2; (repeat first | exact HO5.out | apply Own.set); all_goals (show (w.heap.size + 1) < _; omega))); exact ⟨by have := hz.1; simp; omega, Kd.C_take hz.2 (by omega)⟩) HQ.out))
      have z := blk_set (blk_set (blk_set (blk_set BK.out 0 (.slice D on.length d5)) 1 (.int .i64 af)) 2 (.int .i64 n)) 1 (.int .i64 q.key)
      clear c0
      have fz := blk_frozen z
      have k0 : (((((w5.setCell ⟨w.heap.size + 1, 0, none⟩ (.slice D on.length d5)).setCell ⟨w.heap.size + 1, 1, none⟩ (.int .i64 af)).setCell ⟨w.heap.size + 1, 2, none⟩ (.int .i64 n))).setCell ⟨w.heap.size + 1, 1, none⟩ (.int .i64 q.key)).cell? ⟨w.heap.size + 1, 0, none⟩ = some (.slice D on.length d5) := (blk_cell z 0).trans rfl
      have k1 : (((((w5.setCell ⟨w.heap.size + 1, 0, none⟩ (.slice D on.length d5)).setCell ⟨w.heap.size + 1, 1, none⟩ (.int .i64 af)).setCell ⟨w.heap.size + 1, 2, none⟩ (.int .i64 n))).setCell ⟨w.heap.size + 1, 1, none⟩ (.int .i64 q.key)).cell? ⟨w.heap.size + 1, 1, none⟩ = some (.int .i64 q.key) := (blk_cell z 1).trans rfl
      have k2 : (((((w5.setCell ⟨w.heap.size + 1, 0, none⟩ (.slice D on.length d5)).setCell ⟨w.heap.size + 1, 1, none⟩ (.int .i64 af)).setCell ⟨w.heap.size + 1, 2, none⟩ (.int .i64 n))).setCell ⟨w.heap.size + 1, 1, none⟩ (.int .i64 q.key)).cell? ⟨w.heap.size + 1, 2, none⟩ = some (.int .i64 n) := (blk_cell z 2).trans rfl
      have hSP : Sl kPair (((((w5.setCell ⟨w.heap.size + 1, 0, none⟩ (.slice D on.length d5)).setCell ⟨w.heap.size + 1, 1, none⟩ (.int .i64 af)).setCell ⟨w.heap.size + 1, 2, none⟩ (.int .i64 n))).setCell ⟨w.heap.size + 1, 1, none⟩ (.int .i64 q.key)) (some ad) (c3 - m) out := by
        have hz := HR2.out (((((w5.setCell ⟨w.heap.size + 1, 0, none⟩ (.slice D on.length d5)).setCell ⟨w.heap.size + 1, 1, none⟩ (.int .i64 af)).setCell ⟨w.heap.size + 1, 2, none⟩ (.int .i64 n))).setCell ⟨w.heap.size + 1, 1, none⟩ (.int .i64 q.key)) (show Sl kPair (((((w5.setCell ⟨w.heap.size + 1, 0, none⟩ (.slice D on.length d5)).setCell ⟨w.heap.size + 1, 1, none⟩ (.int .i64 af)).setCell ⟨w.heap.size + 1, 2, none⟩ (.int .i64 n))).setCell ⟨w.heap.size + 1, 1, none⟩ (.int .i64 q.key)) C c3 all from (by apply Own.sl2; (repeat first | exact HO5.out | apply Own.set); all_goals (show (w.heap.size + 1) < _; omega)))
        rw [HO.out]
        exact ⟨by have := hz.1; simp; omega, Kd.C_take hz.2 (by omega)⟩
      have hSS : Sl kSpan (((((w5.setCell ⟨w.heap.size + 1, 0, none⟩ (.slice D on.length d5)).setCell ⟨w.heap.size + 1, 1, none⟩ (.int .i64 af)).setCell ⟨w.heap.size + 1, 2, none⟩ (.int .i64 n))).setCell ⟨w.heap.size + 1, 1, none⟩ (.int .i64 q.key)) D d5 on := (by apply Own.sl2; (repeat first | exact HS5.out | apply Own.set); all_goals (show (w.heap.size + 1) < _; omega))
      have HRT6 := Aside0.mk (show Typed (((((w5.setCell ⟨w.heap.size + 1, 0, none⟩ (.slice D on.length d5)).setCell ⟨w.heap.size + 1, 1, none⟩ (.int .i64 af)).setCell ⟨w.heap.size + 1, 2, none⟩ (.int .i64 n))).setCell ⟨w.heap.size + 1, 1, none⟩ (.int .i64 q.key)) 84 (some ad) from by (repeat (with_reducible refine Typed.set ?_ _)); exact HRT5.out)
      have HDT6 := Aside0.mk (show Typed (((((w5.setCell ⟨w.heap.size + 1, 0, none⟩ (.slice D on.length d5)).setCell ⟨w.heap.size + 1, 1, none⟩ (.int .i64 af)).setCell ⟨w.heap.size + 1, 2, none⟩ (.int .i64 n))).setCell ⟨w.heap.size + 1, 1, none⟩ (.int .i64 q.key)) 162 D from by (repeat (with_reducible refine Typed.set ?_ _)); exact HDT.out)
      have HSP := Aside0.mk hSP
      have HSS := Aside0.mk hSS
      have HBW := Aside0.mk (show Below w.heap.size w (((((w5.setCell ⟨w.heap.size + 1, 0, none⟩ (.slice D on.length d5)).setCell ⟨w.heap.size + 1, 1, none⟩ (.int .i64 af)).setCell ⟨w.heap.size + 1, 2, none⟩ (.int .i64 n))).setCell ⟨w.heap.size + 1, 1, none⟩ (.int .i64 q.key)) from below_set (below_set (below_set (below_set HB5.out (by omega)) (by omega)) (by omega)) (by omega))
      clear hSP hSS
      clear HC HD HE HF HG y0 z y1 y2
      generalize (((((w5.setCell ⟨w.heap.size + 1, 0, none⟩ (.slice D on.length d5)).setCell ⟨w.heap.size + 1, 1, none⟩ (.int .i64 af)).setCell ⟨w.heap.size + 1, 2, none⟩ (.int .i64 n))).setCell ⟨w.heap.size + 1, 1, none⟩ (.int .i64 q.key)) = W at *
      have s0 : ∀ a, (W.drewN a).setCell ⟨w.heap.size + 1, 0, none⟩ (.slice D on.length d5) = W.drewN a := fun a => setCell_self (by simp [k0])
      have s1 : ∀ a, (W.drewN a).setCell ⟨w.heap.size + 1, 1, none⟩ (.int .i64 q.key) = W.drewN a := fun a => setCell_self (by simp [k1])
      have s2 : ∀ a, (W.drewN a).setCell ⟨w.heap.size + 1, 2, none⟩ (.int .i64 n) = W.drewN a := fun a => setCell_self (by simp [k2])
      go_quiet (fail)
      go_wp2
      refine bodyPost_ret (v := .tuple #[.slice (some ad) rest.length (c3 - m), .agg #[.slice D on.length d5, .int .i64 q.key, .int .i64 n], .bool false, .int .i64 0]) (by simp [results, Try.results26, go_sem, k0, k1, k2]) rfl ⟨(some ad), c3 - m, D, d5, ?_, ?_, ?_, ?_, HRT6.out, HDT6.out⟩
      · rw [HOL.out, HNX.out, HMO.out]
      · exact HSP.out.below (pw_below_drewN (Below.refl _ _) _)
      · rw [HNX.out]
        exact HSS.out.below (pw_below_drewN (Below.refl _ _) _)
      · exact pw_below_drewN HBW.out _

theorem scan_Page_good (A B : Option Addr) (c d : Nat) (l : List Pair) (x : Cursor) (w : World) (hr : Sl kPair w A c l) (hs : Sl kSpan w B d x.on) (hbig : l.length ≤ 1000000) (hgood : pgBad l x = false) :
    Calls Try.prog 26 #[.slice A l.length c, vCur B d x] w fun e w' => ∃ C c' D d', e = .returned (.tuple #[.slice C (pgOut l x).length c', vCur D d' (pgNext l x), .bool (pgMore l x), .int .i64 0]) ∧ Sl kPair w' C c' (pgOut l x) ∧ Sl kSpan w' D d' (pgNext l x).on ∧ Below w.heap.size w w' :=
  (scan_Page_new A B c d l x w hr hs hbig hgood).mono fun e w' ⟨C, c', D, d', he, h1, h2, hb, _⟩ => ⟨C, c', D, d', he, h1, h2, hb⟩

end Go.Proofs.Ytoeipkjpgbdioaa
