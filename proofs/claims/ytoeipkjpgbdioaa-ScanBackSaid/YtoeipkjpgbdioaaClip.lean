/- What table.Clip answers: the pairs whose keys are in a set. -/
import Derived.Test.YtoeipkjpgbdioaaRef35
set_option linter.unusedVariables false
set_option linter.unusedSimpArgs false
namespace Go.Proofs.Ytoeipkjpgbdioaa
open Go.RowKit Go.Shelf Go.Proofs.YtoeipkjpgbdioaaW.PrintWords

theorem clip_nil {l : List Pair} {on : List Span} (h : isTable l = false ∨ isSet on = false) : clip l on = [] := by
  rw [clip, List.filter_eq_nil_iff]
  intro p _
  rcases h with h | h <;> simp [inClip, h]

set_option maxHeartbeats 2000000 in
theorem table_Clip (A B : Option Addr) (c d : Nat) (l : List Pair) (on : List Span) (w : World) (hr : Sl kPair w A c l) (hs : Sl kSpan w B d on) (hbig : l.length ≤ 1000000) :
    Calls Try.prog 45 #[.slice A l.length c, .slice B on.length d] w fun e w' => ∃ v, e = .returned v ∧ Own kPair 84 w' w.heap.size v (clip l on) ∧ Below w.heap.size w w' := by
  have HR := Aside0.mk hr
  have HS := Aside0.mk hs
  have hm := hr.max
  have HC := Aside0.mk (table_Check A c l w hr)
  have HD := Aside0.mk (fun W (h : Below w.heap.size w W) => span_Check B d on W (hs.below h))
  clear hr hs
  cases e1 : isTable l with
  | false =>
    have E := Aside0.mk (clip_nil (on := on) (.inl e1))
    rw [e1] at HC
    clear e1
    go_enter Try.func45, Try.ntmps45
    go_wp2_with (go_at_call 88; refine HC.out.mono ?_; rintro e w1 ⟨rfl, hb⟩; have HB := Aside0.mk hb; clear hb)
    go_ret
    exact ⟨_, rfl, by rw [E.out]; exact Own.nil _ _ _ _, HB.out⟩
  | true =>
    rw [e1] at HC
    cases e2 : isSet on with
    | false =>
      have E := Aside0.mk (clip_nil (l := l) (.inr e2))
      rw [e2] at HD
      clear e1 e2
      go_enter Try.func45, Try.ntmps45
      go_wp2_with (first | (go_at_call 88; refine HC.out.mono ?_; rintro e w1 ⟨rfl, hb⟩; have HB := Aside0.mk hb; clear hb) | (go_at_call 101; refine (HD.out _ HB.out).mono ?_; rintro e w2 ⟨rfl, hb⟩; have HB2 := Aside0.mk (below_then HB.out HB.out.size hb); clear hb))
      go_ret
      exact ⟨_, rfl, by rw [E.out]; exact Own.nil _ _ _ _, HB2.out⟩
    | true =>
      rw [e2] at HD
      have hq0 := Aside0.mk (show ∀ p : Pair, inClip l on p = has on p.key from fun p => by simp [inClip, e1, e2])
      clear e1 e2
      go_enter Try.func45, Try.ntmps45
      go_wp2_with (first | (go_at_call 88; refine HC.out.mono ?_; rintro e w1 ⟨rfl, hb⟩; have HB := Aside0.mk hb; clear hb) | (go_at_call 101; refine (HD.out _ HB.out).mono ?_; rintro e w2 ⟨rfl, hb⟩; have HB2 := Aside0.mk (below_then HB.out HB.out.size hb); clear hb HB))
      go_loopw [5, 18] (fun v i wr => ∃ k : Nat, k ≤ l.length ∧ i = .int .i64 k ∧ Aside0 (Own kPair 84 wr w.heap.size v ((l.take k).filter (inClip l on))) ∧ Aside0 (Below w.heap.size w wr)) (fun _ i _ => l.length - (intOf i).toNat)
      case atStart => exact ⟨0, by omega, rfl, ⟨Own.nil _ _ _ _⟩, HB2⟩
      case round =>
        clear HB2
        obtain ⟨k, hk, rfl, hO, hB⟩ := hrel
        by_cases hlt : k < l.length
        · obtain ⟨ad, rfl, c0, c1⟩ := pair_at (HR.out.below hB.out) k hlt
          have hF := filter_take_length l (inClip l on) k
          have HA := Aside0.mk (below_alloc (Below.refl wr.heap.size wr) (.cells #[.int .i64 l[k].key, .int .i64 l[k].val] 84))
          have HH := Aside0.mk (span_Has B d on l[k].key (wr.alloc (.cells #[.int .i64 l[k].key, .int .i64 l[k].val] 84)) ((HS.out.below hB.out).below HA.out))
          have hc0 := Aside0.mk (show ∀ W, Below (wr.alloc (.cells #[.int .i64 l[k].key, .int .i64 l[k].val] 84)).heap.size (wr.alloc (.cells #[.int .i64 l[k].key, .int .i64 l[k].val] 84)) W → W.cell? ⟨wr.heap.size, 0, none⟩ = some (.int .i64 l[k].key) ∧ W.cell? ⟨wr.heap.size, 1, none⟩ = some (.int .i64 l[k].val) from fun W hW => ⟨pw_cell_below hW (by simp), pw_cell_below hW (by simp)⟩)
          have ht := Aside0.mk (clip_step (q := inClip l on) hlt)
          have hq := hq0.out l[k]
          rw [hq] at ht
          clear hq
          cases e3 : has on l[k].key with
          | false =>
            rw [e3] at HH ht
            clear e3
            go_wp2_with (go_at_call 107; refine HH.out.mono ?_; rintro e w3 ⟨rfl, hb⟩; have HB3 := Aside0.mk (below_then HA.out HA.out.size hb); clear hb)
            go_roundw
            case rel => exact ⟨k + 1, by omega, by go_num, ⟨by rw [ht.out]; exact hO.out.below HB3.out⟩, ⟨below_then hB.out hB.out.size HB3.out⟩⟩
            case measure => simp [intOf]; omega
          | true =>
            rw [e3] at HH ht
            clear e3
            go_wp2_with (first | (go_at_call 107; refine HH.out.mono ?_; rintro e w3 ⟨rfl, hb⟩; obtain ⟨x0, x1⟩ := hc0.out _ hb; have HB3 := Aside0.mk (below_then HA.out HA.out.size hb); clear hb; have HO := Aside0.mk (hO.out.below HB3.out); have HBB := Aside0.mk (below_then hB.out hB.out.size HB3.out)) | (at_builtin; go_must (refine own_append (w0 := w) w.heap.size rfl (.tmp 26) (.tmp 28) 47 84 (.agg #[.int .i64 0, .int .i64 0]) 16 rfl Try.underlying47 info84 rfl (by decide) (by omega) u5 ((l.take k).filter (inClip l on)) l[k] rfl rfl HO.out HBB.out HBB.out.size (by omega) ?_); intro v1 w4 ho hb hs; have HO4 := Aside0.mk ho; have HB4 := Aside0.mk hb; clear ho hb))
            go_roundw
            case rel => exact ⟨k + 1, by omega, by go_num, ⟨by rw [ht.out]; exact HO4.out⟩, HB4⟩
            case measure => simp [intOf]; omega
        · have e : (l.take k).filter (inClip l on) = clip l on := by rw [List.take_of_length_le (by omega)]; rfl
          rw [e] at hO
          go_wp2
          go_ret
          exact ⟨_, rfl, hO.out, hB.out⟩

end Go.Proofs.Ytoeipkjpgbdioaa
