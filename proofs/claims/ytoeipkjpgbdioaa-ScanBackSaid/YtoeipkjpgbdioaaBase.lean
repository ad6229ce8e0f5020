/- The kinds of values of this program (pairs, spans, cells, turns ..), and what a row of such elements tells of memory: words for the walks, no statement about the program. -/
import Derived.Test.YtoeipkjpgbdioaaProg
import Derived.Test.YtoeipkjpgbdioaaWWords
import Derived.WalkSpells
import Derived.Outline
import Derived.Deep.RegionHeld3
set_option linter.unusedVariables false
set_option linter.unusedSimpArgs false
namespace Go.Proofs.Ytoeipkjpgbdioaa
open Go.RowKit Go.Proofs.YtoeipkjpgbdioaaW.PrintWords

/-! ### kinds of one form: so many cells, all told by the value -/
def flat {α : Type} (sz : Nat) (enc : α → List Value) (hl : ∀ x, (enc x).length = sz) (h1 : ∀ x, ∀ u ∈ enc x, u.oneCell' = true) : Kd α where
  sz := sz
  E := []
  K := fun _ x cs => cs = enc x
  M := fun _ _ _ x cs => cs = enc x
  K_len := fun h => by rw [h]; exact hl _
  K_one := fun h u hu => by rw [h] at hu; exact h1 _ u hu
  K_below := fun _ h => h
  K_of_M := fun h => h
  M_mono := fun _ h => h
  M_bound := fun h => h
  M_move := fun _ h => h
  M_lower := fun _ h => h

structure Pair where
  key : Int
  val : Int
  deriving DecidableEq, Inhabited
structure Span where
  lo : Int
  hi : Int
  deriving DecidableEq, Inhabited
structure Cell where
  val : Int
  some : Bool
  deriving DecidableEq, Inhabited
structure Turn where
  key : Int
  was : Cell
  is : Cell
  deriving DecidableEq, Inhabited
structure Group where
  key : Int
  n : Int
  sum : Int
  least : Int
  most : Int
  deriving DecidableEq, Inhabited

attribute [ext] Pair Span Cell Turn Group
structure Cursor where
  on : List Span
  after : Int
  limit : Int
  deriving DecidableEq, Inhabited
def encPair (p : Pair) : List Value := [.int .i64 p.key, .int .i64 p.val]
def encSpan (p : Span) : List Value := [.int .i64 p.lo, .int .i64 p.hi]
def encCell (c : Cell) : List Value := [.int .i64 c.val, .bool c.some]
def encTurn (t : Turn) : List Value := [.int .i64 t.key, .int .i64 t.was.val, .bool t.was.some, .int .i64 t.is.val, .bool t.is.some]
def encGroup (g : Group) : List Value := [.int .i64 g.key, .int .i64 g.n, .int .i64 g.sum, .int .i64 g.least, .int .i64 g.most]
theorem one_of {l : List Value} (h : l.all (·.oneCell') = true) : ∀ u ∈ l, u.oneCell' = true := fun u hu => List.all_eq_true.1 h u hu
def kPair : Kd Pair := flat 2 encPair (fun _ => rfl) (fun _ => one_of rfl)
def kSpan : Kd Span := flat 2 encSpan (fun _ => rfl) (fun _ => one_of rfl)
def kCell : Kd Cell := flat 2 encCell (fun _ => rfl) (fun _ => one_of rfl)
def kTurn : Kd Turn := flat 5 encTurn (fun _ => rfl) (fun _ => one_of rfl)
def kGroup : Kd Group := flat 5 encGroup (fun _ => rfl) (fun _ => one_of rfl)

/-- A slice value that reads as a list. -/
def Sl {α : Type} (d : Kd α) (w : World) (A : Option Addr) (c : Nat) (xs : List α) : Prop := xs.length ≤ c ∧ d.C w A xs.length xs
theorem Sl.below {α : Type} {d : Kd α} {w w1 : World} {A : Option Addr} {c : Nat} {xs : List α} (h : Sl d w A c xs) (hb : Below w.heap.size w w1) : Sl d w1 A c xs := ⟨h.1, Kd.C_below h.2 hb⟩
theorem Sl.max {α : Type} {d : Kd α} {w : World} {A : Option Addr} {c : Nat} {xs : List α} (h : Sl d w A c xs) : xs.length ≤ 9223372036854775807 := h.2.2.1
theorem Sl.nil {α : Type} (d : Kd α) (w : World) (A : Option Addr) (c : Nat) : Sl d w A c [] := ⟨by simp, rfl, by simp, fun h => absurd h (by simp)⟩

theorem flat_at {α : Type} {sz : Nat} {enc : α → List Value} {hl : ∀ x, (enc x).length = sz} {h1 : ∀ x, ∀ u ∈ enc x, u.oneCell' = true} {w : World} {A : Option Addr} {c : Nat} {xs : List α}
    (h : Sl (flat sz enc hl h1) w A c xs) (i : Nat) (hi : i < xs.length) : ∃ ad, A = some ad ∧ ∀ j u, (enc xs[i])[j]? = some u → w.cell? (ad.add (i * sz + j)) = some u := by
  obtain ⟨ad, e, hr⟩ := h.2.2.2 (by omega)
  obtain ⟨cs, _, hK, hc⟩ := hr i xs[i] (by simp)
  obtain rfl : cs = enc xs[i] := hK
  exact ⟨ad, e, hc⟩
theorem two_at {α : Type} {enc : α → List Value} {hl : ∀ x, (enc x).length = 2} {h1 : ∀ x, ∀ u ∈ enc x, u.oneCell' = true} {w : World} {A : Option Addr} {c : Nat} {xs : List α}
    (h : Sl (flat 2 enc hl h1) w A c xs) (i : Nat) (hi : i < xs.length) (a b : Value) (he : enc xs[i] = [a, b]) :
    ∃ ad, A = some ad ∧ w.cell? (ad.add (i * 2)) = some a ∧ w.cell? ⟨(ad.add (i * 2)).block, (ad.add (i * 2)).off + 1, none⟩ = some b := by
  obtain ⟨ad, e, hc⟩ := flat_at h i hi
  exact ⟨ad, e, hc 0 _ (by rw [he]; rfl), by rw [← add_field _ _ 1 (by omega)]; exact hc 1 _ (by rw [he]; rfl)⟩
theorem pair_at {w : World} {A : Option Addr} {c : Nat} {xs : List Pair} (h : Sl kPair w A c xs) (i : Nat) (hi : i < xs.length) :
    ∃ ad, A = some ad ∧ w.cell? (ad.add (i * 2)) = some (.int .i64 xs[i].key) ∧ w.cell? ⟨(ad.add (i * 2)).block, (ad.add (i * 2)).off + 1, none⟩ = some (.int .i64 xs[i].val) := two_at h i hi _ _ rfl
theorem span_at {w : World} {A : Option Addr} {c : Nat} {xs : List Span} (h : Sl kSpan w A c xs) (i : Nat) (hi : i < xs.length) :
    ∃ ad, A = some ad ∧ w.cell? (ad.add (i * 2)) = some (.int .i64 xs[i].lo) ∧ w.cell? ⟨(ad.add (i * 2)).block, (ad.add (i * 2)).off + 1, none⟩ = some (.int .i64 xs[i].hi) := two_at h i hi _ _ rfl
theorem cell_at {w : World} {A : Option Addr} {c : Nat} {xs : List Cell} (h : Sl kCell w A c xs) (i : Nat) (hi : i < xs.length) :
    ∃ ad, A = some ad ∧ w.cell? (ad.add (i * 2)) = some (.int .i64 xs[i].val) ∧ w.cell? ⟨(ad.add (i * 2)).block, (ad.add (i * 2)).off + 1, none⟩ = some (.bool xs[i].some) := two_at h i hi _ _ rfl

theorem via {w W w1 : World} (h : Below w.heap.size w W) (k : Below W.heap.size W w1) : Below w.heap.size w w1 := below_then h h.size k
/-- An old cell behind a new block. -/
theorem later {w : World} {a : Addr} {v : Value} (h : w.cell? a = some v) (o : Obj) : (w.alloc o).cell? a = some v := pw_cell_below (below_alloc (Below.refl _ _) o) h
theorem later2 {w : World} {a : Addr} {v : Value} (h : w.cell? a = some v) (o o' : Obj) : ((w.alloc o).alloc o').cell? a = some v := later (later h o) o'

/-! ### what the program's types are -/
theorem info84 : (Try.prog.info? 84).map (fun i => (i.zero, i.size, i.bytes)) = some (some (.agg #[.int .i64 0, .int .i64 0]), 2, 16) := by kernel_rfl
theorem info172 : (Try.prog.info? 172).map (fun i => (i.zero, i.size, i.bytes)) = some (some (.agg #[.int .i64 0, .int .i64 0]), 2, 16) := by kernel_rfl
theorem info162 : (Try.prog.info? 162).map (fun i => (i.zero, i.size, i.bytes)) = some (some (.agg #[.int .i64 0, .int .i64 0]), 2, 16) := by kernel_rfl
theorem info178 : (Try.prog.info? 178).map (fun i => (i.zero, i.size, i.bytes)) = some (some (.agg #[.int .i64 0, .int .i64 0]), 2, 16) := by kernel_rfl
theorem info120 : (Try.prog.info? 120).map (fun i => (i.zero, i.size, i.bytes)) = some (some (.agg #[.int .i64 0, .bool false]), 2, 16) := by kernel_rfl
theorem info118 : (Try.prog.info? 118).map (fun i => (i.zero, i.size, i.bytes)) = some (some (.agg #[.int .i64 0, .bool false]), 2, 16) := by kernel_rfl
theorem info3 : (Try.prog.info? 3).map (fun i => (i.zero, i.size, i.bytes)) = some (some (.int .i64 0), 1, 8) := by kernel_rfl

/-- A row of the call's own, of a kind of one form: behind one more element. -/
def Own {α : Type} (d : Kd α) (e : Nat) (w : World) (base : Nat) (v : Value) (xs : List α) : Prop := d.R e w base (fun _ => True) v xs
theorem Own.nil {α : Type} (d : Kd α) (e : Nat) (w : World) (base : Nat) : Own d e w base (.slice none 0 0) [] := Kd.R_nil _ _ _ _ _
theorem Own.below {α : Type} {d : Kd α} {e : Nat} {w w1 : World} {base : Nat} {v : Value} {xs : List α} (h : Own d e w base v xs) (hb : Below w.heap.size w w1) : Own d e w1 base v xs := Kd.R_below h hb
theorem Own.lower {α : Type} {d : Kd α} {e : Nat} {w : World} {base base' : Nat} {v : Value} {xs : List α} (h : Own d e w base v xs) (hb : base' ≤ base) : Own d e w base' v xs := Kd.R_lower h hb
theorem Own.sl {α : Type} {d : Kd α} {e : Nat} {w : World} {base : Nat} {v : Value} {xs : List α} (h : Own d e w base v xs) : ∃ A c, v = .slice A xs.length c ∧ Sl d w A c xs := by
  obtain ⟨A, c, e, hc, hC⟩ := Kd.R_reads h
  exact ⟨A, c, e, hc, hC⟩
theorem Own.sl' {α : Type} {d : Kd α} {e : Nat} {w : World} {base : Nat} {B : Option Addr} {n c : Nat} {xs : List α} (h : Own d e w base (.slice B n c) xs) : Sl d w B c xs := by
  obtain ⟨A, c', he, hs⟩ := h.sl
  injection he with h1 h2 h3
  subst h1 h3
  exact hs
theorem Own.bound {α : Type} {d : Kd α} {e : Nat} {w : World} {base : Nat} {v : Value} {xs : List α} (h : Own d e w base v xs) : d.R e w base (fun k => base ≤ k ∧ k < w.heap.size) v xs := Kd.R_mono (Kd.R_bound h) (fun _ hk => ⟨hk.2.1, hk.2.2.1⟩)
/-- A store into an elder block. -/
theorem Own.set {α : Type} {d : Kd α} {e : Nat} {w : World} {base : Nat} {v : Value} {xs : List α} (h : Own d e w base v xs) {p : Addr} (hp : p.block < base) (u : Value) : Own d e (w.setCell p u) base v xs :=
  Kd.R_mono (Kd.R_far h.bound (p := p) (fun k hk => by have := hk.1; omega) u) (fun _ _ => trivial)
/-- A store into a block that was not there yet. -/
theorem Own.set_new {α : Type} {d : Kd α} {e : Nat} {w w1 : World} {base : Nat} {v : Value} {xs : List α} (h : Own d e w base v xs) (hb : Below w.heap.size w w1) : Own d e w1 base v xs := h.below hb
/-- A contract whose result is a row of the call's own: the value written out. -/
theorem calls_own {P : Program} {f : FuncId} {args : Array Value} {w : World} {α : Type} {d : Kd α} {t : Nat} {b n : Nat} {xs : List α}
    (h : Calls P f args w fun e w' => ∃ v, e = .returned v ∧ Own d t w' b v xs ∧ Below n w w') :
    Calls P f args w fun e w' => ∃ B c, e = .returned (.slice B xs.length c) ∧ Own d t w' b (.slice B xs.length c) xs ∧ Sl d w' B c xs ∧ Below n w w' :=
  h.mono fun e w' ⟨v, he, ho, hb⟩ => by
    obtain ⟨B, c, rfl, hs⟩ := ho.sl
    exact ⟨B, c, he, ho, hs, hb⟩
section
variable {P : Program} {ops : Array Oper} {rest : List Oper} {o : Oper} {a : Act} {Q : Exit → Act → World → Prop}
/-- append(v, x), x of a kind of one form; behind 'at_builtin'; the goal's world is 'W.alloc' of the variadic's box. -/
theorem own_append {α : Type} {sz : Nat} {enc : α → List Value} {hl : ∀ x, (enc x).length = sz} {h1 : ∀ x, ∀ u ∈ enc x, u.oneCell' = true} {w0 W : World} (base : Nat) (hgd : o.guard = none) (s x : Operand) (t e : TypeId) (z : Value) (bytes : Nat)
    (ho : o.op = .call { callee := .builtin .append, args := #[s, x], argTypes := #[t, t] })
    (ht : P.underlying t = some (.slice e)) (hinfo : (P.info? e).map (fun i => (i.zero, i.size, i.bytes)) = some (some z, sz, bytes)) (hz : z.cells.size = sz) (hs0 : 0 < sz) (hb0 : 0 < bytes)
    (v : Value) (xs : List α) (p : α) (hs : a.eval s = v) (hx : a.eval x = .slice (some ⟨W.heap.size, 0, none⟩) 1 1)
    (HO : Own (flat sz enc hl h1) e W base v xs) (HB : Below base w0 W) (hbase : base ≤ W.heap.size) (hl2 : (xs.length + 1) * bytes ≤ 140737488355328)
    (h : ∀ v1 w1, Own (flat sz enc hl h1) e w1 base v1 (xs ++ [p]) → Below base w0 w1 → W.heap.size ≤ w1.heap.size → wpList P ops Q rest (a.put o.dst v1) w1) :
    wpList P ops Q (o :: rest) a (W.alloc (.cells (enc p).toArray e)) :=
  Kd.R_append (flat sz enc hl h1) base hgd s x t e z bytes ho ht hinfo hz hs0 hb0 v xs p (enc p) (fun _ => True) (fun _ => False) hs hx rfl (fun _ h => h.elim) (fun _ _ => trivial) HO HB hbase hl2
    (fun v1 w1 h1 h2 h3 _ => h v1 w1 h1 h2 h3.size)
end

/-! ### boxes -/
theorem size_alloc (w : World) (o : Obj) : (w.alloc o).heap.size = w.heap.size + 1 := by simp
theorem box_top (w : World) (o : Obj) : (w.alloc o).heap[w.heap.size]? = some o := by show (w.heap.push o)[w.heap.size]? = _; simp
theorem box_under {w : World} {g : Nat} {o : Obj} (h : w.heap[g]? = some o) (o' : Obj) : (w.alloc o').heap[g]? = some o := (Below.heap_alloc w o' g (blk_lt h)).trans h
theorem box_top1 (w : World) (o o1 : Obj) : ((w.alloc o).alloc o1).heap[w.heap.size + 1]? = some o1 := by have := box_top (w.alloc o) o1; rwa [size_alloc] at this
theorem box_top2 (w : World) (o o1 o2 : Obj) : (((w.alloc o).alloc o1).alloc o2).heap[w.heap.size + 2]? = some o2 := by have := box_top ((w.alloc o).alloc o1) o2; rwa [size_alloc, size_alloc] at this
/-- A box of an elder world, in a later one: its cells, none frozen. -/
theorem box_later {W0 w1 : World} {g t : Nat} {cs : Array Value} (hb : Below W0.heap.size W0 w1) (h : W0.heap[g]? = some (.cells cs t (0, 0))) : (∀ i, w1.cell? ⟨g, i, none⟩ = cs[i]?) ∧ (∀ i, w1.frozen? ⟨g, i, none⟩ = false) ∧ g < w1.heap.size := by
  have h1 : w1.heap[g]? = some (.cells cs t (0, 0)) := (hb.block g (blk_lt h)).trans h
  exact ⟨blk_cell h1, blk_frozen h1, blk_lt h1⟩

/-! ### regions that draw their order, whose callees make memory: the class 'as w was, below w's own blocks' -/
structure BW (w : World) where
  W : World
  h : Below w.heap.size w W
instance (w : World) : Inhabited (BW w) := ⟨⟨w, Below.refl _ _⟩⟩
theorem bw_cell {w : World} (p : BW w) {a : Addr} {v : Value} (h : w.cell? a = some v) : p.W.cell? a = some v := pw_cell_below p.h h
theorem wp_region_bw {P : Program} {id : Nat} {Q : Exit → Act → World → Prop} {a : Act} {w : World} {l : List Oper} (hm : P.follows .mixedOrders = true) (hB : Region.lexB .any l.toArray = true)
    (h : wpQuiet P l.toArray (fun w' => ∃ p : BW w, w' = p.W) (fun a' => ∀ w', (∃ p : BW w, w' = p.W) → Q .normal a' w') l a) : (Code.region id l.toArray true).wp P Q a w :=
  wp_region_quiet (C := fun w' => ∃ p : BW w, w' = p.W) hm hB ⟨⟨_, below_drew (Below.refl _ _)⟩, rfl⟩ (by simpa using h)
theorem bw_calls {P : Program} {f : FuncId} {args : Array Value} {w : World} (p : BW w) {v : Value}
    (h : Calls P f args p.W fun e w' => e = .returned v ∧ Below p.W.heap.size p.W w') : Calls P f args p.W fun e w'' => e = .returned v ∧ ∃ p : BW w, w'' = p.W :=
  h.mono fun _ w' ⟨he, hb⟩ => ⟨he, ⟨w', below_then p.h p.h.size hb⟩, rfl⟩

end Go.Proofs.Ytoeipkjpgbdioaa
