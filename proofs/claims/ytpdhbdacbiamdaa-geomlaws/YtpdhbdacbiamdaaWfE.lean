/-
  How the machine over plain data stands to the machine: the relation, and that it goes on.
-/
import Derived.Test.YtpdhbdacbiamdaaWfD
set_option linter.unusedVariables false
set_option linter.unusedSimpArgs false
set_option linter.unnecessarySimpa false
namespace Wf
open Go Go.RowKit

structure Ctx where
  ι : Nat → Option Nat
  γ : Nat → Option Addr
  O : Nat → Prop

/-- How many cells a box has. -/
def HObj.boxLen : HObj → Option Nat
  | .box _ ds => some ds.length
  | .vbox _ => some 1
  | _ => none

def HObj.live : HObj → Bool
  | .dead => false
  | .arr _ _ l => l
  | _ => true

/-- Blocks that may turn. -/
def own (c : Ctx) (L : Loc) (b : Nat) : Prop := c.O b ∨ ∃ g, c.ι g = some b ∧ (L g).2.live = true

/-- A slice over row g. -/
def SlAt (w : World) (β : Option Nat) (sz off len : Nat) (v : Value) : Prop :=
  ∃ a cap, v = .slice a len cap ∧ len ≤ cap ∧ (cap = 0 ∨ ∃ (b : Nat) (x : Array Value) (T : TypeId) (fz : Nat × Nat), β = some b ∧ a = some ⟨b, off * sz, none⟩ ∧ w.heap[b]? = some (.cells x T fz) ∧ (off + cap) * sz ≤ x.size)

inductive Val (c : Ctx) (L : Loc) (w : World) (N : Nat) : V → Value → Prop where
  | d (x v) : Rep w (own c L) N c.γ x v → Val c L w N (.d x) v
  | ptr (g n off v) : n ≤ (L g).1 → (L.get g n ≠ .dead → ∃ b, c.ι g = some b ∧ v = .pointer (some ⟨b, off, none⟩)) → Val c L w N (.ptr g n off) v
  | ept (g n i off v) : n ≤ (L g).1 → (∀ sz els l, L.get g n = .arr sz els l → i < els.length → ∃ b, c.ι g = some b ∧ v = .pointer (some ⟨b, i * sz + off, none⟩)) →
      Val c L w N (.ept g n i off) v
  | ref (g n off len v) : n ≤ (L g).1 → (∀ sz els l, L.get g n = .arr sz els l → off + len ≤ els.length ∧ SlAt w (c.ι g) sz off len v) → Val c L w N (.ref g n off len) v
  | bref (g n off len v) : n ≤ (L g).1 → (∀ k, (L.get g n).boxLen = some k → off + len ≤ k ∧ ∃ b, c.ι g = some b ∧ v = .slice (some ⟨b, off, none⟩) len (k - off)) →
      Val c L w N (.bref g n off len) v
  | map (g n v) : n ≤ (L g).1 → (L.get g n ≠ .dead → ∃ b, c.ι g = some b ∧ v = .map (some b)) → Val c L w N (.map g n) v
  | clo (f) (a b : List V) (va vb : Array Value) : va.size = a.length → vb.size = b.length → (∀ (i : Nat) (v : V) (u : Value), a[i]? = some v → va[i]? = some u → Val c L w N v u) →
      (∀ (i : Nat) (v : V) (u : Value), b[i]? = some v → vb[i]? = some u → Val c L w N v u) → Val c L w N (.clo f a b) (.func (.func f) va vb)
  | tup (l : List V) (vs : Array Value) : vs.size = l.length → (∀ (i : Nat) (v : V) (u : Value), l[i]? = some v → vs[i]? = some u → Val c L w N v u) → Val c L w N (.tup l) (.tuple vs)

def Unfrozen (w : World) (b n : Nat) : Prop := ∀ i, i < n → w.frozen? ⟨b, i, none⟩ = false

/-- A row of elements. -/
def RowAt (w : World) (A : Nat → Prop) (N : Nat) (γ : Nat → Option Addr) (b sz : Nat) (els : List D) : Prop :=
  ∃ vs : Nat → Value, ∀ (i : Nat) (d : D), els[i]? = some d → Rep w A N γ d (vs i) ∧ (vs i).cells.size = sz ∧ cellsAt w b (i * sz) (vs i)

def ObjOk (c : Ctx) (L : Loc) (w : World) (N : Nat) (β : Option Nat) : HObj → Prop
  | .dead => True
  | .box _ ds => ∃ (b : Nat) (x : Array Value) (T : TypeId) (fz : Nat × Nat), β = some b ∧ w.heap[b]? = some (.cells x T fz) ∧ Unfrozen w b x.size ∧ x.size = ds.length ∧
      ∀ (i : Nat) (d : D) (u : Value), ds[i]? = some d → x[i]? = some u → Rep w (own c L) N c.γ d u ∧ u.oneCell' = true
  | .vbox v => ∃ (b : Nat) (u : Value) (T : TypeId) (fz : Nat × Nat), β = some b ∧ w.heap[b]? = some (.cells #[u] T fz) ∧ Unfrozen w b 1 ∧ u.oneCell' = true ∧ Val c L w N v u
  | .arr sz els _ => match β with
    | none => els = []
    | some b => ∃ (x : Array Value) (T : TypeId) (fz : Nat × Nat), w.heap[b]? = some (.cells x T fz) ∧ Unfrozen w b x.size ∧ els.length * sz ≤ x.size ∧ RowAt w (own c L) N c.γ b sz els
  | .map kk es => ∃ (b : Nat) (m : Array MapEntry) (k : Nat), β = some b ∧ w.heap[b]? = some (.map m k) ∧ m.size = es.length ∧
      ∀ (i : Nat) (e : MapEntry) (p : Int × D), m[i]? = some e → es[i]? = some p → e.key = .int kk p.1 ∧ Rep w (own c L) N c.γ p.2 e.val

/-- The memory's part of the relation. -/
structure Mem (M : GM) (c : Ctx) (N : Nat) (w0 : World) (O0 : Nat → Prop) (L : Loc) (G : M.S) (w : World) : Prop where
  obj : ∀ g, ObjOk c L w N (c.ι g) (L g).2
  inj : ∀ g g' b, c.ι g = some b → c.ι g' = some b → (L g).2 ≠ .dead → (L g').2 ≠ .dead → g = g'
  mine : ∀ g b, c.ι g = some b → (L g).2 ≠ .dead → N ≤ b ∧ b < w.heap.size ∧ ¬ c.O b
  glob : M.rel G c.γ c.O w
  size : N ≤ w.heap.size
  size0 : w0.heap.size = N
  os : w.os = w0.os
  tape : w.tape = w0.tape
  output : w.output = w0.output
  keep : ∀ b, b < N → ¬ O0 b → w.heap[b]? = w0.heap[b]?
  osub : ∀ b, c.O b → b < w.heap.size ∧ (O0 b ∨ N ≤ b)

def Compat : HObj → HObj → Prop
  | _, .dead => True
  | .box _ ds, .box _ ds' => ds'.length = ds.length
  | .box _ ds, .vbox _ => ds.length = 1
  | .vbox _, .vbox _ => True
  | .vbox _, .box _ ds => ds.length = 1
  | .arr sz els _, .arr sz' els' _ => sz' = sz ∧ els'.length = els.length
  | .map k _, .map k' _ => k' = k
  | _, _ => False

theorem Compat.refl (x : HObj) : Compat x x := by cases x <;> simp [Compat]

structure Grow (c : Ctx) (L : Loc) (w : World) (c' : Ctx) (L' : Loc) (w' : World) : Prop where
  size : w.heap.size ≤ w'.heap.size
  old : ∀ b, ¬ own c L b → b < w.heap.size → w'.heap[b]? = w.heap[b]?
  ownsub : ∀ b, b < w.heap.size → own c' L' b → own c L b
  hγ : ∀ n a, c.γ n = some a → c'.γ n = some a
  cells : ∀ (b : Nat) (x : Array Value) (T : TypeId) (fz : Nat × Nat), w.heap[b]? = some (.cells x T fz) → own c L b → ∃ (x' : Array Value) (fz' : Nat × Nat), w'.heap[b]? = some (.cells x' T fz') ∧ x'.size = x.size
  gen : ∀ g, (L g).1 ≤ (L' g).1
  obj : ∀ g, (L' g).1 = (L g).1 → (L' g).2 = .dead ∨ (c'.ι g = c.ι g ∧ Compat (L g).2 (L' g).2)

theorem Grow.cells' {c L w c' L' w'} (h : Grow c L w c' L' w') {b : Nat} {x : Array Value} {T : TypeId} {fz : Nat × Nat} (hb : w.heap[b]? = some (.cells x T fz)) :
    ∃ (x' : Array Value) (fz' : Nat × Nat), w'.heap[b]? = some (.cells x' T fz') ∧ x'.size = x.size := by
  by_cases ho : own c L b
  · exact h.cells b x T fz hb ho
  · have hlt : b < w.heap.size := by
      rcases Nat.lt_or_ge b w.heap.size with h' | h'
      · exact h'
      · rw [Array.getElem?_eq_none h'] at hb; cases hb
    exact ⟨x, fz, by rw [h.old b ho hlt]; exact hb, rfl⟩

theorem Rep.grow {c L w c' L' w'} (h : Grow c L w c' L' w') {N : Nat} {d : D} {v : Value} (hr : Rep w (own c L) N c.γ d v) : Rep w' (own c' L') N c'.γ d v :=
  hr.mono h.old h.ownsub (Nat.le_refl _) h.size h.hγ

theorem SlAt.grow {c L w c' L' w'} (h : Grow c L w c' L' w') {β sz off len v} (hs : SlAt w β sz off len v) : SlAt w' β sz off len v := by
  obtain ⟨a, cap, hv, hle, hc⟩ := hs
  refine ⟨a, cap, hv, hle, ?_⟩
  rcases hc with hc | ⟨b, x, T, fz, h1, h2, h3, h4⟩
  · exact .inl hc
  · obtain ⟨x', fz', h5, h6⟩ := h.cells' h3
    exact .inr ⟨b, x', T, fz', h1, h2, h5, by omega⟩

/-- What a reference of the n-th life says goes on. -/
theorem Grow.get {c L w c' L' w'} (h : Grow c L w c' L' w') {g n : Nat} (hn : n ≤ (L g).1) (hd : L'.get g n ≠ .dead) :
    (L' g).1 = n ∧ (L g).1 = n ∧ c'.ι g = c.ι g ∧ L.get g n ≠ .dead ∧ Compat (L.get g n) (L'.get g n) := by
  have hg := h.gen g
  unfold Loc.get at hd
  split at hd
  · rename_i e
    have e2 : (L g).1 = n := by omega
    rcases h.obj g (by omega) with ho | ⟨h1, h2⟩
    · exact absurd ho hd
    · refine ⟨e, e2, h1, ?_, ?_⟩
      · unfold Loc.get; rw [if_pos e2]
        intro e3
        rw [e3] at h2
        cases hx : (L' g).2 <;> simp [hx, Compat] at h2 hd
      · unfold Loc.get; rw [if_pos e, if_pos e2]; exact h2
  · exact absurd rfl hd

theorem Val.grow {c L w c' L' w'} (h : Grow c L w c' L' w') {N : Nat} {v : V} {u : Value} (hv : Val c L w N v u) : Val c' L' w' N v u := by
  induction hv with
  | d x v hr => exact .d x v (hr.grow h)
  | ptr g n off v hn hp =>
    refine .ptr g n off v (Nat.le_trans hn (h.gen g)) fun hd => ?_
    obtain ⟨_, _, e, hd', _⟩ := h.get hn hd
    rw [e]; exact hp hd'
  | ept g n i off v hn hp =>
    refine .ept g n i off v (Nat.le_trans hn (h.gen g)) fun sz els l he hi => ?_
    obtain ⟨_, _, e, hd', hc⟩ := h.get hn (by rw [he]; simp)
    rw [he] at hc
    cases hx : L.get g n <;> simp [hx, Compat] at hc
    rename_i sz' els' l'
    obtain ⟨rfl, hl⟩ := hc
    rw [e]; exact hp _ _ _ hx (by omega)
  | ref g n off len v hn hp =>
    refine .ref g n off len v (Nat.le_trans hn (h.gen g)) fun sz els l he => ?_
    obtain ⟨_, _, e, hd', hc⟩ := h.get hn (by rw [he]; simp)
    rw [he] at hc
    cases hx : L.get g n <;> simp [hx, Compat] at hc
    rename_i sz' els' l'
    obtain ⟨rfl, hl⟩ := hc
    obtain ⟨h1, h2⟩ := hp _ _ _ hx
    rw [e]; exact ⟨by omega, h2.grow h⟩
  | bref g n off len v hn hp =>
    refine .bref g n off len v (Nat.le_trans hn (h.gen g)) fun k he => ?_
    obtain ⟨_, _, e, hd', hc⟩ := h.get hn (by intro e; rw [e] at he; cases he)
    obtain ⟨h1, h2⟩ := hp k (by
      cases hx : L.get g n <;> cases hy : L'.get g n <;> simp [hx, hy, Compat, HObj.boxLen] at hc he ⊢ <;> omega)
    rw [e]; exact ⟨h1, h2⟩
  | map g n v hn hp =>
    refine .map g n v (Nat.le_trans hn (h.gen g)) fun hd => ?_
    obtain ⟨_, _, e, hd', _⟩ := h.get hn hd
    rw [e]; exact hp hd'
  | clo f a b va vb h1 h2 _ _ ih1 ih2 => exact .clo f a b va vb h1 h2 ih1 ih2
  | tup l vs h1 _ ih => exact .tup l vs h1 ih

end Wf
