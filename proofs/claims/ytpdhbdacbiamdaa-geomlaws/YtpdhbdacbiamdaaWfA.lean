/-
  Plain data that Go's values read as, and what it means that a value reads as such data in a world.
-/
import Derived.WalkKit
import Derived.Deep.QuietTactic
import Derived.Laws.StructEq
set_option linter.unusedVariables false
set_option linter.unusedSimpArgs false
set_option linter.unnecessarySimpa false
namespace Wf
open Go Go.RowKit

inductive Tag where
  | lent | fresh | full | own
  deriving DecidableEq, Inhabited

/-- Data without addresses: what a value reads as. -/
inductive D where
  | undef
  | bool (b : Bool)
  | int (k : IntKind) (n : Int)
  | str (s : ByteArray)
  | agg (cs : List D)
  | sl (t : Tag) (l : List D)
  | nilp
  | at_ (d : D)
  | fn (f : FuncId) (first caps : List D)
  | nilfn
  | tup (l : List D)
  | h (n off : Nat)
  deriving Inhabited

def cellsAt (w : World) (b o : Nat) (v : Value) : Prop := ∀ j u, v.cells[j]? = some u → w.cell? ⟨b, o + j, none⟩ = some u

/-- Value v reads as d in world w. A: blocks that may turn. N: what is new lies from here on. γ: handles. -/
inductive Rep (w : World) (A : Nat → Prop) (N : Nat) (γ : Nat → Option Addr) : D → Value → Prop where
  | undef (v) : Rep w A N γ .undef v
  | bool (b) : Rep w A N γ (.bool b) (.bool b)
  | int (k n) : Rep w A N γ (.int k n) (.int k n)
  | str (s) : Rep w A N γ (.str s) (.string s)
  | nilp : Rep w A N γ .nilp (.pointer none)
  | nilfn : Rep w A N γ .nilfn .nilFunc
  | agg (cs : List D) (vs : Array Value) : vs.size = cs.length → (∀ (i : Nat) (d : D) (v : Value), cs[i]? = some d → vs[i]? = some v → Rep w A N γ d v) →
      (∀ (i : Nat) (v : Value), vs[i]? = some v → v.oneCell' = true) → Rep w A N γ (.agg cs) (.agg vs)
  | tup (cs : List D) (vs : Array Value) : vs.size = cs.length → (∀ (i : Nat) (d : D) (v : Value), cs[i]? = some d → vs[i]? = some v → Rep w A N γ d v) → Rep w A N γ (.tup cs) (.tuple vs)
  | fn (f) (a b : List D) (va vb : Array Value) : va.size = a.length → vb.size = b.length → (∀ (i : Nat) (d : D) (v : Value), a[i]? = some d → va[i]? = some v → Rep w A N γ d v) →
      (∀ (i : Nat) (d : D) (v : Value), b[i]? = some d → vb[i]? = some v → Rep w A N γ d v) → Rep w A N γ (.fn f a b) (.func (.func f) va vb)
  | slE (t a cap) : (t = .full → cap = 0) → Rep w A N γ (.sl t []) (.slice a 0 cap)
  | sl (t) (l : List D) (b o sz cap : Nat) (vs : Nat → Value) : l ≠ [] → l.length ≤ cap → (t = .full → cap = l.length) → ¬ A b → (t ≠ .lent → N ≤ b) → b < w.heap.size →
      (∀ (i : Nat) (d : D), l[i]? = some d → Rep w A N γ d (vs i)) → (∀ i, i < l.length → (vs i).cells.size = sz ∧ cellsAt w b (o + i * sz) (vs i)) →
      Rep w A N γ (.sl t l) (.slice (some ⟨b, o, none⟩) l.length cap)
  | at_ (d v b o) : ¬ A b → b < w.heap.size → cellsAt w b o v → Rep w A N γ d v → Rep w A N γ (.at_ d) (.pointer (some ⟨b, o, none⟩))
  | h (n off b o) : γ n = some ⟨b, o, none⟩ → Rep w A N γ (.h n off) (.pointer (some ⟨b, o + off, none⟩))

theorem cellsAt.mono {w w' : World} {b o : Nat} {v : Value} (h : cellsAt w b o v) (hb : w'.heap[b]? = w.heap[b]?) : cellsAt w' b o v := by
  intro j u hj
  rw [World.cell?_of_block (w := w) hb]; exact h j u hj

/-- What reads as data goes on to, as long as the blocks that it lies in stay. -/
theorem Rep.mono {w w' : World} {A A' : Nat → Prop} {N N' : Nat} {γ γ' : Nat → Option Addr} {d : D} {v : Value} (h : Rep w A N γ d v)
    (hw : ∀ b, ¬ A b → b < w.heap.size → w'.heap[b]? = w.heap[b]?) (hA : ∀ b, b < w.heap.size → A' b → A b) (hN : N' ≤ N)
    (hs : w.heap.size ≤ w'.heap.size) (hγ : ∀ n a, γ n = some a → γ' n = some a) : Rep w' A' N' γ' d v := by
  induction h with
  | undef v => exact .undef v
  | bool b => exact .bool b
  | int k n => exact .int k n
  | str s => exact .str s
  | nilp => exact .nilp
  | nilfn => exact .nilfn
  | agg cs vs h1 _ h3 ih => exact .agg cs vs h1 ih h3
  | tup cs vs h1 _ ih => exact .tup cs vs h1 ih
  | fn f a b va vb h1 h2 _ _ ih1 ih2 => exact .fn f a b va vb h1 h2 ih1 ih2
  | slE t a cap h => exact .slE t a cap h
  | sl t l b o sz cap vs h1 h2 h3 h4 h5 h6 _ h8 ih =>
    exact .sl t l b o sz cap vs h1 h2 h3 (fun hb => h4 (hA b h6 hb)) (fun ht => Nat.le_trans hN (h5 ht)) (by omega) ih
      (fun i hi => ⟨(h8 i hi).1, (h8 i hi).2.mono (hw b h4 h6)⟩)
  | at_ d v b o h1 h2 h3 _ ih => exact .at_ d v b o (fun hb => h1 (hA b h2 hb)) (by omega) (h3.mono (hw b h1 h2)) ih
  | h n off b o hn => exact .h n off b o (hγ _ _ hn)

/-- All data of a list, one by one. -/
def Reps (w : World) (A : Nat → Prop) (N : Nat) (γ : Nat → Option Addr) (ds : List D) (vs : List Value) : Prop :=
  vs.length = ds.length ∧ ∀ (i : Nat) (d : D) (v : Value), ds[i]? = some d → vs[i]? = some v → Rep w A N γ d v

theorem Reps.nil {w A N γ} : Reps w A N γ [] [] := ⟨rfl, by simp⟩
theorem Reps.cons {w A N γ d v ds vs} (h : Rep w A N γ d v) (hs : Reps w A N γ ds vs) : Reps w A N γ (d :: ds) (v :: vs) :=
  ⟨by simp [hs.1], fun i d' v' hd hv => by
    cases i with
    | zero => simp at hd hv; subst hd; subst hv; exact h
    | succ i => exact hs.2 i d' v' (by simpa using hd) (by simpa using hv)⟩

theorem Reps.cons_inv {w A N γ d ds vs} (h : Reps w A N γ (d :: ds) vs) : ∃ v vs', vs = v :: vs' ∧ Rep w A N γ d v ∧ Reps w A N γ ds vs' := by
  obtain ⟨h1, h2⟩ := h
  cases vs with
  | nil => simp at h1
  | cons v vs => exact ⟨v, vs, rfl, h2 0 d v (by simp) (by simp), by simpa using h1, fun i d' v' hd hv => h2 (i + 1) d' v' (by simpa using hd) (by simpa using hv)⟩

theorem Reps.nil_inv {w A N γ vs} (h : Reps w A N γ [] vs) : vs = [] := by
  have := h.1; simpa using this

theorem Reps.mono {w w' : World} {A A' : Nat → Prop} {N N' : Nat} {γ γ' : Nat → Option Addr} {ds : List D} {vs : List Value} (h : Reps w A N γ ds vs)
    (hw : ∀ b, ¬ A b → b < w.heap.size → w'.heap[b]? = w.heap[b]?) (hA : ∀ b, b < w.heap.size → A' b → A b) (hN : N' ≤ N)
    (hs : w.heap.size ≤ w'.heap.size) (hγ : ∀ n a, γ n = some a → γ' n = some a) : Reps w' A' N' γ' ds vs :=
  ⟨h.1, fun i d v hd hv => (h.2 i d v hd hv).mono hw hA hN hs hγ⟩

theorem Reps.append {w A N γ ds vs ds' vs'} (h : Reps w A N γ ds vs) (h' : Reps w A N γ ds' vs') : Reps w A N γ (ds ++ ds') (vs ++ vs') := by
  refine ⟨by simp [h.1, h'.1], fun i d v hd hv => ?_⟩
  by_cases hi : i < ds.length
  · rw [List.getElem?_append_left hi] at hd
    rw [List.getElem?_append_left (by rw [h.1]; exact hi)] at hv
    exact h.2 i d v hd hv
  · rw [List.getElem?_append_right (by omega)] at hd
    rw [List.getElem?_append_right (by rw [h.1]; omega), h.1] at hv
    exact h'.2 _ d v hd hv

def D.isAgg : D → Bool
  | .agg _ => true
  | _ => false

def D.width : D → Nat
  | .agg cs => cs.length
  | _ => 1

/-- Data whose value is one cell. -/
def D.cell : D → Bool
  | .agg _ | .tup _ | .undef => false
  | _ => true

theorem Rep.cell {w A N γ d v} (h : Rep w A N γ d v) (hd : d.cell = true) : v.oneCell' = true := by
  cases h <;> simp_all [D.cell, Value.oneCell']

theorem cells_of_one {v : Value} (h : v.oneCell' = true) : v.cells = #[v] := by
  cases v <;> simp_all [Value.oneCell', Value.cells]

end Wf
