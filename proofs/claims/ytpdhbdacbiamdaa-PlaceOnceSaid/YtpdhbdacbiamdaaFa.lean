/-
  Plain data that Go's values read as, and what it means that a value reads as such data in a world.
-/
import Derived.WalkKit
import Derived.Deep.QuietTactic
import Derived.Laws.StructEq
set_option linter.unusedVariables false
set_option linter.unusedSimpArgs false
set_option linter.unnecessarySimpa false
namespace Wf
open Go Go.RowKit

inductive Tag where
  | lent | fresh | full | own
  deriving DecidableEq, Inhabited

/-- Data without addresses: what a value reads as. -/
inductive D where
  | undef
  | bool (b : Bool)
  | int (k : IntKind) (n : Int)
  | str (s : ByteArray)
  | agg (cs : List D)
  | sl (t : Tag) (l : List D)
  | nilp
  | at_ (d : D)
  | fn (f : FuncId) (first caps : List D)
  | nilfn
  | tup (l : List D)
  | h (n off : Nat)
  deriving Inhabited

def cellsAt (w : World) (b o : Nat) (v : Value) : Prop := ∀ j u, v.cells[j]? = some u → w.cell? ⟨b, o + j, none⟩ = some u

/-- Value v reads as d in world w. A: blocks that may turn. N: what is new lies from here on. γ: handles. -/
inductive Rep (w : World) (A : Nat → Prop) (N : Nat) (γ : Nat → Option Addr) : D → Value → Prop where
  | undef (v) : Rep w A N γ .undef v
  | bool (b) : Rep w A N γ (.bool b) (.bool b)
  | int (k n) : Rep w A N γ (.int k n) (.int k n)
  | str (s) : Rep w A N γ (.str s) (.string s)
  | nilp : Rep w A N γ .nilp (.pointer none)
  | nilfn : Rep w A N γ .nilfn .nilFunc
  | agg (cs : List D) (vs : Array Value) : vs.size = cs.length → (∀ (i : Nat) (d : D) (v : Value), cs[i]? = some d → vs[i]? = some v → Rep w A N γ d v) →
      (∀ (i : Nat) (v : Value), vs[i]? = some v → v.oneCell' = true) → Rep w A N γ (.agg cs) (.agg vs)
  | tup (cs : List D) (vs : Array Value) : vs.size = cs.length → (∀ (i : Nat) (d : D) (v : Value), cs[i]? = some d → vs[i]? = some v → Rep w A N γ d v) → Rep w A N γ (.tup cs) (.tuple vs)
  | fn (f) (a b : List D) (va vb : Array Value) : va.size = a.length → vb.size = b.length → (∀ (i : Nat) (d : D) (v : Value), a[i]? = some d → va[i]? = some v → Rep w A N γ d v) →
      (∀ (i : Nat) (d : D) (v : Value), b[i]? = some d → vb[i]? = some v → Rep w A N γ d v) → Rep w A N γ (.fn f a b) (.func (.func f) va vb)
  | slE (t a cap) : (t = .full → cap = 0) → Rep w A N γ (.sl t []) (.slice a 0 cap)
  | sl (t) (l : List D) (b o sz cap : Nat) (vs : Nat → Value) : l ≠ [] → l.length ≤ cap → (t = .full → cap = l.length) → ¬ A b → (t ≠ .lent → N ≤ b) → b < w.heap.size →
      (∀ (i : Nat) (d : D), l[i]? = some d → Rep w A N γ d (vs i)) → (∀ i, i < l.length → (vs i).cells.size = sz ∧ cellsAt w b (o + i * sz) (vs i)) →
      Rep w A N γ (.sl t l) (.slice (some ⟨b, o, none⟩) l.length cap)
  | at_ (d v b o) : ¬ A b → b < w.heap.size → cellsAt w b o v → Rep w A N γ d v → Rep w A N γ (.at_ d) (.pointer (some ⟨b, o, none⟩))
  | h (n off b o) : γ n = some ⟨b, o, none⟩ → Rep w A N γ (.h n off) (.pointer (some ⟨b, o + off, none⟩))

theorem cellsAt.mono {w w' : World} {b o : Nat} {v : Value} (h : cellsAt w b o v) (hb : w'.heap[b]? = w.heap[b]?) : cellsAt w' b o v := by
  intro j u hj
  rw [World.cell?_of_block (w := w) hb]; exact h j u hj

/-- What reads as data goes on to, as long as the blocks that it lies in stay. -/
theorem Rep.mono {w w' : World} {A A' : Nat → Prop} {N N' : Nat} {γ γ' : Nat → Option Addr} {d : D} {v : Value} (h : Rep w A N γ d v)
    (hw : ∀ b, ¬ A b → b < w.heap.size → w'.heap[b]? = w.heap[b]?) (hA : ∀ b, b < w.heap.size → A' b → A b) (hN : N' ≤ N)
    (hs : w.heap.size ≤ w'.heap.size) (hγ : ∀ n a, γ n = some a → γ' n = some a) : Rep w' A' N' γ' d v := by
  induction h with
  | undef v => exact .undef v
  | bool b => exact .bool b
  | int k n => exact .int k n
  | str s => exact .str s
  | nilp => exact .nilp
  | nilfn => exact .nilfn
  | agg cs vs h1 _ h3 ih => exact .agg cs vs h1 ih h3
  | tup cs vs h1 _ ih => exact .tup cs vs h1 ih
  | fn f a b va vb h1 h2 _ _ ih1 ih2 => exact .fn f a b va vb h1 h2 ih1 ih2
  | slE t a cap h => exact .slE t a cap h
  | sl t l b o sz cap vs h1 h2 h3 h4 h5 h6 _ h8 ih =>
    exact .sl t l b o sz cap vs h1 h2 h3 (fun hb => h4 (hA b h6 hb)) (fun ht => Nat.le_trans hN (h5 ht)) (by omega) ih
      (fun i hi => ⟨(h8 i hi).1, (h8 i hi).2.mono (hw b h4 h6)⟩)
  | at_ d v b o h1 h2 h3 _ ih => exact .at_ d v b o (fun hb => h1 (hA b h2 hb)) (by omega) (h3.mono (hw b h1 h2)) ih
  | h n off b o hn => exact .h n off b o (hγ _ _ hn)

/-- All data of a list, one by one. -/
def Reps (w : World) (A : Nat → Prop) (N : Nat) (γ : Nat → Option Addr) (ds : List D) (vs : List Value) : Prop :=
  vs.length = ds.length ∧ ∀ (i : Nat) (d : D) (v : Value), ds[i]? = some d → vs[i]? = some v → Rep w A N γ d v

theorem Reps.nil {w A N γ} : Reps w A N γ [] [] := ⟨rfl, by simp⟩
theorem Reps.cons {w A N γ d v ds vs} (h : Rep w A N γ d v) (hs : Reps w A N γ ds vs) : Reps w A N γ (d :: ds) (v :: vs) :=
  ⟨by simp [hs.1], fun i d' v' hd hv => by
    cases i with
    | zero => simp at hd hv; subst hd; subst hv; exact h
    | succ i => exact hs.2 i d' v' (by simpa using hd) (by simpa using hv)⟩

theorem Reps.cons_inv {w A N γ d ds vs} (h : Reps w A N γ (d :: ds) vs) : ∃ v vs', vs = v :: vs' ∧ Rep w A N γ d v ∧ Reps w A N γ ds vs' := by
  obtain ⟨h1, h2⟩ := h
  cases vs with
  | nil => simp at h1
  | cons v vs => exact ⟨v, vs, rfl, h2 0 d v (by simp) (by simp), by simpa using h1, fun i d' v' hd hv => h2 (i + 1) d' v' (by simpa using hd) (by simpa using hv)⟩

theorem Reps.nil_inv {w A N γ vs} (h : Reps w A N γ [] vs) : vs = [] := by
  have := h.1; simpa using this

theorem Reps.mono {w w' : World} {A A' : Nat → Prop} {N N' : Nat} {γ γ' : Nat → Option Addr} {ds : List D} {vs : List Value} (h : Reps w A N γ ds vs)
    (hw : ∀ b, ¬ A b → b < w.heap.size → w'.heap[b]? = w.heap[b]?) (hA : ∀ b, b < w.heap.size → A' b → A b) (hN : N' ≤ N)
    (hs : w.heap.size ≤ w'.heap.size) (hγ : ∀ n a, γ n = some a → γ' n = some a) : Reps w' A' N' γ' ds vs :=
  ⟨h.1, fun i d v hd hv => (h.2 i d v hd hv).mono hw hA hN hs hγ⟩

theorem Reps.append {w A N γ ds vs ds' vs'} (h : Reps w A N γ ds vs) (h' : Reps w A N γ ds' vs') : Reps w A N γ (ds ++ ds') (vs ++ vs') := by
  refine ⟨by simp [h.1, h'.1], fun i d v hd hv => ?_⟩
  by_cases hi : i < ds.length
  · rw [List.getElem?_append_left hi] at hd
    rw [List.getElem?_append_left (by rw [h.1]; exact hi)] at hv
    exact h.2 i d v hd hv
  · rw [List.getElem?_append_right (by omega)] at hd
    rw [List.getElem?_append_right (by rw [h.1]; omega), h.1] at hv
    exact h'.2 _ d v hd hv

def D.isAgg : D → Bool
  | .agg _ => true
  | _ => false

def D.width : D → Nat
  | .agg cs => cs.length
  | _ => 1

/-- Data whose value is one cell. -/
def D.cell : D → Bool
  | .agg _ | .tup _ | .undef => false
  | _ => true

theorem Rep.cell {w A N γ d v} (h : Rep w A N γ d v) (hd : d.cell = true) : v.oneCell' = true := by
  cases h <;> simp_all [D.cell, Value.oneCell']

theorem cells_of_one {v : Value} (h : v.oneCell' = true) : v.cells = #[v] := by
  cases v <;> simp_all [Value.oneCell', Value.cells]

end Wf

/-
  Two numbers as one: for maps whose keys are pairs.
-/
namespace Wf

theorem two_odd : ∀ (x x' y y' : Nat), 2 ^ x * (2 * y + 1) = 2 ^ x' * (2 * y' + 1) → x = x' ∧ y = y'
  | 0, 0, y, y', h => ⟨rfl, by simp at h; omega⟩
  | 0, x' + 1, y, y', h => by rw [Nat.pow_succ, Nat.mul_comm (2 ^ x') 2, Nat.mul_assoc] at h; generalize 2 ^ x' * (2 * y' + 1) = q at h; simp at h; omega
  | x + 1, 0, y, y', h => by rw [Nat.pow_succ, Nat.mul_comm (2 ^ x) 2, Nat.mul_assoc] at h; generalize 2 ^ x * (2 * y + 1) = q at h; simp at h; omega
  | x + 1, x' + 1, y, y', h => by
    rw [Nat.pow_succ, Nat.mul_comm (2 ^ x) 2, Nat.mul_assoc, Nat.pow_succ, Nat.mul_comm (2 ^ x') 2, Nat.mul_assoc] at h
    have := two_odd x x' y y' (by omega)
    omega
def zig (n : Int) : Nat := if 0 ≤ n then 2 * n.toNat else 2 * (-n).toNat + 1
theorem zig_inj {a b : Int} (h : zig a = zig b) : a = b := by unfold zig at h; split at h <;> split at h <;> omega
/-- A pair's number. -/
def pairF : { f : Int → Int → Int // ∀ a b c d, f a b = f c d ↔ a = c ∧ b = d } :=
  ⟨fun a b => ((2 ^ zig a * (2 * zig b + 1) : Nat) : Int), fun a b c d => by
    constructor
    · intro h
      obtain ⟨h1, h2⟩ := two_odd _ _ _ _ (Int.ofNat.inj h)
      exact ⟨zig_inj h1, zig_inj h2⟩
    · rintro ⟨rfl, rfl⟩; rfl⟩
def pairKey (a b : Int) : Int := pairF.1 a b
theorem pairKey_inj (a b c d : Int) : pairKey a b = pairKey c d ↔ a = c ∧ b = d := pairF.2 a b c d
/-- What a map's keys are. -/
inductive MK where
  | int (k : Go.IntKind)
  | pair
  deriving DecidableEq
def pairV (a b : Int) : Go.Value := .agg #[.int .i64 a, .int .i64 b]
/-- What a key's value is. -/
def KeyIs : MK → Int → Go.Value → Prop
  | .int k, n, v => v = .int k n
  | .pair, n, v => ∃ a b, n = pairKey a b ∧ v = pairV a b
end Wf

/-
  A machine over plain data: what an operation of a region does, if all goes well.
-/
namespace Wf
open Go Go.RowKit

/-- What a slot holds: data, or a place of the frame's own memory: object g in its n-th life. -/
inductive V where
  | d (x : D)
  | ptr (g n off : Nat)
  | ept (g n i off : Nat)
  | ref (g n off len : Nat)
  | bref (g n off len : Nat)
  | map (g n : Nat)
  | clo (f : FuncId) (first caps : List V)
  | tup (l : List V)
  deriving Inhabited

mutual
def V.ids : V → List Nat
  | .d _ => []
  | .ptr g _ _ | .ept g _ _ _ | .ref g _ _ _ | .bref g _ _ _ | .map g _ => [g]
  | .clo _ a b => V.idsL a ++ V.idsL b
  | .tup l => V.idsL l
def V.idsL : List V → List Nat
  | [] => []
  | v :: r => v.ids ++ V.idsL r
end

/-- The frame's own memory. -/
inductive HObj where
  | dead
  | box (agg : Bool) (ds : List D)
  | vbox (v : V)
  | arr (sz : Nat) (els : List D) (live : Bool)
  | map (k : MK) (es : List (Int × D))
  deriving Inhabited

/-- Of each place its life's number, and what is there. -/
abbrev Loc := Nat → Nat × HObj
def Loc.get (L : Loc) (g n : Nat) : HObj := if (L g).1 = n then (L g).2 else .dead
def Loc.set (L : Loc) (g : Nat) (x : Nat × HObj) : Loc := fun k => if k = g then x else L k
def Loc.new (L : Loc) (g : Nat) : Nat := (L g).1 + 1
abbrev Wr := List (Nat × (Nat × HObj))

/-- Memory that outlives the frame: what can be done with it. -/
structure GMo where
  S : Type
  load : S → Nat → Nat → Nat → Option (List D)
  store : S → Nat → Nat → List D → Option S
/-- .. and what it is. -/
structure GM extends GMo where
  rel : S → (Nat → Option Addr) → (Nat → Prop) → World → Prop
instance : CoeOut GM GMo := ⟨GM.toGMo⟩

/-- What a function answers: sizes of its results' elements, and the answer. -/
inductive Spec (M : GMo) where
  | pure (szs : List Nat) (F : List D → Option D)
  | st (szs : List Nat) (F : List D → M.S → Option (D × M.S))

abbrev Env (M : GMo) := FuncId → Option (Spec M)

def D.flat : D → Bool
  | .bool _ | .int _ _ | .str _ | .nilp | .nilfn | .h _ _ => true
  | .sl .lent [] => true
  | _ => false

-- types
def tyAgg (P : Program) (t : TypeId) : Option Bool :=
  match P.underlying t with
  | some (.struct _) | some (.array _ _) => some true
  | some _ => some false
  | none => none
def tySize (P : Program) (t : TypeId) : Option Nat := (P.info? t).map (·.size)
def tyFld (P : Program) (s f : Nat) : Option (Nat × Nat) :=
  match P.underlying s with
  | some (.struct fs) => (fs[f]?).bind fun x => (P.info? x.type).map fun i => (x.offset, i.size)
  | _ => none
def tyFldAgg (P : Program) (s f : Nat) : Option Bool :=
  match P.underlying s with
  | some (.struct fs) => (fs[f]?).bind fun x => tyAgg P x.type
  | _ => none
def tyElem (P : Program) (t : TypeId) : Option Nat :=
  match P.underlying t with
  | some (.slice e) => (P.info? e).map (·.size)
  | _ => none
def tyArr (P : Program) (t : TypeId) : Option (Nat × Nat × Bool) :=
  match P.underlying t with
  | some (.array n e) => (P.info? e).bind fun i => (tyAgg P e).map fun a => (n, i.size, a)
  | _ => none
def tyStr (P : Program) (t : TypeId) : Bool :=
  match P.underlying t with
  | some .string => true
  | _ => false
def tyBool (P : Program) (t : TypeId) : Bool :=
  match P.underlying t with
  | some .bool => true
  | _ => false
def tyInt (P : Program) (t : TypeId) : Option IntKind :=
  match P.underlying t with
  | some (.int k) => some k
  | _ => none

def cellD : Value → Option D
  | .int k n => some (.int k n)
  | .bool b => some (.bool b)
  | .string s => some (.str s)
  | .pointer none => some .nilp
  | .slice none 0 0 => some (.sl .full [])
  | .nilFunc => some .nilfn
  | _ => none
def valD : Value → Option D
  | .agg cs => (cs.toList.mapM cellD).map .agg
  | v => cellD v
def tyZero (P : Program) (t : TypeId) : Option D := ((P.info? t).bind (·.zero)).bind valD

def evalV (slots : List V) : Operand → V
  | .tmp t => slots.getD t (.d .undef)
  | .const v => match cellD v with
    | some d => .d d
    | none => .d .undef
  | .global _ => .d .undef
  | .func f => .clo f [] []

def V.dat : V → Option D
  | .d x => some x
  | _ => none

/-- The data of a slice, read only. -/
def elsOf (L : Loc) : V → Option (List D)
  | .d (.sl _ l) => some l
  | .ref g n off len => match L.get g n with
    | .arr _ els _ => if off + len ≤ els.length then some ((els.drop off).take len) else none
    | _ => none
  | .bref g n off len => match L.get g n with
    | .box _ ds => if off + len ≤ ds.length then some ((ds.drop off).take len) else none
    | _ => none
  | _ => none

/-- An argument, as the callee reads it. -/
def lend1 (L : Loc) : V → Option D
  | .d x => some x
  | .ref g n off len => (elsOf L (.ref g n off len)).map (.sl .lent)
  | .bref g n off len => (elsOf L (.bref g n off len)).map (.sl .lent)
  | _ => none

def lend2 (L : Loc) : V → Option D
  | .ptr g n off => match off, L.get g n with
    | 0, .box true ds => some (.at_ (.agg ds))
    | 0, .box false [x] => some (.at_ x)
    | 0, .vbox v => (lend1 L v).map .at_
    | _, _ => none
  | v => lend1 L v

def lend (L : Loc) : V → Option D
  | .clo f a b => (a.mapM (lend2 L)).bind fun a' => (b.mapM (lend2 L)).map fun b' => .fn f a' b'
  | v => lend2 L v

structure Out (S : Type) where
  v : V
  wr : Wr := []
  gs : Option S := none

/-- Data for good: what is referred to is written no more. -/
def toD (L : Loc) : V → Option (D × Wr)
  | .d x => some (x, [])
  | .ref g n off len => match L.get g n with
    | .arr sz els _ => if off + len ≤ els.length then some (.sl .fresh ((els.drop off).take len), [(g, (n, .arr sz els false))]) else none
    | _ => none
  | _ => none

def toDs (L : Loc) : List V → Option (List D × Wr)
  | [] => some ([], [])
  | v :: r => (toD L v).bind fun (x, w) => (toDs L r).map fun (xs, ws) => (x :: xs, w ++ ws)

def ibin (op : BinOp) (k : IntKind) (a b : Int) : Option D :=
  match op with
  | .add => some (.int k (k.wrap (a + b)))
  | .sub => some (.int k (k.wrap (a - b)))
  | .mul => some (.int k (k.wrap (a * b)))
  | .quo => if b = 0 then none else some (.int k (k.wrap (a.tdiv b)))
  | .rem => if b = 0 then none else some (.int k (a.tmod b))
  | .and => some (.int k (bits .and k a b))
  | .or => some (.int k (bits .or k a b))
  | .xor => some (.int k (bits .xor k a b))
  | .andNot => some (.int k (bits .andNot k a b))
  | .eql => some (.bool (a == b))
  | .neq => some (.bool (a != b))
  | .lss => some (.bool (decide (a < b)))
  | .leq => some (.bool (decide (a ≤ b)))
  | .gtr => some (.bool (decide (a > b)))
  | .geq => some (.bool (decide (a ≥ b)))
  | _ => none

def ishift (op : BinOp) (k : IntKind) (a b : Int) : Option D :=
  if b < 0 then none else
  match op with
  | .shl => some (.int k (k.wrap (a * 2 ^ min b.toNat k.bits)))
  | .shr => some (.int k (a.fdiv (2 ^ min b.toNat k.bits)))
  | _ => none

def abin (bt : Bool) (op : BinOp) (a b : D) : Option D :=
  match op, a, b with
  | .shl, .int k x, .int _ y | .shr, .int k x, .int _ y => ishift op k x y
  | _, .int k x, .int k' y => if k = k' then ibin op k x y else none
  | .eql, .bool x, .bool y => if bt then some (.bool (x == y)) else none
  | .neq, .bool x, .bool y => if bt then some (.bool (x != y)) else none
  | _, _, _ => none

def aun (op : UnOp) (a : D) : Option D :=
  match op, a with
  | .neg, .int k n => some (.int k (k.wrap (0 - n)))
  | .not, .bool b => some (.bool !b)
  | .xor, .int k n => some (.int k (bits .xor k (if k.signed then -1 else k.max) n))
  | _, _ => none

/-- Parts laid over zeros. -/
def lay (places : Nat → Option (Nat × Nat)) : List D → List (Nat × D) → Option (List D)
  | cs, [] => some cs
  | cs, (i, d) :: r => match places i with
    | none => none
    | some (off, size) =>
      match d with
      | .agg xs => if xs.length = size ∧ off + size ≤ cs.length then lay places (cs.take off ++ xs ++ cs.drop (off + size)) r else none
      | .undef | .tup _ => none
      | x => if size = 1 ∧ off + 1 ≤ cs.length then lay places (cs.set off x) r else none

def partD (agg : Bool) (size off : Nat) (cs : List D) : Option D :=
  if agg then (if off + size ≤ cs.length then some (.agg ((cs.drop off).take size)) else none) else cs[off]?

/-- '==' by type. -/
def aeqFs (P : Program) (eq : TypeId → D → D → Option Bool) (xs ys : List D) : List Field → Option Bool
  | [] => some true
  | f :: fs => if f.name = "_" then none else match tyAgg P f.type, tySize P f.type with
    | some ag, some n => match partD ag n f.offset xs, partD ag n f.offset ys with
      | some x, some y => (eq f.type x y).bind fun r => (aeqFs P eq xs ys fs).map fun s => r && s
      | _, _ => none
    | _, _ => none

def aeq (P : Program) : Nat → TypeId → D → D → Option Bool
  | 0, _, _, _ => none
  | d + 1, t, x, y => match P.underlying t with
    | some (.int _) => match x, y with
      | .int k a, .int k' b => if k = k' then some (a == b) else none
      | _, _ => none
    | some .bool => match x, y with
      | .bool a, .bool b => some (a == b)
      | _, _ => none
    | some (.struct fs) => match x, y with
      | .agg xs, .agg ys => if P.stoodInHeld t then none else aeqFs P (aeq P d) xs ys fs.toList
      | _, _ => none
    | _ => none

/-- Results that a call hands over: new rows are the frame's own from then on. -/
def adopt1 (L : Loc) (id sz : Nat) : D → V × Wr
  | .sl .own els => (.ref id (L.new id) 0 els.length, [(id, (L.new id, .arr sz els true))])
  | x => (.d x, [])

def adoptL (L : Loc) (t j : Nat) : List Nat → List D → List V × Wr
  | sz :: szs, d :: ds =>
    let r := adopt1 L (t + 1000 * (j + 1)) sz d
    let rs := adoptL L t (j + 1) szs ds
    (r.1 :: rs.1, r.2 ++ rs.2)
  | _, _ => ([], [])

def adopt (L : Loc) (t : Nat) (szs : List Nat) (r : D) : Option (V × Wr) :=
  match r with
  | .tup ds => if szs.length = ds.length ∧ ds.length ≤ 4 then some (.tup (adoptL L t 0 szs ds).1, (adoptL L t 0 szs ds).2) else none
  | d => match szs with
    | [sz] => some (adopt1 L t sz d)
    | _ => none

end Wf

/-
  One operation of the machine over plain data; a list of them; code.
-/
namespace Wf
open Go Go.RowKit

section
variable {M : GMo}

/-- A load through a place. -/
def aload (P : Program) (M : GMo) (L : Loc) (G : Option M.S) (t : TypeId) (p : V) : Option V :=
  match tyAgg P t, tySize P t with
  | some ag, some n =>
    match p with
    | .d (.at_ x) => if x.isAgg = ag ∧ x.width = n ∧ x.cell = !ag then some (.d x) else none
    | .d (.h k off) => (G.bind fun s => M.load s k off n).bind fun ds => if ag then some (.d (.agg ds)) else match ds with
      | [x] => some (.d x)
      | _ => none
    | .ptr g l off => match L.get g l with
      | .box _ ds => (partD ag n off ds).map .d
      | .vbox v => if ag = false ∧ off = 0 then some v else none
      | _ => none
    | .ept g l i off => match L.get g l with
      | .arr _ els _ => (els[i]?).bind fun x => match x with
        | .agg cs => (partD ag n off cs).map .d
        | .undef | .tup _ => none
        | x => if ag = false ∧ off = 0 then some (.d x) else none
      | _ => none
    | _ => none
  | _, _ => none

/-- A store through a place. -/
def astore (P : Program) (M : GMo) (L : Loc) (G : Option M.S) (t : TypeId) (p v : V) : Option (Out M.S) :=
  match tyAgg P t, tySize P t with
  | some ag, some n =>
    match p with
    | .ptr g l off => match L.get g l with
      | .box a ds => match v with
        | .d (.agg xs) => if ag = true ∧ xs.length = n ∧ off + n ≤ ds.length then some { v := .d (.tup []), wr := [(g, (l, .box a (ds.take off ++ xs ++ ds.drop (off + n))))] } else none
        | .ref g' l' off' len' => if ag = false ∧ n = 1 ∧ off = 0 ∧ ds.length = 1 ∧ a = false then some { v := .d (.tup []), wr := [(g, (l, .vbox (.ref g' l' off' len')))] } else none
        | .d x => if ag = false ∧ n = 1 ∧ x.cell = true ∧ off < ds.length then some { v := .d (.tup []), wr := [(g, (l, .box a (ds.set off x)))] } else none
        | _ => none
      | .vbox _ => match v with
        | .ref g' l' off' len' => if ag = false ∧ n = 1 ∧ off = 0 then some { v := .d (.tup []), wr := [(g, (l, .vbox (.ref g' l' off' len')))] } else none
        | .d x => if ag = false ∧ n = 1 ∧ x.cell = true ∧ off = 0 then some { v := .d (.tup []), wr := [(g, (l, .box false [x]))] } else none
        | _ => none
      | _ => none
    | .ept g l i off => match L.get g l with
      | .arr sz els true => match els[i]?, v with
        | some _, .d (.agg xs) => if ag = true ∧ xs.length = n ∧ off = 0 ∧ n = sz then some { v := .d (.tup []), wr := [(g, (l, .arr sz (els.set i (.agg xs)) true))] } else none
        | some (.agg cs), .d x => if ag = false ∧ n = 1 ∧ x.cell = true ∧ off < cs.length then some { v := .d (.tup []), wr := [(g, (l, .arr sz (els.set i (.agg (cs.set off x))) true))] } else none
        | some _, .d x => if ag = false ∧ n = 1 ∧ x.cell = true ∧ off = 0 ∧ sz = 1 then some { v := .d (.tup []), wr := [(g, (l, .arr sz (els.set i x) true))] } else none
        | some _, .ref g' l' off' len' => if ag = false ∧ n = 1 ∧ off = 0 ∧ sz = 1 ∧ g ≠ g' then (toD L (.ref g' l' off' len')).map fun r => { v := .d (.tup []), wr := r.2 ++ [(g, (l, .arr sz (els.set i r.1) true))] } else none
        | _, _ => none
      | _ => none
    | .d (.h k off) => match v with
      | .d (.agg xs) => if ag = true ∧ xs.length = n ∧ xs.all D.flat then (G.bind fun s => M.store s k off xs).map fun s => { v := .d (.tup []), gs := some s } else none
      | .d x => if ag = false ∧ n = 1 ∧ x.flat = true then (G.bind fun s => M.store s k off [x]).map fun s => { v := .d (.tup []), gs := some s } else none
      | _ => none
    | _ => none
  | _, _ => none

/-- What append wants of its element type: its size, and that there is room. -/
def appendTy (P : Program) (ty : TypeId) (n : Nat) : Option Nat :=
  match P.underlying ty with
  | some (.slice e) => match P.info? e, tyZero P e with
    | some i, some z => if 0 < i.size ∧ z.width = i.size ∧ (z.cell || z.isAgg) = true ∧ i.bytes ≤ 4096 ∧ n ≤ 2 ^ 32 then some i.size else none
    | _, _ => none
  | _ => none

def okEls (sz : Nat) (l : List D) : Bool := l.all fun d => d.width == sz && (d.cell || d.isAgg)

def tyKey (P : Program) (kt : TypeId) : Option MK :=
  match P.underlying kt with
  | some (.int k) => some (.int k)
  | some (.array n e) => if n = 2 ∧ tyInt P e = some .i64 ∧ tySize P e = some 1 then some .pair else none
  | _ => none
def keyOf : MK → V → Option Int
  | .int k, .d (.int k' n) => if k = k' then some n else none
  | .pair, .d (.agg [.int .i64 a, .int .i64 b]) => some (pairKey a b)
  | _, _ => none
def tyMap (P : Program) (t : TypeId) : Option (MK × TypeId) :=
  match P.underlying t with
  | some (.map kt et) => (tyKey P kt).map fun k => (k, et)
  | _ => none

def alen (P : Program) (L : Loc) (ty : TypeId) : V → Option Nat
  | .d (.str s) => if tyStr P ty = true then some s.size else none
  | .map g l => if (tyMap P ty).isSome = true then (match L.get g l with
    | .map _ es => some es.length
    | _ => none) else none
  | v => if (tyElem P ty).isSome = true then (elsOf L v).map List.length else none

/-- append(s, x...): t is the row that comes of it. -/
def aappend (P : Program) (L : Loc) (t : Nat) (ty : TypeId) (s x : V) : Option (Out M.S) :=
  match elsOf L x with
  | some xs =>
    match s with
    | .d (.sl .full []) => (appendTy P ty xs.length).bind fun sz => if okEls sz xs then some { v := .ref t (L.new t) 0 xs.length, wr := [(t, (L.new t, .arr sz xs true))] } else none
    | .d (.sl .full (y :: l)) => match xs with
      | [] => none
      | _ => (appendTy P ty ((y :: l).length + xs.length)).bind fun sz => if okEls sz xs ∧ okEls sz (y :: l) then
          some { v := .ref t (L.new t) 0 ((y :: l).length + xs.length), wr := [(t, (L.new t, .arr sz (y :: l ++ xs) true))] } else none
    | .ref g n off len => match off, L.get g n with
      | 0, .arr sz' els true => (appendTy P ty (len + xs.length)).bind fun sz => if okEls sz xs ∧ len = els.length ∧ sz' = sz then
          some { v := .ref t (L.new t) 0 (len + xs.length), wr := [(g, (n, .dead)), (t, (L.new t, .arr sz (els ++ xs) true))] } else none
      | _, _ => none
    | _ => none
  | none => none

def acopy (P : Program) (L : Loc) (ty : TypeId) (s x : V) : Option (Out M.S) :=
  match s, elsOf L x, tyElem P ty with
  | .ref g n off len, some xs, some ez => match L.get g n with
    | .arr sz els true => if off + len ≤ els.length ∧ sz = 1 ∧ ez = 1 ∧ xs.all (fun d => d.cell) then
        some { v := .d (.int .i64 ((min xs.length len : Nat) : Int)), wr := [(g, (n, .arr sz (els.take off ++ xs.take len ++ els.drop (off + (xs.take len).length)) true))] } else none
    | _ => none
  | _, _, _ => none

def optD : Option V → Option (Option Int)
  | none => some none
  | some (.d (.int _ n)) => some (some n)
  | _ => none

def sliceTag (tg : Tag) (mx whole : Bool) : Tag :=
  match tg with
  | .lent => .lent
  | .full => if mx || whole then .full else .fresh
  | _ => if mx then .full else .fresh

theorem sliceTag_full {tg : Tag} {mx whole : Bool} (h : sliceTag tg mx whole = .full) : mx = true ∨ (tg = .full ∧ whole = true) := by
  cases tg <;> cases mx <;> cases whole <;> simp_all [sliceTag]
theorem sliceTag_lent {tg : Tag} {mx whole : Bool} (h : sliceTag tg mx whole ≠ .lent) : tg ≠ .lent := by
  rintro rfl; exact h rfl

/-- x[lo:hi:max]. -/
def aslice (P : Program) (L : Loc) (t : TypeId) (x : V) (lo hi mx : Option V) : Option V :=
  match optD lo, optD hi, optD mx with
  | some lo, some hi, some mx =>
    match x with
    | .d (.sl tg l) =>
      let h := hi.getD l.length
      let a := lo.getD 0
      let m := mx.getD h
      if (tyElem P t).isSome ∧ 0 ≤ a ∧ a ≤ h ∧ h ≤ l.length ∧ m = h ∧ (mx.isNone || hi.isSome) = true ∧ l.all (fun d => d.cell || d.isAgg) ∧ l.all (fun d => some d.width = tyElem P t) then
        some (.d (.sl (sliceTag tg mx.isSome (decide (h = l.length))) ((l.drop a.toNat).take (h - a).toNat))) else none
    | .d (.str s) =>
      let h := hi.getD s.size
      let a := lo.getD 0
      if tyStr P t = true ∧ mx = none ∧ 0 ≤ a ∧ a ≤ h ∧ h ≤ s.size then some (.d (.str (s.extract a.toNat h.toNat))) else none
    | .ref g n off len =>
      let h := hi.getD len
      let a := lo.getD 0
      match tyElem P t, L.get g n with
      | some sz, .arr sz' _ _ => if sz = sz' ∧ mx = none ∧ 0 ≤ a ∧ a ≤ h ∧ h ≤ len then some (.ref g n (off + a.toNat) (h - a).toNat) else none
      | _, _ => none
    | .ptr g n off => match off, tyArr P t, L.get g n with
      | 0, some (k, sz, _), .box _ ds =>
        let h := hi.getD k
        let a := lo.getD 0
        if k = ds.length ∧ sz = 1 ∧ mx = none ∧ 0 ≤ a ∧ a ≤ h ∧ h ≤ k ∧ (a = 0 ∨ a < k) then some (.bref g n a.toNat (h - a).toNat) else none
      | _, _, _ => none
    | _ => none
  | _, _, _ => none

def aindexAddr (P : Program) (L : Loc) (t : TypeId) (x i : V) : Option V :=
  match i with
  | .d (.int _ i) => if i < 0 then none else
    match x with
    | .d (.sl _ l) => match tyElem P t, l[i.toNat]? with
      | some sz, some d => if d.width = sz ∧ (d.cell || d.isAgg) = true then some (.d (.at_ d)) else none
      | _, _ => none
    | .ref g l off n => match tyElem P t, L.get g l with
      | some sz, .arr sz' _ _ => if i.toNat < n ∧ sz' = sz then some (.ept g l (off + i.toNat) 0) else none
      | _, _ => none
    | .bref g l off n => match tyElem P t with
      | some sz => if sz = 1 ∧ i.toNat < n then some (.ptr g l (off + i.toNat)) else none
      | none => none
    | .ptr g l off => match tyArr P t with
      | some (n, sz, _) => if i.toNat < n then some (.ptr g l (off + i.toNat * sz)) else none
      | none => none
    | .d (.at_ (.agg cs)) => match tyArr P t with
      | some (n, sz, ag) => if i.toNat < n then (partD ag sz (i.toNat * sz) cs).map fun d => .d (.at_ d) else none
      | none => none
    | .d (.h k off) => match tyArr P t with
      | some (n, sz, _) => if i.toNat < n then some (.d (.h k (off + i.toNat * sz))) else none
      | none => none
    | _ => none
  | _ => none

def afieldAddr (P : Program) (s : TypeId) (x : V) (f : Nat) : Option V :=
  match tyFld P s f, tyFldAgg P s f with
  | some (off, size), some ag => if size = 0 then none else
    match x with
    | .ptr g l o => some (.ptr g l (o + off))
    | .ept g l i o => some (.ept g l i (o + off))
    | .d (.at_ (.agg cs)) => (partD ag size off cs).map fun d => .d (.at_ d)
    | .d (.h k o) => some (.d (.h k (o + off)))
    | _ => none
  | _, _ => none

/-- Where a composite's parts lie. -/
def placesOf (P : Program) (t : TypeId) : Option (Nat → Option (Nat × Nat)) :=
  match P.underlying t with
  | some (.struct fs) => if (List.range fs.size).all (fun i => (tyFld P t i).isSome) then some fun i => tyFld P t i else none
  | some (.array _ e) => (tySize P e).map fun sz => fun i => some (i * sz, sz)
  | _ => none

def abuild (P : Program) (L : Loc) (t : TypeId) (parts : List (Nat × V)) : Option (Out M.S) :=
  match tyZero P t, toDs L (parts.map (·.2)), placesOf P t with
  | some (.agg zs), some (ds, w), some pl => (lay pl zs ((parts.map (·.1)).zip ds)).map fun cs => { v := .d (.agg cs), wr := w }
  | _, _, _ => none

/-- A slice literal. -/
def abuildSlice (P : Program) (L : Loc) (t : TypeId) (n : Nat) (parts : List (Nat × V)) : Option (Out M.S) :=
  match appendTy P t n, toDs L (parts.map (·.2)) with
  | some sz, some (ds, w) =>
    if parts.map (·.1) = List.range n ∧ n * sz ≤ 2 ^ 24 ∧ okEls sz ds then
      some { v := .d (.sl .full ds), wr := w } else none
  | _, _ => none

def amakeSlice (P : Program) (L : Loc) (t : Nat) (ty : TypeId) (n c : V) : Option (Out M.S) :=
  match P.underlying ty, n, c with
  | some (.slice e), .d (.int .i64 n), .d (.int .i64 c) =>
    match tyZero P e, tySize P e, P.info? e with
    | some z, some sz, some i => if 0 ≤ n ∧ n = c ∧ n * i.bytes ≤ 2 ^ 47 ∧ n ≤ 2 ^ 47 ∧ z.width = sz ∧ 0 < sz then
        some { v := .ref t (L.new t) 0 n.toNat, wr := [(t, (L.new t, .arr sz (List.replicate n.toNat z) true))] } else none
    | _, _, _ => none
  | _, _, _ => none

def findD (n : Int) : List (Int × D) → Option D
  | [] => none
  | (a, v) :: r => if n = a then some v else findD n r

def setD (n : Int) (v : D) : List (Int × D) → List (Int × D)
  | [] => [(n, v)]
  | (a, u) :: r => if n = a then (n, v) :: r else (a, u) :: setD n v r

def amapUpdate (P : Program) (L : Loc) (t : TypeId) (m k v : V) : Option (Out M.S) :=
  match tyMap P t, m with
  | some (kk, _), .map g l => match L.get g l, toD L v, keyOf kk k with
    | .map ok es, some (x, w), some n => if ok = kk ∧ g ∉ v.ids then some { v := .d (.tup []), wr := w ++ [(g, (l, .map kk (setD n x es)))] } else none
    | _, _, _ => none
  | _, _ => none

def alookup (P : Program) (L : Loc) (t : TypeId) (m k : V) (ok : Bool) : Option V :=
  match tyMap P t, m with
  | some (kk, et), .map g l => match L.get g l, tyZero P et, keyOf kk k with
    | .map mk es, some z, some n => if mk = kk then
        (match findD n es with
        | some x => some (if ok then .d (.tup [x, .bool true]) else .d x)
        | none => some (if ok then .d (.tup [z, .bool false]) else .d z)) else none
    | _, _, _ => none
  | _, _ => none

def acallee : V → Option (FuncId × List V × List V)
  | .clo f a b => some (f, a, b)
  | .d (.fn f a b) => some (f, a.map .d, b.map .d)
  | _ => none

def acall (Γ : Env M) (L : Loc) (G : Option M.S) (t : Nat) (f : V) (args : List V) : Option (Out M.S) :=
  match acallee f with
  | some (k, a, b) => match (a ++ args ++ b).mapM (lend L), Γ k with
    | some ds, some (.pure szs F) => (F ds).bind fun r => (adopt L t szs r).map fun x => { v := x.1, wr := x.2 }
    | some ds, some (.st szs F) => (G.bind fun s => F ds s).bind fun r => (adopt L t szs r.1).map fun x => { v := x.1, wr := x.2, gs := some r.2 }
    | _, _ => none
  | none => none

def okRef (L : Loc) : V → Bool
  | .ref g n off len => (elsOf L (.ref g n off len)).isSome
  | _ => true

def okPtr (L : Loc) : V → Bool
  | .ptr g n _ => match L.get g n with
    | .box .. | .vbox _ => true
    | _ => false
  | .ept g n i _ => match L.get g n with
    | .arr _ els _ => decide (i < els.length)
    | _ => false
  | .bref g n _ _ => match L.get g n with
    | .box .. => true
    | _ => false
  | _ => true

def out (v : Option V) : Option (Out M.S) := v.map fun v => { v }

/-- What an operation does. -/
def aop (P : Program) (Γ : Env M) (o : Oper) (ρ : Operand → V) (L : Loc) (G : Option M.S) : Option (Out M.S) :=
  let t := o.dst.getD 0
  match o.op with
  | .move x | .assign x => some { v := ρ x }
  | .pick c a b => match ρ c with
    | .d (.bool b') => some { v := if b' then ρ a else ρ b }
    | _ => none
  | .alloc e => match tyZero P e with
    | some (.agg cs) => some { v := .ptr t (L.new t) 0, wr := [(t, (L.new t, .box true cs))] }
    | some x => if x.cell then some { v := .ptr t (L.new t) 0, wr := [(t, (L.new t, .box false [x]))] } else none
    | none => none
  | .box _ x => match ρ x with
    | .d (.agg cs) => some { v := .ptr t (L.new t) 0, wr := [(t, (L.new t, .box true cs))] }
    | .d x => if x.cell then some { v := .ptr t (L.new t) 0, wr := [(t, (L.new t, .box false [x]))] } else none
    | .ref g n off len => if okRef L (.ref g n off len) then some { v := .ptr t (L.new t) 0, wr := [(t, (L.new t, .vbox (.ref g n off len)))] } else none
    | _ => none
  | .build ty ps => abuild P L ty (ps.toList.map fun (i, x) => (i, ρ x))
  | .buildSlice ty n ps => abuildSlice P L ty n (ps.toList.map fun (i, x) => (i, ρ x))
  | .load ty a => out (aload P M L G ty (ρ a))
  | .store ty a x => if okRef L (ρ x) then astore P M L G ty (ρ a) (ρ x) else none
  | .binOp op ty x y _ => match ρ x, ρ y with
    | .d (.agg a), .d (.agg b) => if P.eqGuardType P.depth ty then none else match op with
      | .eql => out ((aeq P 5 ty (.agg a) (.agg b)).map fun r => .d (.bool r))
      | .neq => out ((aeq P 5 ty (.agg a) (.agg b)).map fun r => .d (.bool !r))
      | _ => none
    | .d a, .d b => out ((abin (tyBool P ty) op a b).map .d)
    | _, _ => none
  | .unOp op _ x => match ρ x with
    | .d a => out ((aun op a).map .d)
    | _ => none
  | .convert src dst x => match tyInt P src, tyInt P dst, ρ x with
    | some _, some k, .d (.int _ n) => some { v := .d (.int k (k.wrap n)) }
    | _, _, _ => none
  | .makeFunc (.func f) a b => some { v := .clo f (a.toList.map ρ) (b.toList.map ρ) }
  | .makeMap ty none => match tyMap P ty with
    | some (k, _) => some { v := .map t (L.new t), wr := [(t, (L.new t, .map k []))] }
    | none => none
  | .makeSlice ty n c => amakeSlice P L t ty (ρ n) (ρ c)
  | .slice ty x lo hi mx => out (aslice P L ty (ρ x) (lo.map ρ) (hi.map ρ) (mx.map ρ))
  | .fieldAddr s x f => if okPtr L (ρ x) then out (afieldAddr P s (ρ x) f) else none
  | .field s x f => match ρ x, tyFld P s f, tyFldAgg P s f with
    | .d (.agg cs), some (off, size), some ag => out ((partD ag size off cs).map .d)
    | _, _, _ => none
  | .indexAddr ty x i => if okPtr L (ρ x) then out (aindexAddr P L ty (ρ x) (ρ i)) else none
  | .index ty x i => match ρ x, ρ i with
    | .d (.agg cs), .d (.int _ n) => match tyArr P ty with
      | some (k, sz, ag) => if 0 ≤ n ∧ n < k then out ((partD ag sz (n.toNat * sz) cs).map .d) else none
      | none => none
    | _, _ => none
  | .lookup ty m k ok => out (alookup P L ty (ρ m) (ρ k) ok)
  | .mapUpdate ty m k v | .insert ty m k v => amapUpdate P L ty (ρ m) (ρ k) (ρ v)
  | .extract x i => match ρ x with
    | .d (.tup l) => out ((l[i]?).map .d)
    | .tup l => out l[i]?
    | _ => none
  | .nilCheck x => match ρ x with
    | .ptr g n o => if okPtr L (.ptr g n o) then some { v := .ptr g n o } else none
    | .ept g n i o => if okPtr L (.ept g n i o) then some { v := .ept g n i o } else none
    | .d (.h n o) => some { v := .d (.h n o) }
    | .d (.at_ x) => some { v := .d (.at_ x) }
    | .clo f a b => some { v := .clo f a b }
    | .d (.fn f a b) => some { v := .d (.fn f a b) }
    | _ => none
  | .call { callee := .builtin .len, args, argTypes } => match args.toList, argTypes.toList with
    | [x], [ty] => (alen P L ty (ρ x)).map fun n => { v := .d (.int .i64 n) }
    | _, _ => none
  | .call { callee := .builtin .min, args, .. } => match args.toList.map ρ with
    | [.d (.int .i64 a), .d (.int .i64 b)] => some { v := .d (.int .i64 (min a b)) }
    | _ => none
  | .call { callee := .builtin .max, args, .. } => match args.toList.map ρ with
    | [.d (.int .i64 a), .d (.int .i64 b)] => some { v := .d (.int .i64 (max a b)) }
    | _ => none
  | .call { callee := .builtin .append, args, argTypes } => match args.toList, argTypes.toList with
    | [s, x], [ty, ty2] => if (tyElem P ty2).isSome then aappend P L t ty (ρ s) (ρ x) else none
    | _, _ => none
  | .call { callee := .builtin .copy, args, argTypes } => match args.toList, argTypes.toList with
    | [s, x], ty :: _ => acopy P L ty (ρ s) (ρ x)
    | _, _ => none
  | .call { callee := .value f, args, .. } => acall Γ L G t (ρ f) (args.toList.map ρ)
  | _ => none

end
end Wf

/-
  The machine over plain data: one step, a region, code.
-/
namespace Wf
open Go Go.RowKit

structure St (M : GMo) where
  slots : List V
  L : Loc
  G : M.S

/-- What a step looks at, and turns (g: 0: not the memory beyond the frame, 1: reads it, 2: turns it). -/
structure Foot where
  rd : List Nat := []
  wr : List Nat := []
  g : Nat := 0

def Foot.quiet (f : Foot) : Bool := f.wr.isEmpty && f.g != 2
def indep (a b : Foot) : Bool :=
  (a.wr.all fun g => !(b.rd.contains g) && !(b.wr.contains g)) && (b.wr.all fun g => !(a.rd.contains g)) && (a.g == 0 || b.g == 0 || (a.g == 1 && b.g == 1))

def looksL : Op → Bool
  | .load .. | .store .. | .indexAddr .. | .fieldAddr .. | .nilCheck _ | .slice .. | .lookup .. | .mapUpdate .. | .insert .. | .build .. | .buildSlice .. | .box .. => true
  | .call { callee := .builtin .append, .. } | .call { callee := .builtin .copy, .. } | .call { callee := .builtin .len, .. } | .call { callee := .value _, .. } => true
  | _ => false
def makesL : Op → Nat
  | .alloc .. | .box .. | .makeMap .. | .makeSlice .. | .call { callee := .builtin .append, .. } => 1
  | .call { callee := .value _, .. } => 5
  | _ => 0

def rdOf (o : Oper) (vs : List V) (L : Loc) : List Nat :=
  (if looksL o.op then (V.idsL vs).flatMap fun g => g :: (match (L g).2 with | .vbox v => v.ids | _ => []) else []) ++
  (match makesL o.op with
   | 0 => []
   | 1 => [o.dst.getD 0]
   | _ => [o.dst.getD 0, o.dst.getD 0 + 1000, o.dst.getD 0 + 2000, o.dst.getD 0 + 3000, o.dst.getD 0 + 4000])

def isH : V → Bool
  | .d (.h _ _) => true
  | _ => false

def gOf {M : GMo} (Γ : Env M) (o : Oper) (vs : List V) : Nat :=
  match o.op with
  | .load .. => if vs.any isH then 1 else 0
  | .store .. => if vs.any isH then 2 else 0
  | .call { callee := .value _, .. } => match (vs.head?).bind acallee with
    | some (k, _, _) => match Γ k with
      | some (.st _ _) => 2
      | _ => 0
    | none => 0
  | _ => 0

def Loc.only (L : Loc) (rd : List Nat) : Loc := fun g => if g ∈ rd then L g else (0, .dead)
def Loc.upd (L : Loc) : Wr → Loc
  | [] => L
  | (g, x) :: w => Loc.upd (L.set g x) w

def putV (slots : List V) (dst : Option Tmp) (v : V) : List V :=
  match dst with
  | some d => slots.set d v
  | none => slots

def aguard (ops : Array Oper) (slots : List V) (o : Oper) : Option Bool :=
  match o.guard with
  | none => some true
  | some (j, want) => match ((ops[j]?).bind (·.dst)).bind (slots[·]?) with
    | some (.d (.bool b)) => some (b == want)
    | some (.d (.tup [])) => some false
    | _ => none

section
variable {M : GMo}

def astep (P : Program) (Γ : Env M) (ops : Array Oper) (o : Oper) (s : St M) : Option (St M × Foot) :=
  match aguard ops s.slots o with
  | none => none
  | some false => some ({ s with slots := putV s.slots o.dst (.d (.tup [])) }, {})
  | some true =>
    let vs := o.op.operands.toList.map (evalV s.slots)
    let rd := rdOf o vs s.L
    let g := gOf Γ o vs
    (aop P Γ o (evalV s.slots) (s.L.only rd) (if g = 0 then none else some s.G)).bind fun out =>
      if g = 2 ∨ out.gs = none then some ({ slots := putV s.slots o.dst out.v, L := s.L.upd out.wr, G := out.gs.getD s.G }, { rd, wr := out.wr.map (·.1), g }) else none

def arun (P : Program) (Γ : Env M) (ops : Array Oper) : List Oper → St M → Option (St M)
  | [], s => some s
  | o :: r, s => (astep P Γ ops o s).bind fun x => arun P Γ ops r x.1

def arunD (P : Program) (Γ : Env M) (ops : Array Oper) : List Oper → St M → Option (St M × List Foot)
  | [], s => some (s, [])
  | o :: r, s => (astep P Γ ops o s).bind fun x => (arunD P Γ ops r x.1).map fun y => (y.1, x.2 :: y.2)

def edge (ops : Array Oper) (i j : Nat) : Bool := match ops[j]? with
  | some o => o.after.any fun e => Region.binds .any e && e.on == i
  | none => false

/-- Whatever is not in order may come in either. -/
def chk (ops : Array Oper) (log : List Foot) : Bool :=
  log.all Foot.quiet ||
  (List.range log.length).all fun i => (List.range log.length).all fun j =>
    !(decide (i < j)) || edge ops i j || match log[i]?, log[j]? with
      | some a, some b => (a.quiet && b.quiet) || indep a b
      | _, _ => true

inductive AExit where
  | normal | exit (id : Nat) | ret
  deriving DecidableEq

/-- s' says no more than s. -/
inductive Wk : St M → St M → Prop where
  | drop (s s' : St M) (K : List Nat) : s'.slots.length = s.slots.length → s'.G = s.G →
      (∀ k, k ∈ K → s'.L k = s.L k) → (∀ g, g ∉ K → s'.L g = (0, .dead)) →
      (∀ (i : Nat) (v : V), s'.slots[i]? = some v → v = .d .undef ∨ (s.slots[i]? = some v ∧ ∀ g, g ∈ v.ids → g ∈ K)) →
      (∀ k, k ∈ K → ∀ v, (s'.L k).2 = .vbox v → ∀ g, g ∈ v.ids → g ∈ K) → Wk s s'
  | nil (s : St M) (i g sz : Nat) : s.slots[i]? = some (.d (.sl .full [])) → Wk s { s with slots := s.slots.set i (.ref g (s.L.new g) 0 0), L := s.L.set g (s.L.new g, .arr sz [] true) }
  | trans (s t u : St M) : Wk s t → Wk t u → Wk s u

/-- What code comes to. -/
def awp (P : Program) (Γ : Env M) : Code → (AExit → St M → Prop) → St M → Prop
  | .skip, Q, s => Q .normal s
  | .label _, Q, s => Q .normal s
  | .region _ ops false, Q, s => ∃ s', arun P Γ ops ops.toList s = some s' ∧ Q .normal s'
  | .region _ ops true, Q, s => Region.lexB .any ops = true ∧ ∃ s' log, arunD P Γ ops ops.toList s = some (s', log) ∧ chk ops log = true ∧ Q .normal s'
  | .seq a b, Q, s => awp P Γ a (fun e s' => match e with
    | .normal => awp P Γ b Q s'
    | e => Q e s') s
  | .cond c x y, Q, s => match evalV s.slots c with
    | .d (.bool true) => awp P Γ x Q s
    | .d (.bool false) => awp P Γ y Q s
    | _ => False
  | .block id b, Q, s => awp P Γ b (fun e s' => match e with
    | .exit id' => if id' = id then Q .normal s' else Q (.exit id') s'
    | e => Q e s') s
  | .loop b, Q, s => ∃ (α : Type) (J : α → St M) (μ : α → Nat) (a₀ : α), Wk s (J a₀) ∧ ∀ a, awp P Γ b (fun e s' => match e with
    | .normal => ∃ a', μ a' < μ a ∧ Wk s' (J a')
    | e => Q e s') (J a)
  | .scope b, Q, s => awp P Γ b Q s
  | .exit id, Q, s => Q (.exit id) s
  | .ret, Q, s => Q .ret s
  | _, _, _ => False

/-- What a result is, for whoever asked. -/
def seal1 (L : Loc) (sz : Nat) : V → Option D
  | .d x => some x
  | .ref g n off len => match off, L.get g n with
    | 0, .arr sz' els true => if len = els.length ∧ sz' = sz then some (.sl .own els) else none
    | _, _ => none
  | _ => none

end
end Wf

/-
  How the machine over plain data stands to the machine: the relation, and that it goes on.
-/
namespace Wf
open Go Go.RowKit

structure Ctx where
  ι : Nat → Option Nat
  γ : Nat → Option Addr
  O : Nat → Prop

/-- How many cells a box has. -/
def HObj.boxLen : HObj → Option Nat
  | .box _ ds => some ds.length
  | .vbox _ => some 1
  | _ => none

def HObj.live : HObj → Bool
  | .dead => false
  | .arr _ _ l => l
  | _ => true

/-- Blocks that may turn. -/
def own (c : Ctx) (L : Loc) (b : Nat) : Prop := c.O b ∨ ∃ g, c.ι g = some b ∧ (L g).2.live = true

/-- A slice over row g. -/
def SlAt (w : World) (β : Option Nat) (sz off len : Nat) (v : Value) : Prop :=
  ∃ a cap, v = .slice a len cap ∧ len ≤ cap ∧ (cap = 0 ∨ ∃ (b : Nat) (x : Array Value) (T : TypeId) (fz : Nat × Nat), β = some b ∧ a = some ⟨b, off * sz, none⟩ ∧ w.heap[b]? = some (.cells x T fz) ∧ (off + cap) * sz ≤ x.size)

inductive Val (c : Ctx) (L : Loc) (w : World) (N : Nat) : V → Value → Prop where
  | d (x v) : Rep w (own c L) N c.γ x v → Val c L w N (.d x) v
  | ptr (g n off v) : n ≤ (L g).1 → (L.get g n ≠ .dead → ∃ b, c.ι g = some b ∧ v = .pointer (some ⟨b, off, none⟩)) → Val c L w N (.ptr g n off) v
  | ept (g n i off v) : n ≤ (L g).1 → (∀ sz els l, L.get g n = .arr sz els l → i < els.length → ∃ b, c.ι g = some b ∧ v = .pointer (some ⟨b, i * sz + off, none⟩)) →
      Val c L w N (.ept g n i off) v
  | ref (g n off len v) : n ≤ (L g).1 → (∀ sz els l, L.get g n = .arr sz els l → off + len ≤ els.length ∧ SlAt w (c.ι g) sz off len v) → Val c L w N (.ref g n off len) v
  | bref (g n off len v) : n ≤ (L g).1 → (∀ k, (L.get g n).boxLen = some k → off + len ≤ k ∧ ∃ b, c.ι g = some b ∧ v = .slice (some ⟨b, off, none⟩) len (k - off)) →
      Val c L w N (.bref g n off len) v
  | map (g n v) : n ≤ (L g).1 → (L.get g n ≠ .dead → ∃ b, c.ι g = some b ∧ v = .map (some b)) → Val c L w N (.map g n) v
  | clo (f) (a b : List V) (va vb : Array Value) : va.size = a.length → vb.size = b.length → (∀ (i : Nat) (v : V) (u : Value), a[i]? = some v → va[i]? = some u → Val c L w N v u) →
      (∀ (i : Nat) (v : V) (u : Value), b[i]? = some v → vb[i]? = some u → Val c L w N v u) → Val c L w N (.clo f a b) (.func (.func f) va vb)
  | tup (l : List V) (vs : Array Value) : vs.size = l.length → (∀ (i : Nat) (v : V) (u : Value), l[i]? = some v → vs[i]? = some u → Val c L w N v u) → Val c L w N (.tup l) (.tuple vs)

def Unfrozen (w : World) (b n : Nat) : Prop := ∀ i, i < n → w.frozen? ⟨b, i, none⟩ = false

/-- A row of elements. -/
def RowAt (w : World) (A : Nat → Prop) (N : Nat) (γ : Nat → Option Addr) (b sz : Nat) (els : List D) : Prop :=
  ∃ vs : Nat → Value, ∀ (i : Nat) (d : D), els[i]? = some d → Rep w A N γ d (vs i) ∧ (vs i).cells.size = sz ∧ cellsAt w b (i * sz) (vs i)

def ObjOk (c : Ctx) (L : Loc) (w : World) (N : Nat) (β : Option Nat) : HObj → Prop
  | .dead => True
  | .box _ ds => ∃ (b : Nat) (x : Array Value) (T : TypeId) (fz : Nat × Nat), β = some b ∧ w.heap[b]? = some (.cells x T fz) ∧ Unfrozen w b x.size ∧ x.size = ds.length ∧
      ∀ (i : Nat) (d : D) (u : Value), ds[i]? = some d → x[i]? = some u → Rep w (own c L) N c.γ d u ∧ u.oneCell' = true
  | .vbox v => ∃ (b : Nat) (u : Value) (T : TypeId) (fz : Nat × Nat), β = some b ∧ w.heap[b]? = some (.cells #[u] T fz) ∧ Unfrozen w b 1 ∧ u.oneCell' = true ∧ Val c L w N v u
  | .arr sz els _ => match β with
    | none => els = []
    | some b => ∃ (x : Array Value) (T : TypeId) (fz : Nat × Nat), w.heap[b]? = some (.cells x T fz) ∧ Unfrozen w b x.size ∧ els.length * sz ≤ x.size ∧ RowAt w (own c L) N c.γ b sz els
  | .map kk es => ∃ (b : Nat) (m : Array MapEntry) (k : Nat), β = some b ∧ w.heap[b]? = some (.map m k) ∧ m.size = es.length ∧
      ∀ (i : Nat) (e : MapEntry) (p : Int × D), m[i]? = some e → es[i]? = some p → KeyIs kk p.1 e.key ∧ Rep w (own c L) N c.γ p.2 e.val

/-- The memory's part of the relation. -/
structure Mem (M : GM) (c : Ctx) (N : Nat) (w0 : World) (O0 : Nat → Prop) (L : Loc) (G : M.S) (w : World) : Prop where
  obj : ∀ g, ObjOk c L w N (c.ι g) (L g).2
  inj : ∀ g g' b, c.ι g = some b → c.ι g' = some b → (L g).2 ≠ .dead → (L g').2 ≠ .dead → g = g'
  mine : ∀ g b, c.ι g = some b → (L g).2 ≠ .dead → N ≤ b ∧ b < w.heap.size ∧ ¬ c.O b
  glob : M.rel G c.γ c.O w
  size : N ≤ w.heap.size
  size0 : w0.heap.size = N
  os : w.os = w0.os
  tape : w.tape = w0.tape
  output : w.output = w0.output
  keep : ∀ b, b < N → ¬ O0 b → w.heap[b]? = w0.heap[b]?
  osub : ∀ b, c.O b → b < w.heap.size ∧ (O0 b ∨ N ≤ b)

def Compat : HObj → HObj → Prop
  | _, .dead => True
  | .box _ ds, .box _ ds' => ds'.length = ds.length
  | .box _ ds, .vbox _ => ds.length = 1
  | .vbox _, .vbox _ => True
  | .vbox _, .box _ ds => ds.length = 1
  | .arr sz els _, .arr sz' els' _ => sz' = sz ∧ els'.length = els.length
  | .map k _, .map k' _ => k' = k
  | _, _ => False

theorem Compat.refl (x : HObj) : Compat x x := by cases x <;> simp [Compat]

structure Grow (c : Ctx) (L : Loc) (w : World) (c' : Ctx) (L' : Loc) (w' : World) : Prop where
  size : w.heap.size ≤ w'.heap.size
  old : ∀ b, ¬ own c L b → b < w.heap.size → w'.heap[b]? = w.heap[b]?
  ownsub : ∀ b, b < w.heap.size → own c' L' b → own c L b
  hγ : ∀ n a, c.γ n = some a → c'.γ n = some a
  cells : ∀ (b : Nat) (x : Array Value) (T : TypeId) (fz : Nat × Nat), w.heap[b]? = some (.cells x T fz) → own c L b → ∃ (x' : Array Value) (fz' : Nat × Nat), w'.heap[b]? = some (.cells x' T fz') ∧ x'.size = x.size
  gen : ∀ g, (L g).1 ≤ (L' g).1
  obj : ∀ g, (L' g).1 = (L g).1 → (L' g).2 = .dead ∨ (c'.ι g = c.ι g ∧ Compat (L g).2 (L' g).2)

theorem Grow.cells' {c L w c' L' w'} (h : Grow c L w c' L' w') {b : Nat} {x : Array Value} {T : TypeId} {fz : Nat × Nat} (hb : w.heap[b]? = some (.cells x T fz)) :
    ∃ (x' : Array Value) (fz' : Nat × Nat), w'.heap[b]? = some (.cells x' T fz') ∧ x'.size = x.size := by
  by_cases ho : own c L b
  · exact h.cells b x T fz hb ho
  · have hlt : b < w.heap.size := by
      rcases Nat.lt_or_ge b w.heap.size with h' | h'
      · exact h'
      · rw [Array.getElem?_eq_none h'] at hb; cases hb
    exact ⟨x, fz, by rw [h.old b ho hlt]; exact hb, rfl⟩

theorem Rep.grow {c L w c' L' w'} (h : Grow c L w c' L' w') {N : Nat} {d : D} {v : Value} (hr : Rep w (own c L) N c.γ d v) : Rep w' (own c' L') N c'.γ d v :=
  hr.mono h.old h.ownsub (Nat.le_refl _) h.size h.hγ

theorem SlAt.grow {c L w c' L' w'} (h : Grow c L w c' L' w') {β sz off len v} (hs : SlAt w β sz off len v) : SlAt w' β sz off len v := by
  obtain ⟨a, cap, hv, hle, hc⟩ := hs
  refine ⟨a, cap, hv, hle, ?_⟩
  rcases hc with hc | ⟨b, x, T, fz, h1, h2, h3, h4⟩
  · exact .inl hc
  · obtain ⟨x', fz', h5, h6⟩ := h.cells' h3
    exact .inr ⟨b, x', T, fz', h1, h2, h5, by omega⟩

/-- What a reference of the n-th life says goes on. -/
theorem Grow.get {c L w c' L' w'} (h : Grow c L w c' L' w') {g n : Nat} (hn : n ≤ (L g).1) (hd : L'.get g n ≠ .dead) :
    (L' g).1 = n ∧ (L g).1 = n ∧ c'.ι g = c.ι g ∧ L.get g n ≠ .dead ∧ Compat (L.get g n) (L'.get g n) := by
  have hg := h.gen g
  unfold Loc.get at hd
  split at hd
  · rename_i e
    have e2 : (L g).1 = n := by omega
    rcases h.obj g (by omega) with ho | ⟨h1, h2⟩
    · exact absurd ho hd
    · refine ⟨e, e2, h1, ?_, ?_⟩
      · unfold Loc.get; rw [if_pos e2]
        intro e3
        rw [e3] at h2
        cases hx : (L' g).2 <;> simp [hx, Compat] at h2 hd
      · unfold Loc.get; rw [if_pos e, if_pos e2]; exact h2
  · exact absurd rfl hd

theorem Val.grow {c L w c' L' w'} (h : Grow c L w c' L' w') {N : Nat} {v : V} {u : Value} (hv : Val c L w N v u) : Val c' L' w' N v u := by
  induction hv with
  | d x v hr => exact .d x v (hr.grow h)
  | ptr g n off v hn hp =>
    refine .ptr g n off v (Nat.le_trans hn (h.gen g)) fun hd => ?_
    obtain ⟨_, _, e, hd', _⟩ := h.get hn hd
    rw [e]; exact hp hd'
  | ept g n i off v hn hp =>
    refine .ept g n i off v (Nat.le_trans hn (h.gen g)) fun sz els l he hi => ?_
    obtain ⟨_, _, e, hd', hc⟩ := h.get hn (by rw [he]; simp)
    rw [he] at hc
    cases hx : L.get g n <;> simp [hx, Compat] at hc
    rename_i sz' els' l'
    obtain ⟨rfl, hl⟩ := hc
    rw [e]; exact hp _ _ _ hx (by omega)
  | ref g n off len v hn hp =>
    refine .ref g n off len v (Nat.le_trans hn (h.gen g)) fun sz els l he => ?_
    obtain ⟨_, _, e, hd', hc⟩ := h.get hn (by rw [he]; simp)
    rw [he] at hc
    cases hx : L.get g n <;> simp [hx, Compat] at hc
    rename_i sz' els' l'
    obtain ⟨rfl, hl⟩ := hc
    obtain ⟨h1, h2⟩ := hp _ _ _ hx
    rw [e]; exact ⟨by omega, h2.grow h⟩
  | bref g n off len v hn hp =>
    refine .bref g n off len v (Nat.le_trans hn (h.gen g)) fun k he => ?_
    obtain ⟨_, _, e, hd', hc⟩ := h.get hn (by intro e; rw [e] at he; cases he)
    obtain ⟨h1, h2⟩ := hp k (by
      cases hx : L.get g n <;> cases hy : L'.get g n <;> simp [hx, hy, Compat, HObj.boxLen] at hc he ⊢ <;> omega)
    rw [e]; exact ⟨h1, h2⟩
  | map g n v hn hp =>
    refine .map g n v (Nat.le_trans hn (h.gen g)) fun hd => ?_
    obtain ⟨_, _, e, hd', _⟩ := h.get hn hd
    rw [e]; exact hp hd'
  | clo f a b va vb h1 h2 _ _ ih1 ih2 => exact .clo f a b va vb h1 h2 ih1 ih2
  | tup l vs h1 _ ih => exact .tup l vs h1 ih

end Wf

/-
  Steps of memory: a new block; writing into one's own.
-/
namespace Wf
open Go Go.RowKit

structure GM.Ok (M : GM) : Prop where
  stable : ∀ {G γ O} {w w' : World}, M.rel G γ O w → (∀ b, O b → w'.heap[b]? = w.heap[b]?) → w.heap.size ≤ w'.heap.size → M.rel G γ O w'
  load : ∀ {G γ O} {w : World} {k off n ds}, M.rel G γ O w → M.load G k off n = some ds → ds.length = n ∧ ∃ b o, γ k = some ⟨b, o, none⟩ ∧
    ∀ (i : Nat) (d : D), ds[i]? = some d → d.flat = true ∧ ∃ v, w.cell? ⟨b, o + off + i, none⟩ = some v ∧ v.oneCell' = true ∧ ∀ A N, Rep w A N γ d v
  store : ∀ {G G' γ O} {w w' : World} {k off ds} {vs : List Value}, M.rel G γ O w → M.store G k off ds = some G' → (∀ N, Reps w O N γ ds vs) → (∀ v ∈ vs, v.oneCell' = true) →
    ∃ b o, γ k = some ⟨b, o, none⟩ ∧ O b ∧ (∀ i, i < ds.length → (w.cell? ⟨b, o + off + i, none⟩).isSome = true ∧ w.frozen? ⟨b, o + off + i, none⟩ = false) ∧
      ((∀ x, x ≠ b → w'.heap[x]? = w.heap[x]?) → w'.heap.size = w.heap.size → (∀ i v, vs[i]? = some v → w'.cell? ⟨b, o + off + i, none⟩ = some v) →
        (∀ j, (∀ i, i < ds.length → j ≠ o + off + i) → w'.cell? ⟨b, j, none⟩ = w.cell? ⟨b, j, none⟩) → (∀ j, w'.frozen? ⟨b, j, none⟩ = w.frozen? ⟨b, j, none⟩) →
        (∀ x T fz, w.heap[b]? = some (.cells x T fz) → ∃ x', w'.heap[b]? = some (.cells x' T fz) ∧ x'.size = x.size) → M.rel G' γ O w')

def Ctx.at (c : Ctx) (t : Nat) (b : Option Nat) : Ctx := { c with ι := fun g => if g = t then b else c.ι g }

theorem Loc.set_same (L : Loc) (t x) : (L.set t x) t = x := by simp [Loc.set]
theorem Loc.set_ne (L : Loc) {t g} (x) (h : g ≠ t) : (L.set t x) g = L g := by simp [Loc.set, h]

theorem Unfrozen.of_heap {w w' : World} {b n} (h : Unfrozen w b n) (e : w'.heap[b]? = w.heap[b]?) : Unfrozen w' b n := fun i hi => by
  rw [World.frozen?_of_block (w := w) e]; exact h i hi

theorem ObjOk.grow {c L w c' L' w'} (h : Grow c L w c' L' w') {N : Nat} {β : Option Nat} {x : HObj} (ho : ObjOk c L w N β x)
    (hb : ∀ b, β = some b → x ≠ .dead → w'.heap[b]? = w.heap[b]?) : ObjOk c' L' w' N β x := by
  cases x with
  | dead => trivial
  | box ag ds =>
    obtain ⟨b, x, T, fz, h1, h2, h3, h4, h5⟩ := ho
    have e := hb b h1 (by simp)
    exact ⟨b, x, T, fz, h1, by rw [e]; exact h2, h3.of_heap e, h4, fun i d u hd hu => ⟨((h5 i d u hd hu).1).grow h, (h5 i d u hd hu).2⟩⟩
  | vbox v =>
    obtain ⟨b, u, T, fz, h1, h2, h3, h4, h5⟩ := ho
    have e := hb b h1 (by simp)
    exact ⟨b, u, T, fz, h1, by rw [e]; exact h2, h3.of_heap e, h4, h5.grow h⟩
  | arr sz els l =>
    cases β with
    | none => exact ho
    | some b =>
      obtain ⟨x, T, fz, h2, h3, h4, vs, h5⟩ := ho
      have e := hb b rfl (by simp)
      exact ⟨x, T, fz, by rw [e]; exact h2, h3.of_heap e, h4, vs, fun i d hd => ⟨((h5 i d hd).1).grow h, (h5 i d hd).2.1, (h5 i d hd).2.2.mono e⟩⟩
  | map kk es =>
    obtain ⟨b, m, k, h1, h2, h3, h4⟩ := ho
    have e := hb b h1 (by simp)
    exact ⟨b, m, k, h1, by rw [e]; exact h2, h3, fun i p q hp hq => ⟨(h4 i p q hp hq).1, ((h4 i p q hp hq).2).grow h⟩⟩

section
variable {M : GM} {c : Ctx} {N : Nat} {w0 w : World} {O0 : Nat → Prop} {L : Loc} {G : M.S}

/-- A new block for a place's next life; other places may end. -/
theorem Grow.alloc (h : Mem M c N w0 O0 L G w) (o : Obj) (t n : Nat) (x : HObj) (hn : (L t).1 < n) :
    Grow c L w (c.at t (some w.heap.size)) (L.set t (n, x)) (w.alloc o) := by
  refine ⟨by simp, fun b _ hb => Below.heap_alloc w o b hb, ?_, fun _ _ h => h, ?_, ?_, ?_⟩
  · rintro b hb (ho | ⟨g, h1, h2⟩)
    · exact .inl ho
    · by_cases hg : g = t
      · subst hg
        simp [Ctx.at] at h1; omega
      · simp only [Ctx.at, hg, if_false] at h1
        rw [Loc.set_ne _ _ hg] at h2
        exact .inr ⟨g, h1, h2⟩
  · intro b y T fz hb _
    refine ⟨y, fz, ?_, rfl⟩
    have hlt : b < w.heap.size := by
      rcases Nat.lt_or_ge b w.heap.size with h' | h'
      · exact h'
      · rw [Array.getElem?_eq_none h'] at hb; cases hb
    rw [Below.heap_alloc w o b hlt]; exact hb
  · intro g
    by_cases hg : g = t
    · subst hg; rw [Loc.set_same]; omega
    · rw [Loc.set_ne _ _ hg]; omega
  · intro g hg'
    by_cases hg : g = t
    · subst hg; rw [Loc.set_same] at hg'; dsimp at hg'; omega
    · rw [Loc.set_ne _ _ hg]; simp only [Ctx.at, hg, if_false]; exact .inr ⟨trivial, Compat.refl _⟩

theorem Mem.alloc (hM : M.Ok) (h : Mem M c N w0 O0 L G w) (o : Obj) (t n : Nat) (x : HObj) (hn : (L t).1 < n)
    (hx : ObjOk (c.at t (some w.heap.size)) (L.set t (n, x)) (w.alloc o) N (some w.heap.size) x) :
    Mem M (c.at t (some w.heap.size)) N w0 O0 (L.set t (n, x)) G (w.alloc o) := by
  have hg := Grow.alloc h o t n x hn
  have hold : ∀ b, b < w.heap.size → (w.alloc o).heap[b]? = w.heap[b]? := fun b hb => Below.heap_alloc w o b hb
  refine ⟨?_, ?_, ?_, ?_, ?_, h.size0, h.os, h.tape, h.output, ?_, ?_⟩
  · intro g
    by_cases e : g = t
    · subst e; rw [Loc.set_same]; simpa [Ctx.at] using hx
    · rw [Loc.set_ne _ _ e]; simp only [Ctx.at, e, if_false]
      exact (h.obj g).grow hg fun b hb hd => hold b (h.mine g b hb hd).2.1
  · intro g g' b h1 h2 h3 h4
    by_cases e : g = t <;> by_cases e' : g' = t
    · rw [e, e']
    · subst e
      simp only [Ctx.at, if_true, e', if_false] at h1 h2
      rw [Loc.set_ne _ _ e'] at h4
      have := (h.mine g' b h2 h4).2.1
      simp at h1; omega
    · subst e'
      simp only [Ctx.at, if_true, e, if_false] at h1 h2
      rw [Loc.set_ne _ _ e] at h3
      have := (h.mine g b h1 h3).2.1
      simp at h2; omega
    · simp only [Ctx.at, e, e', if_false] at h1 h2
      rw [Loc.set_ne _ _ e] at h3
      rw [Loc.set_ne _ _ e'] at h4
      exact h.inj g g' b h1 h2 h3 h4
  · intro g b h1 h2
    by_cases e : g = t
    · subst e
      simp only [Ctx.at, if_true] at h1
      have hs := h.size
      simp at h1
      refine ⟨by omega, by simp; omega, fun ho => ?_⟩
      have := (h.osub b ho).1; omega
    · simp only [Ctx.at, e, if_false] at h1
      rw [Loc.set_ne _ _ e] at h2
      obtain ⟨a1, a2, a3⟩ := h.mine g b h1 h2
      exact ⟨a1, by simp; omega, a3⟩
  · exact hM.stable h.glob (fun b hb => hold b (h.osub b hb).1) (by simp)
  · have := h.size; simp; omega
  · intro b hb hO; rw [hold b (by have := h.size; omega)]; exact h.keep b hb hO
  · intro b hb; obtain ⟨a1, a2⟩ := h.osub b hb; exact ⟨by simp; omega, a2⟩

/-- A place ends, or is written no more. -/
theorem Grow.less (h : Mem M c N w0 O0 L G w) (g : Nat) (x : HObj) (hx : x = .dead ∨ ∃ sz els l, (L g).2 = .arr sz els l ∧ x = .arr sz els false) :
    Grow c L w c (L.set g ((L g).1, x)) w := by
  refine ⟨Nat.le_refl _, fun _ _ _ => rfl, ?_, fun _ _ h => h, fun b y T fz hb _ => ⟨y, fz, hb, rfl⟩, ?_, ?_⟩
  · rintro b hb (ho | ⟨k, h1, h2⟩)
    · exact .inl ho
    · by_cases e : k = g
      · subst e; rw [Loc.set_same] at h2
        rcases hx with rfl | ⟨sz, els, l, _, rfl⟩ <;> simp [HObj.live] at h2
      · rw [Loc.set_ne _ _ e] at h2; exact .inr ⟨k, h1, h2⟩
  · intro k
    by_cases e : k = g
    · subst e; rw [Loc.set_same]; exact Nat.le_refl _
    · rw [Loc.set_ne _ _ e]; exact Nat.le_refl _
  · intro k _
    by_cases e : k = g
    · subst e; rw [Loc.set_same]
      rcases hx with rfl | ⟨sz, els, l, hl, rfl⟩
      · exact .inl rfl
      · exact .inr ⟨rfl, by rw [hl]; exact ⟨rfl, rfl⟩⟩
    · rw [Loc.set_ne _ _ e]; exact .inr ⟨rfl, Compat.refl _⟩

theorem Mem.less (h : Mem M c N w0 O0 L G w) (g : Nat) (x : HObj) (hx : x = .dead ∨ ∃ sz els l, (L g).2 = .arr sz els l ∧ x = .arr sz els false) :
    Mem M c N w0 O0 (L.set g ((L g).1, x)) G w := by
  have hg := Grow.less h g x hx
  have hnd : ∀ k, ((L.set g ((L g).1, x)) k).2 ≠ .dead → (L k).2 ≠ .dead := by
    intro k hk
    by_cases e : k = g
    · subst e; rw [Loc.set_same] at hk
      rcases hx with rfl | ⟨sz, els, l, hl, rfl⟩
      · exact absurd rfl hk
      · rw [hl]; simp
    · rw [Loc.set_ne _ _ e] at hk; exact hk
  refine ⟨?_, fun k k' b h1 h2 h3 h4 => h.inj k k' b h1 h2 (hnd k h3) (hnd k' h4), fun k b h1 h2 => h.mine k b h1 (hnd k h2), h.glob, h.size, h.size0, h.os, h.tape, h.output, h.keep, h.osub⟩
  intro k
  by_cases e : k = g
  · subst e; rw [Loc.set_same]
    rcases hx with rfl | ⟨sz, els, l, hl, rfl⟩
    · trivial
    · have h1 := h.obj k
      rw [hl] at h1
      exact ObjOk.grow (x := .arr sz els false) hg h1 fun _ _ _ => rfl
  · rw [Loc.set_ne _ _ e]; exact (h.obj k).grow hg fun _ _ _ => rfl

/-- A place's block is written. -/
theorem Grow.write (h : Mem M c N w0 O0 L G w) {w' : World} {g b : Nat} (x : HObj) (hb : c.ι g = some b) (hl : (L g).2.live = true) (hc : Compat (L g).2 x)
    (hs : w'.heap.size = w.heap.size) (ho : ∀ k, k ≠ b → w'.heap[k]? = w.heap[k]?)
    (hz : ∀ y T fz, w.heap[b]? = some (.cells y T fz) → ∃ y' fz', w'.heap[b]? = some (.cells y' T fz') ∧ y'.size = y.size) :
    Grow c L w c (L.set g ((L g).1, x)) w' := by
  refine ⟨by omega, ?_, ?_, fun _ _ h => h, ?_, ?_, ?_⟩
  · intro k hk _
    refine ho k fun e => hk (.inr ⟨g, ?_, hl⟩)
    rw [hb, e]
  · rintro k _ (hO | ⟨g', h1, h2⟩)
    · exact .inl hO
    · by_cases e : g' = g
      · subst e; exact .inr ⟨g', h1, hl⟩
      · rw [Loc.set_ne _ _ e] at h2; exact .inr ⟨g', h1, h2⟩
  · intro k y T fz hk _
    by_cases e : k = b
    · subst e; exact hz y T fz hk
    · exact ⟨y, fz, by rw [ho k e]; exact hk, rfl⟩
  · intro k
    by_cases e : k = g
    · subst e; rw [Loc.set_same]; exact Nat.le_refl _
    · rw [Loc.set_ne _ _ e]; exact Nat.le_refl _
  · intro k _
    by_cases e : k = g
    · subst e; rw [Loc.set_same]; exact .inr ⟨rfl, hc⟩
    · rw [Loc.set_ne _ _ e]; exact .inr ⟨rfl, Compat.refl _⟩

theorem Mem.write (hM : M.Ok) (h : Mem M c N w0 O0 L G w) {w' : World} {g b : Nat} (x : HObj) (hb : c.ι g = some b) (hl : (L g).2.live = true) (hc : Compat (L g).2 x)
    (hs : w'.heap.size = w.heap.size) (ho : ∀ k, k ≠ b → w'.heap[k]? = w.heap[k]?)
    (hz : ∀ y T fz, w.heap[b]? = some (.cells y T fz) → ∃ y' fz', w'.heap[b]? = some (.cells y' T fz') ∧ y'.size = y.size)
    (hos : w'.os = w.os) (htape : w'.tape = w.tape) (hout : w'.output = w.output)
    (hx : ObjOk c (L.set g ((L g).1, x)) w' N (some b) x) : Mem M c N w0 O0 (L.set g ((L g).1, x)) G w' := by
  have hg := Grow.write h x hb hl hc hs ho hz
  have hld : (L g).2 ≠ .dead := by intro e; rw [e] at hl; cases hl
  have hnd : ∀ k, ((L.set g ((L g).1, x)) k).2 ≠ .dead → (L k).2 ≠ .dead := by
    intro k hk
    by_cases e : k = g
    · subst e; exact hld
    · rw [Loc.set_ne _ _ e] at hk; exact hk
  have hmine := h.mine g b hb hld
  refine ⟨?_, fun k k' y h1 h2 h3 h4 => h.inj k k' y h1 h2 (hnd k h3) (hnd k' h4), fun k y h1 h2 => ?_, ?_, by rw [hs]; exact h.size, h.size0, by rw [hos]; exact h.os, by rw [htape]; exact h.tape, by rw [hout]; exact h.output, ?_, fun y hy => by rw [hs]; exact h.osub y hy⟩
  · intro k
    by_cases e : k = g
    · subst e; rw [Loc.set_same, hb]; exact hx
    · rw [Loc.set_ne _ _ e]
      refine (h.obj k).grow hg fun y hy hd => ho y fun e2 => e ?_
      subst e2
      exact h.inj k g _ hy hb hd hld
  · obtain ⟨a1, a2, a3⟩ := h.mine k y h1 (hnd k h2)
    exact ⟨a1, by omega, a3⟩
  · exact hM.stable h.glob (fun y hy => ho y fun e => hmine.2.2 (e ▸ hy)) (by omega)
  · intro y hy hO; rw [ho y (by omega)]; exact h.keep y hy hO

end
end Wf

/-
  What operations do: loads, stores, and what leaves memory alone.
-/
namespace Wf
open Go Go.RowKit

-- types
theorem ty_agg {P : Program} {t : TypeId} {ag : Bool} (h : tyAgg P t = some ag) (w : World) : (isAgg t).run P w = .ok ag w := by
  unfold tyAgg at h
  unfold isAgg
  cases hu : P.underlying t with
  | none => rw [hu] at h; cases h
  | some d =>
    rw [hu] at h
    simp only [Sem.run_bind, run_underlying hu, Result.andThen_ok]
    cases d <;> simp at h <;> subst h <;> rfl

theorem ty_size {P : Program} {t : TypeId} {n : Nat} (h : tySize P t = some n) (w : World) : (Go.sizeOf t).run P w = .ok n w := by
  unfold tySize at h
  cases hi : P.info? t with
  | none => rw [hi] at h; cases h
  | some i =>
    rw [hi] at h; simp at h
    unfold Go.sizeOf typeInfo
    simp [hi, h]

theorem ty_und {P : Program} {t : TypeId} {d : TypeDesc} (h : P.underlying t = some d) (w : World) : (underlying t).run P w = .ok d w := run_underlying h w

-- loads
theorem loadCells_at {P : Program} {w : World} {b o : Nat} {vs : Array Value} (h : ∀ (j : Nat) (u : Value), vs[j]? = some u → w.cell? ⟨b, o + j, none⟩ = some u) :
    (loadCells ⟨b, o, none⟩ vs.size).run P w = .ok vs w := by
  have := run_loadCells_list (P := P) w ⟨b, o, none⟩ vs.toList (fun j v hj => by
    rw [Addr.add_lit]; exact h j v (by simpa using hj))
  simpa using this

theorem run_loadVar {P : Program} {w : World} {t : TypeId} {ag : Bool} {n b o : Nat} {v : Value} (hag : tyAgg P t = some ag) (hn : tySize P t = some n)
    (hv : if ag then ∃ vs, v = .agg vs ∧ vs.size = n else v.oneCell' = true) (hc : cellsAt w b o v) : (loadVar t ⟨b, o, none⟩).run P w = .ok v w := by
  unfold loadVar
  simp only [Sem.run_bind, ty_agg hag, Result.andThen_ok]
  cases ag with
  | true =>
    obtain ⟨vs, rfl, rfl⟩ := by simpa using hv
    simp [ty_size hn, loadCells_at (P := P) (w := w) (b := b) (o := o) (vs := vs) hc]
  | false =>
    have h1 : v.oneCell' = true := by simpa using hv
    have := hc 0 v (by rw [cells_of_one h1]; rfl)
    simp at this
    simp [this]

-- stores
def splice (x : Array Value) (k : Nat) (vs : List Value) : Array Value := (x.toList.take k ++ vs ++ x.toList.drop (k + vs.length)).toArray

theorem splice_size {x : Array Value} {k : Nat} {vs : List Value} (h : k + vs.length ≤ x.size) : (splice x k vs).size = x.size := by
  simp [splice]; omega

theorem splice_at {x : Array Value} {k : Nat} {vs : List Value} (h : k + vs.length ≤ x.size) (j : Nat) :
    (splice x k vs)[j]? = if k ≤ j ∧ j < k + vs.length then vs[j - k]? else x[j]? := by
  have hk : (x.toList.take k).length = k := by simp; omega
  simp only [splice, List.getElem?_toArray, List.append_assoc]
  split
  · rename_i hj
    rw [List.getElem?_append_right (by omega), hk, List.getElem?_append_left (by omega)]
  · rename_i hj
    by_cases h1 : j < k
    · rw [List.getElem?_append_left (by omega), List.getElem?_take, if_pos h1]; simp
    · rw [List.getElem?_append_right (by omega), hk, List.getElem?_append_right (by omega), List.getElem?_drop,
        show k + vs.length + (j - k - vs.length) = j by omega]; simp

def put (w : World) (b : Nat) (x : Array Value) (T : TypeId) (fz : Nat × Nat) : World := { w with heap := w.heap.setIfInBounds b (.cells x T fz) }

theorem put_heap {w : World} {b : Nat} {x T fz} (hb : b < w.heap.size) (k : Nat) : (put w b x T fz).heap[k]? = if k = b then some (.cells x T fz) else w.heap[k]? := by
  unfold put
  by_cases h : k = b
  · subst h; simp [hb]
  · simp [h, Array.getElem?_setIfInBounds_ne (Ne.symm h)]

theorem setCell_put {w : World} {b o : Nat} {x : Array Value} {T fz} (hb : w.heap[b]? = some (.cells x T fz)) (v : Value) :
    w.setCell ⟨b, o, none⟩ v = put w b (x.setIfInBounds o v) T fz := by
  have hlt : b < w.heap.size := by
    rcases Nat.lt_or_ge b w.heap.size with h' | h'
    · exact h'
    · rw [Array.getElem?_eq_none h'] at hb; cases hb
  unfold World.setCell put
  congr 1
  apply Array.ext_getElem?
  intro k
  simp only [Array.getElem?_modify]
  by_cases h : k = b
  · subst h
    have he : w.heap[k] = .cells x T fz := by rw [Array.getElem?_eq_getElem hlt] at hb; exact Option.some.inj hb
    simp [hlt, he]
  · simp [Ne.symm h]

theorem frozen_put {w : World} {b : Nat} {x y : Array Value} {T fz} (hb : w.heap[b]? = some (.cells x T fz)) (i : Nat) : (put w b y T fz).frozen? ⟨b, i, none⟩ = w.frozen? ⟨b, i, none⟩ := by
  have hlt : b < w.heap.size := by
    rcases Nat.lt_or_ge b w.heap.size with h' | h'
    · exact h'
    · rw [Array.getElem?_eq_none h'] at hb; cases hb
  unfold World.frozen?
  rw [put_heap hlt]; simp [hb]

theorem splice_cons {x : Array Value} {k : Nat} {v : Value} {vs : List Value} (h : k + (v :: vs).length ≤ x.size) : splice (x.setIfInBounds k v) (k + 1) vs = splice x k (v :: vs) := by
  simp at h
  apply Array.ext_getElem?
  intro j
  rw [splice_at (by simp; omega), splice_at (by simp; omega)]
  simp only [List.length_cons]
  by_cases h1 : j = k
  · subst h1
    rw [if_neg (by omega), if_pos (by omega)]
    have hj : j < x.size := by omega
    simp [hj]
  · by_cases h2 : k + 1 ≤ j ∧ j < k + 1 + vs.length
    · rw [if_pos h2, if_pos (by omega), show j - k = (j - (k + 1)) + 1 by omega]; simp
    · rw [if_neg h2, if_neg (by omega), Array.getElem?_setIfInBounds_ne (Ne.symm h1)]

theorem put_put (w : World) (b : Nat) (x y : Array Value) (T fz) : put (put w b x T fz) b y T fz = put w b y T fz := by
  unfold put; simp

theorem splice_nil (x : Array Value) (k : Nat) : splice x k [] = x := by simp [splice]

theorem put_same {w : World} {b : Nat} {x : Array Value} {T fz} (hb : w.heap[b]? = some (.cells x T fz)) : put w b x T fz = w := by
  have hlt : b < w.heap.size := by
    rcases Nat.lt_or_ge b w.heap.size with h' | h'
    · exact h'
    · rw [Array.getElem?_eq_none h'] at hb; cases hb
  have : w.heap.setIfInBounds b (.cells x T fz) = w.heap := by
    apply Array.ext_getElem?
    intro k
    by_cases h : k = b
    · subst h; rw [hb]; simp [hlt]
    · rw [Array.getElem?_setIfInBounds_ne (Ne.symm h)]
  unfold put; rw [this]

theorem run_storeCells {P : Program} {b o : Nat} {T : TypeId} {fz : Nat × Nat} : ∀ (vs : List Value) (i : Nat) (x : Array Value) (w : World), w.heap[b]? = some (.cells x T fz) →
    o + i + vs.length ≤ x.size → (∀ j, o + i ≤ j → j < o + i + vs.length → w.frozen? ⟨b, j, none⟩ = false) → (∀ v ∈ vs, v.oneCell' = true) →
    (storeCells ⟨b, o, none⟩ vs i).run P w = .ok () (put w b (splice x (o + i) vs) T fz)
  | [], i, x, w, hb, _, _, _ => by
    rw [splice_nil, put_same hb]; simp [storeCells]
  | v :: vs, i, x, w, hb, hs, hf, h1 => by
    simp only [List.length_cons] at hs hf
    have hc : w.cell? ⟨b, o + i, none⟩ = some (x[o + i]'(by omega)) := by simp [World.cell?, hb]
    have hf0 := hf (o + i) (by omega) (by omega)
    have hlt : b < w.heap.size := by
      rcases Nat.lt_or_ge b w.heap.size with h' | h'
      · exact h'
      · rw [Array.getElem?_eq_none h'] at hb; cases hb
    have ih := run_storeCells (P := P) (o := o) (T := T) (fz := fz) vs (i + 1) (x.setIfInBounds (o + i) v) (put w b (x.setIfInBounds (o + i) v) T fz)
      (by rw [put_heap hlt, if_pos rfl]) (by simp; omega) (fun j hj hj' => by rw [frozen_put hb]; exact hf j (by omega) (by omega)) (fun u hu => h1 u (by simp [hu]))
    rw [put_put, show o + (i + 1) = o + i + 1 by omega, splice_cons (by simp; omega)] at ih
    simp only [storeCells, Sem.run_bind, Addr.add_lit, run_store P w _ v .plain (h1 v (by simp)), hc, hf0]
    simp only [Bool.false_eq_true, if_false, Result.andThen_ok, setCell_put hb]
    exact ih

theorem run_storeVar {P : Program} {b o n : Nat} {t T : TypeId} {fz : Nat × Nat} {x : Array Value} {w : World} {v : Value} (hn : tySize P t = some n) (hb : w.heap[b]? = some (.cells x T fz))
    (hv : v.cells.size = n) (hs : o + n ≤ x.size) (hf : ∀ j, o ≤ j → j < o + n → w.frozen? ⟨b, j, none⟩ = false) (h1 : ∀ (i : Nat) (u : Value), v.cells[i]? = some u → u.oneCell' = true) :
    (storeVar t ⟨b, o, none⟩ v).run P w = .ok () (put w b (splice x o v.cells.toList) T fz) := by
  have hl : v.cells.toList.length = n := by simpa using hv
  have := run_storeCells (P := P) (b := b) (o := o) (T := T) (fz := fz) v.cells.toList 0 x w hb (by omega) (fun j hj hj' => hf j (by omega) (by omega))
    (fun u hu => by
      obtain ⟨i, hi, rfl⟩ := List.mem_iff_getElem.1 hu
      exact h1 i _ (by simp at hi ⊢))
  unfold storeVar
  simp [ty_size hn, hv]
  simpa using this

-- reading off what a value is
section
variable {c : Ctx} {L : Loc} {w : World} {N : Nat}
theorem Val.dat {x : D} {u : Value} (h : Val c L w N (.d x) u) : Rep w (own c L) N c.γ x u := by cases h; assumption
theorem Val.int {k n} {u : Value} (h : Val c L w N (.d (.int k n)) u) : u = .int k n := by have := h.dat; cases this; rfl
theorem Val.bool {b} {u : Value} (h : Val c L w N (.d (.bool b)) u) : u = .bool b := by have := h.dat; cases this; rfl
theorem Val.agg {cs} {u : Value} (h : Val c L w N (.d (.agg cs)) u) : ∃ vs, u = .agg vs ∧ vs.size = cs.length ∧
    (∀ (i : Nat) (d : D) (v : Value), cs[i]? = some d → vs[i]? = some v → Rep w (own c L) N c.γ d v) ∧ ∀ (i : Nat) (v : Value), vs[i]? = some v → v.oneCell' = true := by
  have := h.dat
  cases this with
  | agg cs vs h1 h2 h3 => exact ⟨vs, rfl, h1, h2, h3⟩
end

theorem Rep.cells {w A N γ d v} (h : Rep w A N γ d v) (hd : d.cell = true ∨ d.isAgg = true) : v.cells.size = d.width ∧ ∀ (i : Nat) (u : Value), v.cells[i]? = some u → u.oneCell' = true := by
  rcases hd with hd | hd
  · have h1 := h.cell hd
    rw [cells_of_one h1]
    refine ⟨by cases d <;> simp_all [D.cell, D.width], fun i u hu => ?_⟩
    cases i with
    | zero => simp at hu; subst hu; exact h1
    | succ i => simp at hu
  · cases d <;> simp [D.isAgg] at hd
    cases h with
    | agg cs vs h1 h2 h3 => exact ⟨h1, h3⟩

theorem Grow.refl (c : Ctx) (L : Loc) (w : World) : Grow c L w c L w :=
  ⟨Nat.le_refl _, fun _ _ _ => rfl, fun _ _ h => h, fun _ _ h => h, fun _ y _ fz h _ => ⟨y, fz, h, rfl⟩, fun _ => Nat.le_refl _, fun _ _ => .inr ⟨rfl, Compat.refl _⟩⟩

theorem Compat.trans {x y z : HObj} (h : Compat x y) (k : Compat y z) : Compat x z := by
  cases x <;> cases y <;> cases z <;> simp_all [Compat]

theorem Grow.trans {c L w c' L' w' c'' L'' w''} (h : Grow c L w c' L' w') (k : Grow c' L' w' c'' L'' w'') : Grow c L w c'' L'' w'' := by
  refine ⟨Nat.le_trans h.size k.size, ?_, ?_, fun n a e => k.hγ n a (h.hγ n a e), ?_, fun g => Nat.le_trans (h.gen g) (k.gen g), ?_⟩
  · intro b hb hlt
    rw [k.old b (fun e => hb (h.ownsub b hlt e)) (Nat.lt_of_lt_of_le hlt h.size), h.old b hb hlt]
  · intro b hlt hb
    exact h.ownsub b hlt (k.ownsub b (Nat.lt_of_lt_of_le hlt h.size) hb)
  · intro b x T fz hb _
    obtain ⟨x', fz', h1, h2⟩ := h.cells' hb
    obtain ⟨x'', fz'', h3, h4⟩ := k.cells' h1
    exact ⟨x'', fz'', h3, by omega⟩
  · intro g e
    have e1 : (L' g).1 = (L g).1 := by have := h.gen g; have := k.gen g; omega
    rcases k.obj g (by omega) with h1 | ⟨h1, h2⟩
    · exact .inl h1
    · rcases h.obj g e1 with h3 | ⟨h3, h4⟩
      · rw [h3] at h2
        refine .inl ?_
        cases hx : (L'' g).2 <;> simp [hx, Compat] at h2 ⊢
      · exact .inr ⟨h1.trans h3, h4.trans h2⟩

theorem Loc.upd_append : ∀ (a b : Wr) (L : Loc), L.upd (a ++ b) = (L.upd a).upd b
  | [], _, _ => rfl
  | (_, _) :: a, b, _ => Loc.upd_append a b _

section
variable (M : GM) (c : Ctx) (N : Nat) (w0 : World) (O0 : Nat → Prop) (L : Loc) (G : M.S) (w : World)

/-- An operation came to u, in world w'. -/
def Did (out : Out M.S) (u : Value) (w' : World) : Prop :=
  ∃ c', Mem M c' N w0 O0 (L.upd out.wr) (out.gs.getD G) w' ∧ Grow c L w c' (L.upd out.wr) w' ∧ Val c' (L.upd out.wr) w' N out.v u
end

section
variable {M : GM} {c : Ctx} {N : Nat} {w0 : World} {O0 : Nat → Prop} {L : Loc} {G : M.S} {w : World}
theorem Did.same (h : Mem M c N w0 O0 L G w) {v : V} {u : Value} (hv : Val c L w N v u) : Did M c N w0 O0 L G w { v } u w := ⟨c, h, Grow.refl .., hv⟩
end

/-- What an operation looks at is what there is. -/
def Sees (Lr L : Loc) : Prop := ∀ g n, Lr.get g n ≠ .dead → L.get g n = Lr.get g n

theorem Sees.els {Lr L : Loc} (h : Sees Lr L) {v : V} {l : List D} (he : elsOf Lr v = some l) : elsOf L v = some l := by
  cases v with
  | ref g n off len =>
    simp only [elsOf] at he ⊢
    have hg := h g n
    cases hx : Lr.get g n <;> rw [hx] at he <;> simp at he
    rw [hg (by rw [hx]; simp), hx]; simpa using he
  | bref g n off len =>
    simp only [elsOf] at he ⊢
    have hg := h g n
    cases hx : Lr.get g n <;> rw [hx] at he <;> simp at he
    rw [hg (by rw [hx]; simp), hx]; simpa using he
  | d x => cases x <;> exact he
  | _ => exact he

theorem get_at {L : Loc} {g n : Nat} {x : HObj} (h : L.get g n = x) (hx : x ≠ .dead) : (L g).1 = n ∧ (L g).2 = x := by
  unfold Loc.get at h
  split at h
  · exact ⟨by assumption, h⟩
  · exact absurd h.symm hx

end Wf

/-
  What operations do: loads and places.
-/
namespace Wf
open Go Go.RowKit

/-- A part of a row of cells. -/
theorem part_rep {w : World} {A : Nat → Prop} {N : Nat} {γ : Nat → Option Addr} {ag : Bool} {n off : Nat} {ds : List D} {d : D} {x : Array Value}
    (hp : partD ag n off ds = some d) (hz : x.size = ds.length)
    (hx : ∀ (i : Nat) (d : D) (u : Value), ds[i]? = some d → x[i]? = some u → Rep w A N γ d u ∧ u.oneCell' = true) :
    ∃ v, Rep w A N γ d v ∧ (if ag then v = .agg (x.extract off (off + n)) ∧ (x.extract off (off + n)).size = n else x[off]? = some v ∧ v.oneCell' = true) ∧
      ∀ (j : Nat) (u : Value), v.cells[j]? = some u → x[off + j]? = some u := by
  unfold partD at hp
  cases ag with
  | true =>
    simp only [if_true] at hp
    split at hp
    · rename_i hle
      simp at hp; subst hp
      have hsz : (x.extract off (off + n)).size = n := by simp; omega
      refine ⟨.agg (x.extract off (off + n)), .agg _ _ (by rw [hsz]; simp; omega) ?_ ?_, by rw [if_pos rfl]; exact ⟨rfl, hsz⟩, ?_⟩
      · intro i e u he hu
        rw [List.getElem?_take] at he
        split at he
        · rw [List.getElem?_drop] at he
          rw [Array.getElem?_extract] at hu
          split at hu
          · exact (hx (off + i) e u he hu).1
          · cases hu
        · cases he
      · intro i u hu
        rw [Array.getElem?_extract] at hu
        split at hu
        · rename_i hi
          have hlt : off + i < x.size := by omega
          exact (hx (off + i) (ds[off + i]'(by omega)) u (by simp) hu).2
        · cases hu
      · intro j u hu
        simp only [Value.cells] at hu
        rw [Array.getElem?_extract] at hu
        split at hu
        · exact hu
        · cases hu
    · cases hp
  | false =>
    simp only [Bool.false_eq_true, if_false] at hp
    have hlt : off < ds.length := by
      rcases Nat.lt_or_ge off ds.length with h | h
      · exact h
      · rw [List.getElem?_eq_none h] at hp; cases hp
    have hxo : x[off]? = some (x[off]'(by omega)) := by simp
    obtain ⟨h1, h2⟩ := hx off d _ hp hxo
    refine ⟨_, h1, by simp only [Bool.false_eq_true, if_false]; exact ⟨hxo, h2⟩, fun j u hu => ?_⟩
    rw [cells_of_one h2] at hu
    cases j with
    | zero => simp at hu; subst hu; simpa using hxo
    | succ j => simp at hu

theorem cells_in {w : World} {b o : Nat} {x : Array Value} {T : TypeId} {fz : Nat × Nat} (hb : w.heap[b]? = some (.cells x T fz)) {u : Value} (h : x[o]? = some u) : w.cell? ⟨b, o, none⟩ = some u := by
  simp [World.cell?, hb, h]

theorem lt_of_heap {w : World} {b : Nat} {o : Obj} (h : w.heap[b]? = some o) : b < w.heap.size := by
  rcases Nat.lt_or_ge b w.heap.size with h' | h'
  · exact h'
  · rw [Array.getElem?_eq_none h'] at h; cases h

section
variable {M : GM} {c : Ctx} {N : Nat} {w0 : World} {O0 : Nat → Prop} {L Lr : Loc} {G : M.S} {w : World}

theorem Mem.get (h : Mem M c N w0 O0 L G w) {g n : Nat} {x : HObj} (hx : L.get g n = x) (hd : x ≠ .dead) : ObjOk c L w N (c.ι g) x := by
  obtain ⟨_, rfl⟩ := get_at hx hd
  exact h.obj g

theorem aload_ok {P : Program} (hM : M.Ok) (hm : Mem M c N w0 O0 L G w) (hs : Sees Lr L) {Go : Option M.S} (hG : ∀ s, Go = some s → s = G) {t : TypeId} {p v : V} {u : Value}
    (ha : aload P M Lr Go t p = some v) (hp : Val c L w N p u) : ∃ u', (Instr.loadAt t u).run P w = .ok u' w ∧ Val c L w N v u' := by
  unfold aload at ha
  cases hag : tyAgg P t with
  | none => rw [hag] at ha; cases ha
  | some ag =>
  cases hn : tySize P t with
  | none => rw [hag, hn] at ha; cases ha
  | some n =>
  rw [hag, hn] at ha
  dsimp only at ha
  -- a value at a place
  have fin : ∀ {b o : Nat} {u' : Value}, u = .pointer (some ⟨b, o, none⟩) → (if ag then ∃ vs, u' = .agg vs ∧ vs.size = n else u'.oneCell' = true) → cellsAt w b o u' →
      (Instr.loadAt t u).run P w = .ok u' w := by
    rintro b o u' rfl h1 h2
    simp only [Instr.loadAt, Instr.sureAddr, Sem.run_bind, Sem.run_pure, Result.andThen_ok, run_loadVar hag hn h1 h2]
  cases p with
  | d x =>
    cases x with
    | at_ x =>
      dsimp only at ha
      split at ha
      · rename_i hc
        obtain ⟨h1, h2, h3⟩ := hc
        simp at ha; subst ha
        have hr := hp.dat
        cases hr with
        | at_ d v' b o g1 g2 g3 g4 =>
          refine ⟨v', fin rfl ?_ g3, .d _ _ g4⟩
          cases ag with
          | true =>
            cases x <;> simp [D.isAgg] at h1
            cases g4 with
            | agg cs vs k1 k2 k3 => simp [D.width] at h2; simp; omega
          | false =>
            simp only [Bool.false_eq_true, if_false]
            exact g4.cell (by simpa using h3)
      · cases ha
    | h k off =>
      dsimp only at ha
      cases Go with
      | none => simp at ha
      | some s =>
        have := hG s rfl; subst this
        simp only [Option.bind_some] at ha
        cases hl : M.load s k off n with
        | none => rw [hl] at ha; cases ha
        | some ds =>
          rw [hl] at ha
          simp only [Option.bind_some] at ha
          obtain ⟨hlen, b, o, hk, hc⟩ := hM.load hm.glob hl
          have hr := hp.dat
          cases hr with
          | h n' off' b' o' hk' =>
            rw [hk] at hk'; simp at hk'; obtain ⟨rfl, rfl⟩ := hk'
            cases ag with
            | true =>
              simp at ha; subst ha
              let f : Nat → Value := fun i => (w.cell? ⟨b, o + off + i, none⟩).getD undef
              let vs : Array Value := ((List.range n).map f).toArray
              have hf : ∀ (i : Nat) (d : D), ds[i]? = some d → d.flat = true ∧ w.cell? ⟨b, o + off + i, none⟩ = some (f i) ∧ (f i).oneCell' = true ∧ ∀ A N, Rep w A N c.γ d (f i) := by
                intro i d hd
                obtain ⟨h1, v, h2, h3, h4⟩ := hc i d hd
                have : f i = v := by simp [f, h2]
                rw [this]; exact ⟨h1, h2, h3, h4⟩
              have hvs : ∀ (i : Nat) (u : Value), vs[i]? = some u → i < n ∧ u = f i := by
                intro i u hu
                have hi : i < n := by
                  rcases Nat.lt_or_ge i n with h | h
                  · exact h
                  · rw [Array.getElem?_eq_none (by simp [vs]; exact h)] at hu; cases hu
                refine ⟨hi, ?_⟩
                simp [vs, hi] at hu; exact hu.symm
              refine ⟨.agg vs, fin rfl (by simp [vs]) ?_, .d _ _ (.agg _ _ (by simp [vs, hlen]) ?_ ?_)⟩
              · intro j u hu
                obtain ⟨h1, rfl⟩ := hvs j u hu
                exact (hf j ds[j] (by simp)).2.1
              · intro i d u hd hu
                obtain ⟨h1, rfl⟩ := hvs i u hu
                exact (hf i d hd).2.2.2 _ _
              · intro i u hu
                obtain ⟨h1, rfl⟩ := hvs i u hu
                exact (hf i ds[i] (by simp)).2.2.1
            | false =>
              simp only [Bool.false_eq_true, if_false] at ha
              cases ds with
              | nil => cases ha
              | cons d r =>
                cases r with
                | cons _ _ => cases ha
                | nil =>
                  simp at ha; subst ha
                  obtain ⟨h1, v, h2, h3, h4⟩ := hc 0 d (by simp)
                  refine ⟨v, fin rfl (by simpa using h3) ?_, .d _ _ (h4 _ _)⟩
                  intro j u hu
                  rw [cells_of_one h3] at hu
                  cases j with
                  | zero => simp at hu; subst hu; simpa using h2
                  | succ j => simp at hu
    | _ => cases ha
  | ptr g l off =>
    dsimp only at ha
    have hg := hs g l
    cases hx : Lr.get g l with
    | box ag' ds =>
      rw [hx] at ha
      dsimp only at ha
      have hL := hg (by rw [hx]; simp)
      rw [hx] at hL
      obtain ⟨b, x, T, fz, h1, h2, h3, h4, h5⟩ := hm.get hL (by simp)
      cases hp with
      | ptr _ _ _ _ k1 k2 =>
        obtain ⟨b', e1, rfl⟩ := k2 (by rw [hL]; simp)
        rw [h1] at e1; cases e1
        cases hpd : partD ag n off ds with
        | none => rw [hpd] at ha; cases ha
        | some d =>
          rw [hpd] at ha; simp at ha; subst ha
          obtain ⟨v, r1, r2, r3⟩ := part_rep hpd h4 h5
          refine ⟨v, fin rfl ?_ (fun j u hu => cells_in h2 (r3 j u hu)), .d _ _ r1⟩
          cases ag with
          | true => simp at r2; simpa using ⟨_, r2.1, by simpa using r2.2⟩
          | false => simp at r2; simpa using r2.2
    | vbox v' =>
      rw [hx] at ha
      dsimp only at ha
      split at ha
      · rename_i hc; obtain ⟨rfl, rfl⟩ := hc
        simp at ha; subst ha
        have hL := hg (by rw [hx]; simp)
        rw [hx] at hL
        obtain ⟨b, u', T, fz, h1, h2, h3, h4, h5⟩ := hm.get hL (by simp)
        cases hp with
        | ptr _ _ _ _ k1 k2 =>
          obtain ⟨b', e1, rfl⟩ := k2 (by rw [hL]; simp)
          rw [h1] at e1; cases e1
          refine ⟨u', fin rfl (by simpa using h4) ?_, h5⟩
          intro j y hy
          rw [cells_of_one h4] at hy
          exact cells_in h2 (by simpa using hy)
      · cases ha
    | _ => rw [hx] at ha; cases ha
  | ept g l i off =>
    dsimp only at ha
    have hg := hs g l
    cases hx : Lr.get g l with
    | arr sz els lv =>
      rw [hx] at ha
      dsimp only at ha
      have hL := hg (by rw [hx]; simp)
      rw [hx] at hL
      have hob := hm.get hL (by simp)
      cases he : els[i]? with
      | none => rw [he] at ha; cases ha
      | some e =>
      rw [he] at ha
      simp only [Option.bind_some] at ha
      have hi : i < els.length := by
        rcases Nat.lt_or_ge i els.length with h | h
        · exact h
        · rw [List.getElem?_eq_none h] at he; cases he
      cases hp with
      | ept _ _ _ _ _ k1 k2 =>
        obtain ⟨b, e1, rfl⟩ := k2 _ _ _ hL hi
        rw [e1] at hob
        obtain ⟨x, T, fz, h2, h3, h4, vs, h5⟩ := hob
        obtain ⟨r1, r2, r3⟩ := h5 i e he
        have one : ∀ x : D, e = x → x.cell = true → ag = false ∧ off = 0 → v = .d x → ∃ u', (Instr.loadAt t (.pointer (some ⟨b, i * sz + off, none⟩))).run P w = .ok u' w ∧ Val c L w N v u' := by
          rintro x rfl hcell ⟨rfl, rfl⟩ rfl
          refine ⟨vs i, fin rfl (by simpa using r1.cell hcell) r3, .d _ _ r1⟩
        cases e with
        | agg cs =>
          dsimp only at ha
          cases hpd : partD ag n off cs with
          | none => rw [hpd] at ha; cases ha
          | some d =>
            rw [hpd] at ha; simp at ha; subst ha
            cases r1' : vs i with
            | agg ys =>
              rw [r1'] at r1 r3
              cases r1 with
              | agg _ _ q1 q2 q3 =>
                obtain ⟨v, p1, p2, p3⟩ := part_rep hpd q1 (fun i d u hd hu => ⟨q2 i d u hd hu, q3 i u hu⟩)
                refine ⟨v, fin rfl ?_ (fun j u hu => ?_), .d _ _ p1⟩
                · cases ag with
                  | true => simp at p2; simpa using ⟨_, p2.1, by simpa using p2.2⟩
                  | false => simp at p2; simpa using p2.2
                · have := r3 (off + j) u (p3 j u hu)
                  rw [← Nat.add_assoc] at this; exact this
            | _ => rw [r1'] at r1; cases r1
        | undef => cases ha
        | tup _ => cases ha
        | _ =>
          dsimp only at ha
          split at ha
          · rename_i hc
            exact one _ rfl rfl hc (by simpa using ha.symm)
          · cases ha
    | _ => rw [hx] at ha; cases ha
  | _ => cases ha

end
end Wf

/-
  What operations do: stores.
-/
namespace Wf
open Go Go.RowKit

theorem Rep.of_flat {w : World} {A N γ} {d : D} {v : Value} (h : Rep w A N γ d v) (hf : d.flat = true) (A' : Nat → Prop) (N' : Nat) : Rep w A' N' γ d v ∧ v.oneCell' = true := by
  cases d <;> simp [D.flat] at hf <;> cases h
  case bool => exact ⟨.bool _, rfl⟩
  case int => exact ⟨.int _ _, rfl⟩
  case str => exact ⟨.str _, rfl⟩
  case nilp => exact ⟨.nilp, rfl⟩
  case nilfn => exact ⟨.nilfn, rfl⟩
  case h => rename_i hγ; exact ⟨.h _ _ _ _ hγ, rfl⟩
  case sl.slE t a cap hc =>
    cases t <;> simp at hf
    exact ⟨.slE _ _ _ (by simp), rfl⟩
  case sl.sl t l _ _ _ cap vs h1 h2 h3 h4 h5 h6 h7 h8 =>
    cases t <;> cases l <;> simp_all

theorem put_cell {w : World} {b : Nat} {x y : Array Value} {T fz} (hb : w.heap[b]? = some (.cells x T fz)) (j : Nat) : (put w b y T fz).cell? ⟨b, j, none⟩ = y[j]? := by
  simp [World.cell?, put_heap (lt_of_heap hb)]

theorem put_cell_ne {w : World} {b k : Nat} {x y : Array Value} {T fz} (hb : w.heap[b]? = some (.cells x T fz)) (h : k ≠ b) (j : Nat) : (put w b y T fz).cell? ⟨k, j, none⟩ = w.cell? ⟨k, j, none⟩ := by
  simp [World.cell?, put_heap (lt_of_heap hb), h]

theorem undef_val {c : Ctx} {L : Loc} {w : World} {N : Nat} : Val c L w N (.d (.tup [])) undef := .d _ _ (.tup [] #[] rfl (by simp))

theorem list_splice {α : Type} {ds xs : List α} {off : Nat} (h : off + xs.length ≤ ds.length) (i : Nat) :
    (ds.take off ++ xs ++ ds.drop (off + xs.length))[i]? = if off ≤ i ∧ i < off + xs.length then xs[i - off]? else ds[i]? := by
  have hk : (ds.take off).length = off := by simp; omega
  rw [List.append_assoc]
  split
  · rename_i hj
    rw [List.getElem?_append_right (by omega), hk, List.getElem?_append_left (by omega)]
  · rename_i hj
    by_cases h1 : i < off
    · rw [List.getElem?_append_left (by omega), List.getElem?_take, if_pos h1]
    · rw [List.getElem?_append_right (by omega), hk, List.getElem?_append_right (by omega), List.getElem?_drop, show off + xs.length + (i - off - xs.length) = i by omega]

theorem set_splice {α : Type} {ds : List α} {x : α} {off : Nat} (h : off < ds.length) : ds.set off x = ds.take off ++ [x] ++ ds.drop (off + 1) := by
  apply List.ext_getElem?
  intro i
  have := list_splice (ds := ds) (xs := [x]) (off := off) (by simp; omega) i
  simp only [List.length_singleton] at this
  rw [this, List.getElem?_set]
  by_cases e : off = i
  · subst e; simp [h]
  · rw [if_neg e, if_neg (by omega)]

section
variable {M : GM} {c : Ctx} {N : Nat} {w0 : World} {O0 : Nat → Prop} {L Lr : Loc} {G : M.S} {w : World}

/-- Into a box. -/
theorem write_box (hM : M.Ok) (hm : Mem M c N w0 O0 L G w) {g l : Nat} {a : Bool} {ds xs : List D} {off b : Nat} {x : Array Value} {T : TypeId} {fz : Nat × Nat} {vs : List Value}
    (hL : L.get g l = .box a ds) (hι : c.ι g = some b) (hb : w.heap[b]? = some (.cells x T fz)) (hr : Reps w (own c L) N c.γ xs vs) (h1 : ∀ v ∈ vs, v.oneCell' = true) (ho : off + xs.length ≤ ds.length) :
    Did M c N w0 O0 L G w { v := .d (.tup []), wr := [(g, (l, .box a (ds.take off ++ xs ++ ds.drop (off + xs.length))))] } undef (put w b (splice x off vs) T fz) := by
  obtain ⟨e1, e2⟩ := get_at hL (by simp)
  obtain ⟨b', x', T', fz', g1, g2, g3, g4, g5⟩ := hm.get hL (by simp)
  rw [hι] at g1; cases g1
  rw [hb] at g2; cases g2
  have hvl := hr.1
  have hsz : (splice x off vs).size = x.size := splice_size (by omega)
  have hw : ∀ k, k ≠ b → (put w b (splice x off vs) T fz).heap[k]? = w.heap[k]? := fun k hk => by rw [put_heap (lt_of_heap hb)]; simp [hk]
  have hbb : (put w b (splice x off vs) T fz).heap[b]? = some (.cells (splice x off vs) T fz) := by rw [put_heap (lt_of_heap hb)]; simp
  have hlen : (ds.take off ++ xs ++ ds.drop (off + xs.length)).length = ds.length := by simp; omega
  have hz : ∀ y T' fz', w.heap[b]? = some (.cells y T' fz') → ∃ y' fz'', (put w b (splice x off vs) T fz).heap[b]? = some (.cells y' T' fz'') ∧ y'.size = y.size := by
    intro y T' fz' hy; rw [hb] at hy; cases hy; exact ⟨_, _, hbb, hsz⟩
  have hg := Grow.write hm (x := .box a (ds.take off ++ xs ++ ds.drop (off + xs.length))) hι (by rw [e2]; rfl) (by rw [e2]; exact hlen) (by simp [put]) hw hz
  have hmm := Mem.write hM hm (x := .box a (ds.take off ++ xs ++ ds.drop (off + xs.length))) hι (by rw [e2]; rfl) (by rw [e2]; exact hlen) (by simp [put]) hw hz rfl rfl rfl
    ⟨b, _, T, fz, rfl, hbb, fun i hi => by rw [frozen_put hb]; exact g3 i (by omega), by rw [hsz, hlen]; exact g4, by
      intro i d u hd hu
      rw [list_splice ho] at hd
      rw [splice_at (by omega)] at hu
      rw [hvl] at hu
      split at hd
      · rename_i hi
        rw [if_pos hi] at hu
        exact ⟨(hr.2 _ _ _ hd hu).grow hg, h1 u (List.mem_of_getElem? hu)⟩
      · rename_i hi
        rw [if_neg hi] at hu
        exact ⟨((g5 i d u hd hu).1).grow hg, (g5 i d u hd hu).2⟩⟩
  rw [e1] at hg hmm
  exact ⟨c, hmm, hg, undef_val⟩

/-- Into a place of one cell. -/
theorem write_one (hM : M.Ok) (hm : Mem M c N w0 O0 L G w) {g l : Nat} {y z : HObj} {b : Nat} {u v : Value} {T : TypeId} {fz : Nat × Nat}
    (hL : L.get g l = y) (hy : y.live = true) (hι : c.ι g = some b) (hb : w.heap[b]? = some (.cells #[u] T fz)) (hf : Unfrozen w b 1) (h1 : v.oneCell' = true) (hz : Compat y z)
    (hv : (∃ x, z = .box false [x] ∧ Rep w (own c L) N c.γ x v) ∨ (∃ q, z = .vbox q ∧ Val c L w N q v)) :
    Did M c N w0 O0 L G w { v := .d (.tup []), wr := [(g, (l, z))] } undef (put w b (splice #[u] 0 [v]) T fz) := by
  have hyd : y ≠ .dead := by rintro rfl; cases hy
  obtain ⟨e1, e2⟩ := get_at hL hyd
  have hw : ∀ k, k ≠ b → (put w b (splice #[u] 0 [v]) T fz).heap[k]? = w.heap[k]? := fun k hk => by rw [put_heap (lt_of_heap hb)]; simp [hk]
  have hbb : (put w b (splice #[u] 0 [v]) T fz).heap[b]? = some (.cells (splice #[u] 0 [v]) T fz) := by rw [put_heap (lt_of_heap hb)]; simp
  have hsp : splice #[u] 0 [v] = #[v] := by simp [splice]
  have hzz : ∀ y T' fz', w.heap[b]? = some (.cells y T' fz') → ∃ y' fz'', (put w b (splice #[u] 0 [v]) T fz).heap[b]? = some (.cells y' T' fz'') ∧ y'.size = y.size := by
    intro y T' fz' hy; rw [hb] at hy; cases hy; exact ⟨_, _, hbb, by rw [hsp]; rfl⟩
  have hg := Grow.write hm (x := z) hι (by rw [e2]; exact hy) (by rw [e2]; exact hz) (by simp [put]) hw hzz
  have hfz : Unfrozen (put w b (splice #[u] 0 [v]) T fz) b 1 := fun i hi => by rw [frozen_put hb]; exact hf i hi
  have hmm := Mem.write hM hm (x := z) hι (by rw [e2]; exact hy) (by rw [e2]; exact hz) (by simp [put]) hw hzz rfl rfl rfl (by
    rcases hv with ⟨x, rfl, hx⟩ | ⟨q, rfl, hq⟩
    · refine ⟨b, #[v], T, fz, rfl, by rw [← hsp]; exact hbb, by simpa using hfz, rfl, ?_⟩
      intro i d w' hd hw'
      cases i with
      | zero => simp at hd hw'; subst hd; subst hw'; exact ⟨hx.grow hg, h1⟩
      | succ i => simp at hd
    · exact ⟨b, v, T, fz, rfl, by rw [← hsp]; exact hbb, hfz, h1, hq.grow hg⟩)
  rw [e1] at hg hmm
  exact ⟨c, hmm, hg, undef_val⟩

/-- Into an element of a row. -/
theorem write_elt (hM : M.Ok) (hm : Mem M c N w0 O0 L G w) {g l i off sz : Nat} {els : List D} {e e' : D} {b : Nat} {x : Array Value} {T : TypeId} {fz : Nat × Nat} {vs : List Value}
    (hL : L.get g l = .arr sz els true) (hι : c.ι g = some b) (hb : w.heap[b]? = some (.cells x T fz)) (he : els[i]? = some e) (ho : off + vs.length ≤ sz)
    (hv : ∀ v, Rep w (own c L) N c.γ e v → v.cells.size = sz → ∃ v', Rep w (own c L) N c.γ e' v' ∧ v'.cells.size = sz ∧
      ∀ (q : Nat) (u : Value), v'.cells[q]? = some u → if off ≤ q ∧ q < off + vs.length then vs[q - off]? = some u else v.cells[q]? = some u) :
    Did M c N w0 O0 L G w { v := .d (.tup []), wr := [(g, (l, .arr sz (els.set i e') true))] } undef (put w b (splice x (i * sz + off) vs) T fz) := by
  obtain ⟨e1, e2⟩ := get_at hL (by simp)
  have hob := hm.get hL (by simp)
  rw [hι] at hob
  obtain ⟨x', T', fz', g2, g3, g4, us, g5⟩ := hob
  rw [hb] at g2; cases g2
  have hi : i < els.length := by
    rcases Nat.lt_or_ge i els.length with h | h
    · exact h
    · rw [List.getElem?_eq_none h] at he; cases he
  have hlt : i * sz + sz ≤ x.size := by
    have : (i + 1) * sz ≤ els.length * sz := Nat.mul_le_mul_right _ hi
    rw [Nat.succ_mul] at this; omega
  obtain ⟨r1, r2, r3⟩ := g5 i e he
  obtain ⟨v', k1, k2, k3⟩ := hv _ r1 r2
  have hsz : (splice x (i * sz + off) vs).size = x.size := splice_size (by omega)
  have hw : ∀ k, k ≠ b → (put w b (splice x (i * sz + off) vs) T fz).heap[k]? = w.heap[k]? := fun k hk => by rw [put_heap (lt_of_heap hb)]; simp [hk]
  have hbb : (put w b (splice x (i * sz + off) vs) T fz).heap[b]? = some (.cells (splice x (i * sz + off) vs) T fz) := by rw [put_heap (lt_of_heap hb)]; simp
  have hz : ∀ y T' fz', w.heap[b]? = some (.cells y T' fz') → ∃ y' fz'', (put w b (splice x (i * sz + off) vs) T fz).heap[b]? = some (.cells y' T' fz'') ∧ y'.size = y.size := by
    intro y T' fz' hy; rw [hb] at hy; cases hy; exact ⟨_, _, hbb, hsz⟩
  have hcp : Compat (L g).2 (.arr sz (els.set i e') true) := by rw [e2]; exact ⟨rfl, by simp⟩
  have hg := Grow.write hm (x := .arr sz (els.set i e') true) hι (by rw [e2]; rfl) hcp (by simp [put]) hw hz
  have hmm := Mem.write hM hm (x := .arr sz (els.set i e') true) hι (by rw [e2]; rfl) hcp (by simp [put]) hw hz rfl rfl rfl
    ⟨_, T, fz, hbb, fun k hk => by rw [frozen_put hb]; exact g3 k (by omega), by rw [hsz]; simpa using g4, fun k => if k = i then v' else us k, by
      intro k d hd
      by_cases ek : k = i
      · subst ek
        rw [List.getElem?_set, if_pos rfl, if_pos hi] at hd
        cases hd
        simp only [if_true]
        refine ⟨k1.grow hg, k2, fun q u hu => ?_⟩
        rw [put_cell hb, splice_at (by omega)]
        have hq : q < sz := by
          rcases Nat.lt_or_ge q v'.cells.size with h | h
          · omega
          · rw [Array.getElem?_eq_none h] at hu; cases hu
        have := k3 q u hu
        by_cases hc : off ≤ q ∧ q < off + vs.length
        · rw [if_pos hc] at this
          rw [if_pos (by omega), show k * sz + q - (k * sz + off) = q - off by omega]; exact this
        · rw [if_neg hc] at this
          rw [if_neg (by omega)]
          have := r3 q u this
          simpa [World.cell?, hb] using this
      · rw [List.getElem?_set, if_neg (Ne.symm ek)] at hd
        obtain ⟨p1, p2, p3⟩ := g5 k d hd
        simp only [ek, if_false]
        refine ⟨p1.grow hg, p2, fun q u hu => ?_⟩
        have hq : q < sz := by
          rcases Nat.lt_or_ge q (us k).cells.size with h | h
          · omega
          · rw [Array.getElem?_eq_none h] at hu; cases hu
        rw [put_cell hb, splice_at (by omega), if_neg]
        · have := p3 q u hu
          simpa [World.cell?, hb] using this
        · rcases Nat.lt_or_gt_of_ne ek with h | h
          · have : (k + 1) * sz ≤ i * sz := Nat.mul_le_mul_right _ h
            rw [Nat.succ_mul] at this; omega
          · have : (i + 1) * sz ≤ k * sz := Nat.mul_le_mul_right _ h
            rw [Nat.succ_mul] at this; omega⟩
  rw [e1] at hg hmm
  exact ⟨c, hmm, hg, undef_val⟩

/-- What is referred to is written no more. -/
theorem toD_ok (hm : Mem M c N w0 O0 L G w) (hs : Sees Lr L) {v : V} {u : Value} {x : D} {wr : Wr} (ht : toD Lr v = some (x, wr)) (hv : Val c L w N v u) :
    Mem M c N w0 O0 (L.upd wr) G w ∧ Grow c L w c (L.upd wr) w ∧ Rep w (own c (L.upd wr)) N c.γ x u := by
  cases v with
  | d y =>
    simp [toD] at ht
    obtain ⟨rfl, rfl⟩ := ht
    exact ⟨hm, Grow.refl .., hv.dat⟩
  | ref g n off len =>
    simp only [toD] at ht
    cases hx : Lr.get g n with
    | arr sz els lv =>
      rw [hx] at ht
      dsimp only at ht
      split at ht
      · rename_i hle
        simp at ht
        obtain ⟨rfl, rfl⟩ := ht
        have hL := hs g n (by rw [hx]; simp)
        rw [hx] at hL
        obtain ⟨e1, e2⟩ := get_at hL (by simp)
        have hl := Mem.less hm g (.arr sz els false) (.inr ⟨sz, els, lv, e2, rfl⟩)
        have hg := Grow.less hm g (.arr sz els false) (.inr ⟨sz, els, lv, e2, rfl⟩)
        rw [e1] at hl hg
        refine ⟨hl, hg, ?_⟩
        cases hv with
        | ref _ _ _ _ _ k1 k2 =>
          obtain ⟨_, a, cap, rfl, h4, h5⟩ := k2 _ _ _ hL
          have hlen : ((els.drop off).take len).length = len := by simp; omega
          by_cases h0 : len = 0
          · subst h0
            simpa using Rep.slE (w := w) (A := own c (L.upd [(g, (n, .arr sz els false))])) (N := N) (γ := c.γ) .fresh a cap (by simp)
          · rcases h5 with h5 | ⟨b, y, T, fz, q1, rfl, q3, q4⟩
            · omega
            · have hob := hm.get hL (by simp)
              rw [q1] at hob
              obtain ⟨x', T', fz', g2, g3, g4, us, g5⟩ := hob
              have hmine := hm.mine g b q1 (by rw [e2]; simp)
              have hno : ¬ own c (L.upd [(g, (n, .arr sz els false))]) b := by
                rintro (ho | ⟨k, h6, h7⟩)
                · exact hmine.2.2 ho
                · by_cases ek : k = g
                  · subst ek; simp [Loc.upd, Loc.set_same, HObj.live] at h7
                  · simp only [Loc.upd, Loc.set_ne _ _ ek] at h7
                    exact ek (hm.inj k g b h6 q1 (by intro e; rw [e] at h7; cases h7) (by rw [e2]; simp))
              have hget : ∀ (i : Nat) (d : D), ((els.drop off).take len)[i]? = some d → els[off + i]? = some d := by
                intro i d hd
                rw [List.getElem?_take] at hd
                split at hd
                · rwa [List.getElem?_drop] at hd
                · cases hd
              have := Rep.sl (w := w) (A := own c (L.upd [(g, (n, .arr sz els false))])) (N := N) (γ := c.γ) .fresh ((els.drop off).take len) b (off * sz) sz cap (fun i => us (off + i))
                (by intro e; rw [e] at hlen; simp at hlen; omega) (by omega) (by simp) hno (fun _ => hmine.1) hmine.2.1
                (fun i d hd => ((g5 _ d (hget i d hd)).1).grow hg)
                (fun i hi => by
                  rw [hlen] at hi
                  obtain ⟨p1, p2, p3⟩ := g5 (off + i) (els[off + i]'(by omega)) (by simp)
                  refine ⟨p2, fun q u hu => ?_⟩
                  have := p3 q u hu
                  rwa [Nat.add_mul] at this)
              rw [hlen] at this
              exact this
      · cases ht
    | _ => rw [hx] at ht; cases ht
  | _ => cases ht

end
end Wf

/-
  What operations do: a store, whole; places.
-/
namespace Wf
open Go Go.RowKit

section
variable {M : GM} {c : Ctx} {N : Nat} {w0 : World} {O0 : Nat → Prop} {L Lr : Loc} {G : M.S} {w : World}

theorem Mem.box (hm : Mem M c N w0 O0 L G w) {g l : Nat} {a : Bool} {ds : List D} (hL : L.get g l = .box a ds) :
    ∃ (b : Nat) (x : Array Value) (T : TypeId) (fz : Nat × Nat), c.ι g = some b ∧ w.heap[b]? = some (.cells x T fz) ∧ Unfrozen w b x.size ∧ x.size = ds.length := by
  obtain ⟨b, x, T, fz, h1, h2, h3, h4, _⟩ := hm.get hL (by simp)
  exact ⟨b, x, T, fz, h1, h2, h3, h4⟩

theorem storeAt_run {P : Program} {t : TypeId} {n b o : Nat} {T : TypeId} {fz : Nat × Nat} {x : Array Value} {v : Value} (hn : tySize P t = some n) (hb : w.heap[b]? = some (.cells x T fz))
    (hv : v.cells.size = n) (hs : o + n ≤ x.size) (hf : Unfrozen w b x.size) (h1 : ∀ (i : Nat) (u : Value), v.cells[i]? = some u → u.oneCell' = true) :
    (Instr.storeAt t (.pointer (some ⟨b, o, none⟩)) v).run P w = .ok () (put w b (splice x o v.cells.toList) T fz) := by
  simp only [Instr.storeAt, Instr.sureAddr, Sem.run_bind, Sem.run_pure, Result.andThen_ok]
  exact run_storeVar hn hb hv hs (fun j _ hj => hf j (by omega)) h1

theorem reps_agg {w : World} {A N γ} {cs : List D} {vs : Array Value} (h : Rep w A N γ (.agg cs) (.agg vs)) : Reps w A N γ cs vs.toList ∧ ∀ v ∈ vs.toList, v.oneCell' = true := by
  cases h with
  | agg _ _ h1 h2 h3 =>
    refine ⟨⟨by simpa using h1, fun i d v hd hv => h2 i d v hd (by simpa using hv)⟩, fun v hv => ?_⟩
    obtain ⟨i, hi, rfl⟩ := List.mem_iff_getElem.1 hv
    exact h3 i _ (by simp)

theorem reps_one {w : World} {A N γ} {d : D} {v : Value} (h : Rep w A N γ d v) : Reps w A N γ [d] [v] := Reps.cons h Reps.nil

theorem storeH_ok {P : Program} (hM : M.Ok) (hm : Mem M c N w0 O0 L G w) {t : TypeId} {n k off : Nat} {xs : List D} {vs : List Value} {G' : M.S} {u v : Value} (hn : tySize P t = some n)
    (hst : M.store G k off xs = some G') (hu : Val c L w N (.d (.h k off)) u) (hvc : v.cells.toList = vs) (hvl : vs.length = n) (hr : Reps w (own c L) N c.γ xs vs) (hfl : ∀ d ∈ xs, d.flat = true) :
    ∃ w', (Instr.storeAt t u v).run P w = .ok () w' ∧ Did M c N w0 O0 L G w { v := .d (.tup []), gs := some G' } undef w' := by
  have hfl' : ∀ N, Reps w c.O N c.γ xs vs := fun N' => ⟨hr.1, fun i d v hd hv => ((hr.2 i d v hd hv).of_flat (hfl d (List.mem_of_getElem? hd)) _ _).1⟩
  have h1 : ∀ v ∈ vs, v.oneCell' = true := by
    intro v hv
    obtain ⟨i, hi, rfl⟩ := List.mem_iff_getElem.1 hv
    have hd : xs[i]? = some (xs[i]'(by rw [← hr.1]; exact hi)) := by simp
    exact ((hr.2 i _ _ hd (by simp)).of_flat (hfl _ (List.mem_of_getElem? hd)) (fun _ => False) 0).2
  have hr0 := hu.dat
  cases hr0 with
  | h _ _ b o hk =>
    -- the block
    obtain ⟨b', o', hk', hO, hcell, _⟩ := hM.store (w' := w) hm.glob hst hfl' h1
    rw [hk] at hk'; cases hk'
    have hxl : xs.length = n := by rw [← hr.1]; exact hvl
    by_cases hn0 : n = 0
    · -- nothing is stored
      subst hn0
      have hxs : xs = [] := List.eq_nil_of_length_eq_zero hxl
      have hvs : vs = [] := List.eq_nil_of_length_eq_zero hvl
      have hrun : (Instr.storeAt t (.pointer (some ⟨b, o + off, none⟩)) v).run P w = .ok () w := by
        have : v.cells.size = 0 := by have := congrArg List.length hvc; simpa [hvs] using this
        simp [Instr.storeAt, Instr.sureAddr, storeVar, ty_size hn, this]
        have e : v.cells.toList = [] := by rw [hvc, hvs]
        simp [e, storeCells]
      refine ⟨w, hrun, c, { hm with glob := ?_ }, Grow.refl .., undef_val⟩
      obtain ⟨_, _, _, _, _, hfin⟩ := hM.store (w' := w) hm.glob hst hfl' h1
      exact hfin (fun _ _ => rfl) rfl (by simp [hvs]) (fun _ _ => rfl) (fun _ => rfl) (fun x T fz h => ⟨x, h, rfl⟩)
    · have hc0 := (hcell 0 (by omega)).1
      obtain ⟨z, hz⟩ := Option.isSome_iff_exists.1 hc0
      have hblk : ∃ x T fz, w.heap[b]? = some (.cells x T fz) := by
        unfold World.cell? at hz
        split at hz
        · rename_i x T fz hb; exact ⟨x, T, fz, hb⟩
        · cases hz
      obtain ⟨x, T, fz, hb⟩ := hblk
      have hle : o + off + n ≤ x.size := by
        have := (hcell (n - 1) (by omega)).1
        obtain ⟨z, hz⟩ := Option.isSome_iff_exists.1 this
        simp [World.cell?, hb] at hz
        obtain ⟨h, _⟩ := Array.getElem?_eq_some_iff.1 hz
        omega
      have hrun : (Instr.storeAt t (.pointer (some ⟨b, o + off, none⟩)) v).run P w = .ok () (put w b (splice x (o + off) vs) T fz) := by
        simp only [Instr.storeAt, Instr.sureAddr, Sem.run_bind, Sem.run_pure, Result.andThen_ok]
        rw [← hvc]
        exact run_storeVar hn hb (by have := congrArg List.length hvc; simp at this; omega) hle
          (fun j hj hj' => by have := (hcell (j - (o + off)) (by omega)).2; rwa [show o + off + (j - (o + off)) = j by omega] at this)
          (fun i u hu => h1 u (by rw [← hvc]; exact List.mem_of_getElem? (by simpa using hu)))
      have hsz : (splice x (o + off) vs).size = x.size := splice_size (by omega)
      have hw : ∀ k, k ≠ b → (put w b (splice x (o + off) vs) T fz).heap[k]? = w.heap[k]? := fun k hk => by rw [put_heap (lt_of_heap hb)]; simp [hk]
      have hbb : (put w b (splice x (o + off) vs) T fz).heap[b]? = some (.cells (splice x (o + off) vs) T fz) := by rw [put_heap (lt_of_heap hb)]; simp
      have hg : Grow c L w c L (put w b (splice x (o + off) vs) T fz) := by
        refine ⟨by simp [put], fun k hk _ => hw k fun e => hk (.inl (e ▸ hO)), fun _ _ h => h, fun _ _ h => h, ?_, fun _ => Nat.le_refl _, fun _ _ => .inr ⟨rfl, Compat.refl _⟩⟩
        intro k y T' fz' hy _
        by_cases e : k = b
        · subst e; rw [hb] at hy; cases hy; exact ⟨_, _, hbb, hsz⟩
        · exact ⟨y, fz', by rw [hw k e]; exact hy, rfl⟩
      obtain ⟨_, _, hk3, _, _, hfin⟩ := hM.store (w' := put w b (splice x (o + off) vs) T fz) hm.glob hst hfl' h1
      rw [hk] at hk3; cases hk3
      have hglob := hfin hw (by simp [put])
        (fun i v hv => by
          have hi : i < vs.length := by
            rcases Nat.lt_or_ge i vs.length with h | h
            · exact h
            · rw [List.getElem?_eq_none h] at hv; cases hv
          rw [put_cell hb, splice_at (by omega), if_pos (by omega), show o + off + i - (o + off) = i by omega]; exact hv)
        (fun j hj => by
          rw [put_cell hb, splice_at (by omega), if_neg]
          · simp [World.cell?, hb]
          · rintro ⟨a1, a2⟩; exact hj (j - (o + off)) (by omega) (by omega))
        (fun j => frozen_put hb j)
        (fun y T' fz' hy => by rw [hb] at hy; cases hy; exact ⟨_, hbb, hsz⟩)
      refine ⟨_, hrun, c, ⟨fun g => ?_, hm.inj, fun g y h1 h2 => ?_, hglob, by simp [put]; exact hm.size, hm.size0, hm.os, hm.tape, hm.output, fun y hy hO' => ?_, fun y hy => by simp [put]; exact hm.osub y hy⟩, hg, undef_val⟩
      · exact (hm.obj g).grow hg fun y hy hd => hw y fun e => (hm.mine g y hy hd).2.2 (e ▸ hO)
      · simp [put]; exact hm.mine g y h1 h2
      · by_cases e : y = b
        · subst e
          rcases (hm.osub _ hO).2 with h | h
          · exact absurd h hO'
          · omega
        · rw [hw y e]; exact hm.keep y hy hO'

end
end Wf

