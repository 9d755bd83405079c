/-
  A machine over plain data: what an operation of a region does, if all goes well.
-/
import Derived.Test.YtpdhbdacbiamdaaWfA
set_option linter.unusedVariables false
set_option linter.unusedSimpArgs false
set_option linter.unnecessarySimpa false
namespace Wf
open Go Go.RowKit

/-- What a slot holds: data, or a place of the frame's own memory: object g in its n-th life. -/
inductive V where
  | d (x : D)
  | ptr (g n off : Nat)
  | ept (g n i off : Nat)
  | ref (g n off len : Nat)
  | bref (g n off len : Nat)
  | map (g n : Nat)
  | clo (f : FuncId) (first caps : List V)
  | tup (l : List V)
  deriving Inhabited

mutual
def V.ids : V → List Nat
  | .d _ => []
  | .ptr g _ _ | .ept g _ _ _ | .ref g _ _ _ | .bref g _ _ _ | .map g _ => [g]
  | .clo _ a b => V.idsL a ++ V.idsL b
  | .tup l => V.idsL l
def V.idsL : List V → List Nat
  | [] => []
  | v :: r => v.ids ++ V.idsL r
end

/-- The frame's own memory. -/
inductive HObj where
  | dead
  | box (agg : Bool) (ds : List D)
  | vbox (v : V)
  | arr (sz : Nat) (els : List D) (live : Bool)
  | map (k : IntKind) (es : List (Int × D))
  deriving Inhabited

/-- Of each place its life's number, and what is there. -/
abbrev Loc := Nat → Nat × HObj
def Loc.get (L : Loc) (g n : Nat) : HObj := if (L g).1 = n then (L g).2 else .dead
def Loc.set (L : Loc) (g : Nat) (x : Nat × HObj) : Loc := fun k => if k = g then x else L k
def Loc.new (L : Loc) (g : Nat) : Nat := (L g).1 + 1
abbrev Wr := List (Nat × (Nat × HObj))

/-- Memory that outlives the frame: an interface; what it is, is said elsewhere. -/
structure GM where
  S : Type
  rel : S → (Nat → Option Addr) → (Nat → Prop) → World → Prop
  load : S → Nat → Nat → Nat → Option (List D)
  store : S → Nat → Nat → List D → Option S

/-- What a function answers: sizes of its results' elements, and the answer. -/
inductive Spec (M : GM) where
  | pure (szs : List Nat) (F : List D → Option D)
  | st (szs : List Nat) (F : List D → M.S → Option (D × M.S))

abbrev Env (M : GM) := FuncId → Option (Spec M)

def D.flat : D → Bool
  | .bool _ | .int _ _ | .str _ | .nilp | .nilfn | .h _ _ => true
  | .sl .lent [] => true
  | _ => false

-- types
def tyAgg (P : Program) (t : TypeId) : Option Bool :=
  match P.underlying t with
  | some (.struct _) | some (.array _ _) => some true
  | some _ => some false
  | none => none
def tySize (P : Program) (t : TypeId) : Option Nat := (P.info? t).map (·.size)
def tyFld (P : Program) (s f : Nat) : Option (Nat × Nat) :=
  match P.underlying s with
  | some (.struct fs) => (fs[f]?).bind fun x => (P.info? x.type).map fun i => (x.offset, i.size)
  | _ => none
def tyFldAgg (P : Program) (s f : Nat) : Option Bool :=
  match P.underlying s with
  | some (.struct fs) => (fs[f]?).bind fun x => tyAgg P x.type
  | _ => none
def tyElem (P : Program) (t : TypeId) : Option Nat :=
  match P.underlying t with
  | some (.slice e) => (P.info? e).map (·.size)
  | _ => none
def tyArr (P : Program) (t : TypeId) : Option (Nat × Nat × Bool) :=
  match P.underlying t with
  | some (.array n e) => (P.info? e).bind fun i => (tyAgg P e).map fun a => (n, i.size, a)
  | _ => none
def tyStr (P : Program) (t : TypeId) : Bool :=
  match P.underlying t with
  | some .string => true
  | _ => false
def tyBool (P : Program) (t : TypeId) : Bool :=
  match P.underlying t with
  | some .bool => true
  | _ => false
def tyInt (P : Program) (t : TypeId) : Option IntKind :=
  match P.underlying t with
  | some (.int k) => some k
  | _ => none

def cellD : Value → Option D
  | .int k n => some (.int k n)
  | .bool b => some (.bool b)
  | .string s => some (.str s)
  | .pointer none => some .nilp
  | .slice none 0 0 => some (.sl .full [])
  | .nilFunc => some .nilfn
  | _ => none
def valD : Value → Option D
  | .agg cs => (cs.toList.mapM cellD).map .agg
  | v => cellD v
def tyZero (P : Program) (t : TypeId) : Option D := ((P.info? t).bind (·.zero)).bind valD

def evalV (slots : List V) : Operand → V
  | .tmp t => slots.getD t (.d .undef)
  | .const v => match cellD v with
    | some d => .d d
    | none => .d .undef
  | .global _ => .d .undef
  | .func f => .clo f [] []

def V.dat : V → Option D
  | .d x => some x
  | _ => none

/-- The data of a slice, read only. -/
def elsOf (L : Loc) : V → Option (List D)
  | .d (.sl _ l) => some l
  | .ref g n off len => match L.get g n with
    | .arr _ els _ => if off + len ≤ els.length then some ((els.drop off).take len) else none
    | _ => none
  | .bref g n off len => match L.get g n with
    | .box _ ds => if off + len ≤ ds.length then some ((ds.drop off).take len) else none
    | _ => none
  | _ => none

/-- An argument, as the callee reads it. -/
def lend1 (L : Loc) : V → Option D
  | .d x => some x
  | .ref g n off len => (elsOf L (.ref g n off len)).map (.sl .lent)
  | .bref g n off len => (elsOf L (.bref g n off len)).map (.sl .lent)
  | _ => none

def lend2 (L : Loc) : V → Option D
  | .ptr g n off => match off, L.get g n with
    | 0, .box true ds => some (.at_ (.agg ds))
    | 0, .box false [x] => some (.at_ x)
    | 0, .vbox v => (lend1 L v).map .at_
    | _, _ => none
  | v => lend1 L v

def lend (L : Loc) : V → Option D
  | .clo f a b => (a.mapM (lend2 L)).bind fun a' => (b.mapM (lend2 L)).map fun b' => .fn f a' b'
  | v => lend2 L v

structure Out (S : Type) where
  v : V
  wr : Wr := []
  gs : Option S := none

/-- Data for good: what is referred to is written no more. -/
def toD (L : Loc) : V → Option (D × Wr)
  | .d x => some (x, [])
  | .ref g n off len => match L.get g n with
    | .arr sz els _ => if off + len ≤ els.length then some (.sl .fresh ((els.drop off).take len), [(g, (n, .arr sz els false))]) else none
    | _ => none
  | _ => none

def toDs (L : Loc) : List V → Option (List D × Wr)
  | [] => some ([], [])
  | v :: r => (toD L v).bind fun (x, w) => (toDs L r).map fun (xs, ws) => (x :: xs, w ++ ws)

def ibin (op : BinOp) (k : IntKind) (a b : Int) : Option D :=
  match op with
  | .add => some (.int k (k.wrap (a + b)))
  | .sub => some (.int k (k.wrap (a - b)))
  | .mul => some (.int k (k.wrap (a * b)))
  | .quo => if b = 0 then none else some (.int k (k.wrap (a.tdiv b)))
  | .rem => if b = 0 then none else some (.int k (a.tmod b))
  | .and => some (.int k (bits .and k a b))
  | .or => some (.int k (bits .or k a b))
  | .xor => some (.int k (bits .xor k a b))
  | .andNot => some (.int k (bits .andNot k a b))
  | .eql => some (.bool (a == b))
  | .neq => some (.bool (a != b))
  | .lss => some (.bool (decide (a < b)))
  | .leq => some (.bool (decide (a ≤ b)))
  | .gtr => some (.bool (decide (a > b)))
  | .geq => some (.bool (decide (a ≥ b)))
  | _ => none

def ishift (op : BinOp) (k : IntKind) (a b : Int) : Option D :=
  if b < 0 then none else
  match op with
  | .shl => some (.int k (k.wrap (a * 2 ^ min b.toNat k.bits)))
  | .shr => some (.int k (a.fdiv (2 ^ min b.toNat k.bits)))
  | _ => none

def abin (bt : Bool) (op : BinOp) (a b : D) : Option D :=
  match op, a, b with
  | .shl, .int k x, .int _ y | .shr, .int k x, .int _ y => ishift op k x y
  | _, .int k x, .int k' y => if k = k' then ibin op k x y else none
  | .eql, .bool x, .bool y => if bt then some (.bool (x == y)) else none
  | .neq, .bool x, .bool y => if bt then some (.bool (x != y)) else none
  | _, _, _ => none

def aun (op : UnOp) (a : D) : Option D :=
  match op, a with
  | .neg, .int k n => some (.int k (k.wrap (0 - n)))
  | .not, .bool b => some (.bool !b)
  | .xor, .int k n => some (.int k (bits .xor k (if k.signed then -1 else k.max) n))
  | _, _ => none

/-- Parts laid over zeros. -/
def lay (places : Nat → Option (Nat × Nat)) : List D → List (Nat × D) → Option (List D)
  | cs, [] => some cs
  | cs, (i, d) :: r => match places i with
    | none => none
    | some (off, size) =>
      match d with
      | .agg xs => if xs.length = size ∧ off + size ≤ cs.length then lay places (cs.take off ++ xs ++ cs.drop (off + size)) r else none
      | .undef | .tup _ => none
      | x => if size = 1 ∧ off + 1 ≤ cs.length then lay places (cs.set off x) r else none

def partD (agg : Bool) (size off : Nat) (cs : List D) : Option D :=
  if agg then (if off + size ≤ cs.length then some (.agg ((cs.drop off).take size)) else none) else cs[off]?

/-- '==' by type. -/
def aeqFs (P : Program) (eq : TypeId → D → D → Option Bool) (xs ys : List D) : List Field → Option Bool
  | [] => some true
  | f :: fs => if f.name = "_" then none else match tyAgg P f.type, tySize P f.type with
    | some ag, some n => match partD ag n f.offset xs, partD ag n f.offset ys with
      | some x, some y => (eq f.type x y).bind fun r => (aeqFs P eq xs ys fs).map fun s => r && s
      | _, _ => none
    | _, _ => none

def aeq (P : Program) : Nat → TypeId → D → D → Option Bool
  | 0, _, _, _ => none
  | d + 1, t, x, y => match P.underlying t with
    | some (.int _) => match x, y with
      | .int k a, .int k' b => if k = k' then some (a == b) else none
      | _, _ => none
    | some .bool => match x, y with
      | .bool a, .bool b => some (a == b)
      | _, _ => none
    | some (.struct fs) => match x, y with
      | .agg xs, .agg ys => if P.stoodInHeld t then none else aeqFs P (aeq P d) xs ys fs.toList
      | _, _ => none
    | _ => none

/-- Results that a call hands over: new rows are the frame's own from then on. -/
def adopt1 (L : Loc) (id sz : Nat) : D → V × Wr
  | .sl .own els => (.ref id (L.new id) 0 els.length, [(id, (L.new id, .arr sz els true))])
  | x => (.d x, [])

def adoptL (L : Loc) (t j : Nat) : List Nat → List D → List V × Wr
  | sz :: szs, d :: ds =>
    let r := adopt1 L (t + 1000 * (j + 1)) sz d
    let rs := adoptL L t (j + 1) szs ds
    (r.1 :: rs.1, r.2 ++ rs.2)
  | _, _ => ([], [])

def adopt (L : Loc) (t : Nat) (szs : List Nat) (r : D) : Option (V × Wr) :=
  match r with
  | .tup ds => if szs.length = ds.length ∧ ds.length ≤ 4 then some (.tup (adoptL L t 0 szs ds).1, (adoptL L t 0 szs ds).2) else none
  | d => match szs with
    | [sz] => some (adopt1 L t sz d)
    | _ => none

end Wf
