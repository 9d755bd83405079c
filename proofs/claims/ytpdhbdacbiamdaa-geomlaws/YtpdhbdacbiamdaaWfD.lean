/-
  The machine over plain data: one step, a region, code.
-/
import Derived.Test.YtpdhbdacbiamdaaWfC
set_option linter.unusedVariables false
set_option linter.unusedSimpArgs false
set_option linter.unnecessarySimpa false
namespace Wf
open Go Go.RowKit

structure St (M : GM) where
  slots : List V
  L : Loc
  G : M.S

/-- What a step looks at, and turns (g: 0: not the memory beyond the frame, 1: reads it, 2: turns it). -/
structure Foot where
  rd : List Nat := []
  wr : List Nat := []
  g : Nat := 0

def Foot.quiet (f : Foot) : Bool := f.wr.isEmpty && f.g != 2
def indep (a b : Foot) : Bool :=
  (a.wr.all fun g => !(b.rd.contains g) && !(b.wr.contains g)) && (b.wr.all fun g => !(a.rd.contains g)) && (a.g == 0 || b.g == 0 || (a.g == 1 && b.g == 1))

def looksL : Op → Bool
  | .load .. | .store .. | .indexAddr .. | .fieldAddr .. | .nilCheck _ | .slice .. | .lookup .. | .mapUpdate .. | .insert .. | .build .. | .buildSlice .. => true
  | .call { callee := .builtin .append, .. } | .call { callee := .builtin .copy, .. } | .call { callee := .builtin .len, .. } | .call { callee := .value _, .. } => true
  | _ => false
def makesL : Op → Nat
  | .alloc .. | .box .. | .makeMap .. | .makeSlice .. | .call { callee := .builtin .append, .. } => 1
  | .call { callee := .value _, .. } => 5
  | _ => 0

def rdOf (o : Oper) (vs : List V) (L : Loc) : List Nat :=
  (if looksL o.op then (V.idsL vs).flatMap fun g => g :: (match (L g).2 with | .vbox v => v.ids | _ => []) else []) ++
  (match makesL o.op with
   | 0 => []
   | 1 => [o.dst.getD 0]
   | _ => [o.dst.getD 0, o.dst.getD 0 + 1000, o.dst.getD 0 + 2000, o.dst.getD 0 + 3000, o.dst.getD 0 + 4000])

def isH : V → Bool
  | .d (.h _ _) => true
  | _ => false

def gOf {M : GM} (Γ : Env M) (o : Oper) (vs : List V) : Nat :=
  match o.op with
  | .load .. => if vs.any isH then 1 else 0
  | .store .. => if vs.any isH then 2 else 0
  | .call { callee := .value _, .. } => match (vs.head?).bind acallee with
    | some (k, _, _) => match Γ k with
      | some (.st _ _) => 2
      | _ => 0
    | none => 0
  | _ => 0

def Loc.only (L : Loc) (rd : List Nat) : Loc := fun g => if g ∈ rd then L g else (0, .dead)
def Loc.upd (L : Loc) : Wr → Loc
  | [] => L
  | (g, x) :: w => Loc.upd (L.set g x) w

def putV (slots : List V) (dst : Option Tmp) (v : V) : List V :=
  match dst with
  | some d => slots.set d v
  | none => slots

def aguard (ops : Array Oper) (slots : List V) (o : Oper) : Option Bool :=
  match o.guard with
  | none => some true
  | some (j, want) => match ((ops[j]?).bind (·.dst)).bind (slots[·]?) with
    | some (.d (.bool b)) => some (b == want)
    | some (.d (.tup [])) => some false
    | _ => none

section
variable {M : GM}

def astep (P : Program) (Γ : Env M) (ops : Array Oper) (o : Oper) (s : St M) : Option (St M × Foot) :=
  match aguard ops s.slots o with
  | none => none
  | some false => some ({ s with slots := putV s.slots o.dst (.d (.tup [])) }, {})
  | some true =>
    let vs := o.op.operands.toList.map (evalV s.slots)
    let rd := rdOf o vs s.L
    let g := gOf Γ o vs
    (aop P Γ o (evalV s.slots) (s.L.only rd) (if g = 0 then none else some s.G)).bind fun out =>
      if g = 2 ∨ out.gs = none then some ({ slots := putV s.slots o.dst out.v, L := s.L.upd out.wr, G := out.gs.getD s.G }, { rd, wr := out.wr.map (·.1), g }) else none

def arun (P : Program) (Γ : Env M) (ops : Array Oper) : List Oper → St M → Option (St M)
  | [], s => some s
  | o :: r, s => (astep P Γ ops o s).bind fun x => arun P Γ ops r x.1

def arunD (P : Program) (Γ : Env M) (ops : Array Oper) : List Oper → St M → Option (St M × List Foot)
  | [], s => some (s, [])
  | o :: r, s => (astep P Γ ops o s).bind fun x => (arunD P Γ ops r x.1).map fun y => (y.1, x.2 :: y.2)

def edge (ops : Array Oper) (i j : Nat) : Bool := match ops[j]? with
  | some o => o.after.any fun e => Region.binds .any e && e.on == i
  | none => false

/-- Whatever is not in order may come in either. -/
def chk (ops : Array Oper) (log : List Foot) : Bool :=
  log.all Foot.quiet ||
  (List.range log.length).all fun i => (List.range log.length).all fun j =>
    !(decide (i < j)) || edge ops i j || match log[i]?, log[j]? with
      | some a, some b => (a.quiet && b.quiet) || indep a b
      | _, _ => true

inductive AExit where
  | normal | exit (id : Nat) | ret
  deriving DecidableEq

/-- s' says no more than s. -/
inductive Wk : St M → St M → Prop where
  | drop (s s' : St M) (K : List Nat) : s'.slots.length = s.slots.length → s'.G = s.G →
      (∀ k, k ∈ K → s'.L k = s.L k) → (∀ g, g ∉ K → s'.L g = (0, .dead)) →
      (∀ (i : Nat) (v : V), s'.slots[i]? = some v → v = .d .undef ∨ (s.slots[i]? = some v ∧ ∀ g, g ∈ v.ids → g ∈ K)) →
      (∀ k, k ∈ K → ∀ v, (s'.L k).2 = .vbox v → ∀ g, g ∈ v.ids → g ∈ K) → Wk s s'
  | nil (s : St M) (i g sz : Nat) : s.slots[i]? = some (.d (.sl .full [])) → Wk s { s with slots := s.slots.set i (.ref g (s.L.new g) 0 0), L := s.L.set g (s.L.new g, .arr sz [] true) }
  | trans (s t u : St M) : Wk s t → Wk t u → Wk s u

/-- What code comes to. -/
def awp (P : Program) (Γ : Env M) : Code → (AExit → St M → Prop) → St M → Prop
  | .skip, Q, s => Q .normal s
  | .label _, Q, s => Q .normal s
  | .region _ ops false, Q, s => ∃ s', arun P Γ ops ops.toList s = some s' ∧ Q .normal s'
  | .region _ ops true, Q, s => Region.lexB .any ops = true ∧ ∃ s' log, arunD P Γ ops ops.toList s = some (s', log) ∧ chk ops log = true ∧ Q .normal s'
  | .seq a b, Q, s => awp P Γ a (fun e s' => match e with
    | .normal => awp P Γ b Q s'
    | e => Q e s') s
  | .cond c x y, Q, s => match evalV s.slots c with
    | .d (.bool true) => awp P Γ x Q s
    | .d (.bool false) => awp P Γ y Q s
    | _ => False
  | .block id b, Q, s => awp P Γ b (fun e s' => match e with
    | .exit id' => if id' = id then Q .normal s' else Q (.exit id') s'
    | e => Q e s') s
  | .loop b, Q, s => ∃ (α : Type) (J : α → St M) (μ : α → Nat) (a₀ : α), Wk s (J a₀) ∧ ∀ a, awp P Γ b (fun e s' => match e with
    | .normal => ∃ a', μ a' < μ a ∧ Wk s' (J a')
    | e => Q e s') (J a)
  | .scope b, Q, s => awp P Γ b Q s
  | .exit id, Q, s => Q (.exit id) s
  | .ret, Q, s => Q .ret s
  | _, _, _ => False

/-- What a result is, for whoever asked. -/
def seal1 (L : Loc) (sz : Nat) : V → Option D
  | .d x => some x
  | .ref g n off len => match off, L.get g n with
    | 0, .arr sz' els true => if len = els.length ∧ sz' = sz then some (.sl .own els) else none
    | _, _ => none
  | _ => none

end
end Wf
