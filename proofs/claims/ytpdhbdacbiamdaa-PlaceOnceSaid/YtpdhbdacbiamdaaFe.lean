/-
  The machine over plain data once more, so that what it comes to can be read off: each test is told by name.
-/
import Derived.Test.YtpdhbdacbiamdaaFd
set_option linter.unusedVariables false
set_option linter.unusedSimpArgs false
set_option linter.unnecessarySimpa false
namespace Wf
open Go Go.RowKit

theorem appendTy_le {P : Program} {ty sz n : Nat} (h0 : appendTy P ty 0 = some sz) (h : n ≤ 4294967296) : appendTy P ty n = some sz := by
  unfold appendTy at *
  split at h0
  · split at h0
    · split at h0
      · rename_i hc
        rw [if_pos ⟨hc.1, hc.2.1, hc.2.2.1, hc.2.2.2.1, by simpa using h⟩]
        exact h0
      · cases h0
    · cases h0
  · cases h0
section
variable {R α : Type}

-- what the machine stops at, by name
def brK (b : Bool) (x y : Option R) : Option R := match b with
  | true => x
  | false => y
def br (b : Bool) (f : Bool → Option R) : Option R := brK b (f true) (f false)
def bindK (x : Option α) (f : α → Option R) : Option R := match x with
  | some a => f a
  | none => none
def sif (c : Prop) [Decidable c] (x : Option R) : Option R := if c then x else none
def letN (n : Int) (f : Int → Option R) : Option R := f n
@[simp] theorem letN_eq (n : Int) (f : Int → Option R) : letN n f = f n := rfl
def getK (l : List α) (i : Nat) (f : α → Option R) : Option R := match l[i]? with
  | some d => f d
  | none => none
def jn (g : α → Option R) (f : (α → Option R) → Option R) : Option R := f g
def fixN (B : (α → Option R) → α → Option R) : Nat → α → Option R
  | 0 => fun _ => none
  | n + 1 => B (fixN B n)
/-- So many rounds as are never gone. -/
noncomputable def fuel : Nat := Classical.choose (⟨1099511627776, Nat.le_refl _⟩ : ∃ n : Nat, 1099511627776 ≤ n)
theorem fuel_le : 1099511627776 ≤ fuel := Classical.choose_spec (⟨1099511627776, Nat.le_refl _⟩ : ∃ n : Nat, 1099511627776 ≤ n)
noncomputable def loopN (B : (α → Option R) → α → Option R) (a : α) : Option R := fixN B fuel a
noncomputable def loopS (_ : Nat) (B : (α → Option R) → α → Option R) (a : α) : Option R := loopN B a

/-- A list, told cell by cell. -/
def forceL : List α → (List α → Option R) → Option R
  | [], k => k []
  | a :: l, k => forceL l fun l => k (a :: l)
theorem forceL_eq (l : List α) (k : List α → Option R) : forceL l k = k l := by
  induction l generalizing k with
  | nil => rfl
  | cons a l ih => exact ih _

def asI (k : IntKind) (d : D) (f : Int → Option R) : Option R := match d with
  | .int k' n => if k' = k then f n else none
  | _ => none
def asB (d : D) (f : Bool → Option R) : Option R := match d with
  | .bool b => f b
  | _ => none
def asS (d : D) (f : ByteArray → Option R) : Option R := match d with
  | .str s => f s
  | _ => none
def asSl (d : D) (f : Tag → List D → Option R) : Option R := match d with
  | .sl t l => f t l
  | _ => none
def asOwn (d : D) (f : List D → Option R) : Option R := match d with
  | .sl .own l => f l
  | _ => none
def asLent (d : D) (f : List D → Option R) : Option R := match d with
  | .sl .lent l => f l
  | _ => none
def asAgg (d : D) (f : List D → Option R) : Option R := match d with
  | .agg cs => f cs
  | _ => none
def asOne (l : List D) (f : D → Option R) : Option R := match l with
  | [d] => f d
  | _ => none
def asTup (d : D) (f : List D → Option R) : Option R := match d with
  | .tup cs => f cs
  | _ => none
end

/-- What stands in a cell, or in some cells of one field. -/
inductive Lf where
  | int (k : IntKind) | bool | str | sl | lent | any | arr (n : Nat)
  deriving DecidableEq, Inhabited

@[reducible] def Lf.T : Lf → Type
  | .int _ => Int
  | .bool => Bool
  | .str => ByteArray
  | .sl => Tag × List D
  | .lent => List D
  | .any => D
  | .arr _ => List D
@[reducible] def LfT : List Lf → Type
  | [] => Unit
  | l :: r => l.T × LfT r

def Lf.one : (l : Lf) → l.T → D
  | .int k, n => .int k n
  | .bool, b => .bool b
  | .str, s => .str s
  | .sl, x => .sl x.1 x.2
  | .lent, l => .sl .lent l
  | .any, d => d
  | .arr _, xs => .agg xs
def Lf.mk : (l : Lf) → l.T → List D
  | .int k, n => [.int k n]
  | .bool, b => [.bool b]
  | .str, s => [.str s]
  | .sl, x => [.sl x.1 x.2]
  | .lent, l => [.sl .lent l]
  | .any, d => [d]
  | .arr _, xs => xs
def mkCells : (ls : List Lf) → LfT ls → List D
  | [], _ => []
  | l :: r, x => l.mk x.1 ++ mkCells r x.2

section
variable {R : Type}
def Lf.getOne : (l : Lf) → D → (l.T → Option R) → Option R
  | .int k, d, f => asI k d f
  | .bool, d, f => asB d f
  | .str, d, f => asS d f
  | .sl, d, f => asSl d fun t l => f (t, l)
  | .lent, d, f => asLent d f
  | .any, d, f => f d
  | .arr n, d, f => asAgg d fun cs => sif (cs.length = n) (f cs)
def Lf.get (l : Lf) (cs : List D) (f : l.T → List D → Option R) : Option R := match l with
  | .arr n => sif (n ≤ cs.length) (f (cs.take n) (cs.drop n))
  | .int k => match cs with
    | d :: r => asI k d fun x => f x r
    | [] => none
  | .bool => match cs with
    | d :: r => asB d fun x => f x r
    | [] => none
  | .str => match cs with
    | d :: r => asS d fun x => f x r
    | [] => none
  | .sl => match cs with
    | d :: r => asSl d fun t l => f (t, l) r
    | [] => none
  | .lent => match cs with
    | d :: r => asLent d fun l => f l r
    | [] => none
  | .any => match cs with
    | d :: r => f d r
    | [] => none
def getCells0 : (ls : List Lf) → List D → (LfT ls → Option R) → Option R
  | [], [], f => f ()
  | [], _ :: _, _ => none
  | l :: ls, cs, f => l.get cs fun x r => getCells0 ls r fun y => f (x, y)
def getCells (ls : List Lf) (cs : List D) (f : LfT ls → Option R) : Option R := getCells0 ls cs f
end

inductive Sh where
  | cell (l : Lf) | agg (ls : List Lf) | at1 (l : Lf) | atA (ls : List Lf)
  deriving DecidableEq, Inhabited
@[reducible] def Sh.T : Sh → Type
  | .cell l => l.T
  | .agg ls => LfT ls
  | .at1 l => l.T
  | .atA ls => LfT ls
def Sh.mk : (s : Sh) → s.T → D
  | .cell l, x => l.one x
  | .agg ls, x => .agg (mkCells ls x)
  | .at1 l, x => .at_ (l.one x)
  | .atA ls, x => .at_ (.agg (mkCells ls x))
def asAt {R : Type} (d : D) (f : D → Option R) : Option R := match d with
  | .at_ x => f x
  | _ => none
def Sh.get {R : Type} : (s : Sh) → D → (s.T → Option R) → Option R
  | .cell l, d, f => l.getOne d f
  | .agg ls, d, f => asAgg d fun cs => getCells ls cs f
  | .at1 l, d, f => asAt d fun d => l.getOne d f
  | .atA ls, d, f => asAt d fun d => asAgg d fun cs => getCells ls cs f

/-- The leaves of a type. -/
def tyLf (P : Program) : Nat → TypeId → Option (List Lf)
  | 0, _ => none
  | d + 1, t => match P.underlying t with
    | some (.int k) => some [.int k]
    | some .bool => some [.bool]
    | some .string => some [.str]
    | some (.slice _) => some [.sl]
    | some (.struct fs) => (fs.toList.mapM fun f => tyLf P d f.type).map List.flatten
    | some (.array n e) => (tySize P e).map fun sz => [.arr (n * sz)]
    | some _ => some [.any]
    | none => none
def tySh (P : Program) (t : TypeId) : Option Sh :=
  match P.underlying t with
  | some (.struct _) => (tyLf P 8 t).map .agg
  | _ => match tyLf P 8 t with
    | some [l] => some (.cell l)
    | _ => none

section
variable {R : Type}
def decT (P : Program) (t : TypeId) (d : D) (f : D → Option R) : Option R :=
  match tySh P t with
  | some sh => sh.get d fun x => f (sh.mk x)
  | none => none
/-- Parameters: slices are lent. -/
def decP (P : Program) (t : TypeId) (d : D) (f : D → Option R) : Option R :=
  match tySh P t with
  | some (.cell .sl) => asLent d fun l => f (.sl .lent l)
  | some sh => sh.get d fun x => f (sh.mk x)
  | none => none
def decPs (P : Program) : List TypeId → List D → (List D → Option R) → Option R
  | [], [], f => f []
  | t :: ts, d :: ds, f => decP P t d fun x => decPs P ts ds fun xs => f (x :: xs)
  | _, _, _ => none

theorem sif_some {c : Prop} [Decidable c] {x : Option R} {r : R} (h : sif c x = some r) : c ∧ x = some r := by
  unfold sif at h
  split at h
  · exact ⟨by assumption, h⟩
  · cases h
theorem sif2_some {A B : Prop} [Decidable A] [Decidable B] {x : Option R} {r : R} (h : sif A (sif B (x)) = some r) : (A ∧ B) ∧ x = some r := by
  obtain ⟨a, h⟩ := sif_some h
  obtain ⟨b, h⟩ := sif_some h
  exact ⟨⟨a, b⟩, h⟩
theorem sif3_some {A B C : Prop} [Decidable A] [Decidable B] [Decidable C] {x : Option R} {r : R} (h : sif A (sif B (sif C (x))) = some r) : (A ∧ B ∧ C) ∧ x = some r := by
  obtain ⟨a, h⟩ := sif_some h
  obtain ⟨b, h⟩ := sif2_some h
  exact ⟨⟨a, b⟩, h⟩
theorem sif4_some {A B C D' : Prop} [Decidable A] [Decidable B] [Decidable C] [Decidable D'] {x : Option R} {r : R} (h : sif A (sif B (sif C (sif D' (x)))) = some r) : (A ∧ B ∧ C ∧ D') ∧ x = some r := by
  obtain ⟨a, h⟩ := sif_some h
  obtain ⟨b, h⟩ := sif3_some h
  exact ⟨⟨a, b⟩, h⟩
theorem sif5_some {A B C D' E : Prop} [Decidable A] [Decidable B] [Decidable C] [Decidable D'] [Decidable E] {x : Option R} {r : R} (h : sif A (sif B (sif C (sif D' (sif E (x))))) = some r) : (A ∧ B ∧ C ∧ D' ∧ E) ∧ x = some r := by
  obtain ⟨a, h⟩ := sif_some h
  obtain ⟨b, h⟩ := sif4_some h
  exact ⟨⟨a, b⟩, h⟩
theorem sif6_some {A B C D' E F : Prop} [Decidable A] [Decidable B] [Decidable C] [Decidable D'] [Decidable E] [Decidable F] {x : Option R} {r : R} (h : sif A (sif B (sif C (sif D' (sif E (sif F (x)))))) = some r) : (A ∧ B ∧ C ∧ D' ∧ E ∧ F) ∧ x = some r := by
  obtain ⟨a, h⟩ := sif_some h
  obtain ⟨b, h⟩ := sif5_some h
  exact ⟨⟨a, b⟩, h⟩
theorem sif7_some {A B C D' E F G : Prop} [Decidable A] [Decidable B] [Decidable C] [Decidable D'] [Decidable E] [Decidable F] [Decidable G] {x : Option R} {r : R} (h : sif A (sif B (sif C (sif D' (sif E (sif F (sif G (x))))))) = some r) : (A ∧ B ∧ C ∧ D' ∧ E ∧ F ∧ G) ∧ x = some r := by
  obtain ⟨a, h⟩ := sif_some h
  obtain ⟨b, h⟩ := sif6_some h
  exact ⟨⟨a, b⟩, h⟩
theorem br_some {b : Bool} {f : Bool → Option R} {r : R} (h : br b f = some r) : f b = some r := by
  cases b <;> exact h
theorem bindK_some {α : Type} {x : Option α} {f : α → Option R} {r : R} (h : bindK x f = some r) : ∃ a, x = some a ∧ f a = some r := by
  cases x with
  | none => cases h
  | some a => exact ⟨a, rfl, h⟩
theorem getK_some {α : Type} {l : List α} {i : Nat} {f : α → Option R} {r : R} (h : getK l i f = some r) : ∃ d, l[i]? = some d ∧ f d = some r := by
  unfold getK at h
  split at h
  · exact ⟨_, by assumption, h⟩
  · cases h
theorem asI_some {k : IntKind} {d : D} {f : Int → Option R} {r : R} (h : asI k d f = some r) : ∃ n, d = .int k n ∧ f n = some r := by
  unfold asI at h
  split at h
  · split at h
    · rename_i e; subst e; exact ⟨_, rfl, h⟩
    · cases h
  · cases h
theorem asB_some {d : D} {f : Bool → Option R} {r : R} (h : asB d f = some r) : ∃ n, d = .bool n ∧ f n = some r := by
  unfold asB at h
  split at h
  · exact ⟨_, rfl, h⟩
  · cases h
theorem asS_some {d : D} {f : ByteArray → Option R} {r : R} (h : asS d f = some r) : ∃ n, d = .str n ∧ f n = some r := by
  unfold asS at h
  split at h
  · exact ⟨_, rfl, h⟩
  · cases h
theorem asSl_some {d : D} {f : Tag → List D → Option R} {r : R} (h : asSl d f = some r) : ∃ t l, d = .sl t l ∧ f t l = some r := by
  unfold asSl at h
  split at h
  · exact ⟨_, _, rfl, h⟩
  · cases h
theorem asOwn_some {d : D} {f : List D → Option R} {r : R} (h : asOwn d f = some r) : ∃ l, d = .sl .own l ∧ f l = some r := by
  unfold asOwn at h
  split at h
  · exact ⟨_, rfl, h⟩
  · cases h
theorem asLent_some {d : D} {f : List D → Option R} {r : R} (h : asLent d f = some r) : ∃ l, d = .sl .lent l ∧ f l = some r := by
  unfold asLent at h
  split at h
  · exact ⟨_, rfl, h⟩
  · cases h
theorem asAgg_some {d : D} {f : List D → Option R} {r : R} (h : asAgg d f = some r) : ∃ l, d = .agg l ∧ f l = some r := by
  unfold asAgg at h
  split at h
  · exact ⟨_, rfl, h⟩
  · cases h
theorem asAt_some {d : D} {f : D → Option R} {r : R} (h : asAt d f = some r) : ∃ l, d = .at_ l ∧ f l = some r := by
  unfold asAt at h
  split at h
  · exact ⟨_, rfl, h⟩
  · cases h
theorem asTup_some {d : D} {f : List D → Option R} {r : R} (h : asTup d f = some r) : ∃ l, d = .tup l ∧ f l = some r := by
  unfold asTup at h
  split at h
  · exact ⟨_, rfl, h⟩
  · cases h
theorem asOne_some {l : List D} {f : D → Option R} {r : R} (h : asOne l f = some r) : ∃ d, l = [d] ∧ f d = some r := by
  unfold asOne at h
  split at h
  · exact ⟨_, rfl, h⟩
  · cases h
theorem Lf.getOne_some {l : Lf} {d : D} {f : l.T → Option R} {r : R} (h : l.getOne d f = some r) : ∃ x, d = l.one x ∧ f x = some r := by
  cases l with
  | int k => exact asI_some h
  | bool => exact asB_some h
  | str => exact asS_some h
  | sl => obtain ⟨t, l, e, h⟩ := asSl_some h; exact ⟨(t, l), e, h⟩
  | lent => exact asLent_some h
  | any => exact ⟨d, rfl, h⟩
  | arr n =>
    obtain ⟨cs, e, h⟩ := asAgg_some h
    exact ⟨cs, e, (sif_some h).2⟩
theorem Lf.get_some {l : Lf} {cs : List D} {f : l.T → List D → Option R} {r : R} (h : l.get cs f = some r) : ∃ x rest, cs = l.mk x ++ rest ∧ f x rest = some r := by
  cases l with
  | arr n =>
    obtain ⟨_, h⟩ := sif_some h
    exact ⟨_, _, (List.take_append_drop n cs).symm, h⟩
  | int k =>
    cases cs with
    | nil => cases h
    | cons d cs => obtain ⟨n, e, h2⟩ := asI_some (f := fun x => f x cs) h; subst e; exact ⟨n, cs, rfl, h2⟩
  | bool =>
    cases cs with
    | nil => cases h
    | cons d cs => obtain ⟨n, e, h⟩ := asB_some h; subst e; exact ⟨n, cs, rfl, h⟩
  | str =>
    cases cs with
    | nil => cases h
    | cons d cs => obtain ⟨n, e, h⟩ := asS_some h; subst e; exact ⟨n, cs, rfl, h⟩
  | sl =>
    cases cs with
    | nil => cases h
    | cons d cs => obtain ⟨t, l, e, h⟩ := asSl_some h; subst e; exact ⟨(t, l), cs, rfl, h⟩
  | lent =>
    cases cs with
    | nil => cases h
    | cons d cs => obtain ⟨l, e, h⟩ := asLent_some h; subst e; exact ⟨l, cs, rfl, h⟩
  | any =>
    cases cs with
    | nil => cases h
    | cons d cs => exact ⟨d, cs, rfl, h⟩
theorem getCells0_some : ∀ {ls : List Lf} {cs : List D} {f : LfT ls → Option R} {r : R}, getCells0 ls cs f = some r → ∃ x, cs = mkCells ls x ∧ f x = some r
  | [], [], f, r, h => ⟨(), rfl, h⟩
  | [], _ :: _, f, r, h => by cases h
  | l :: ls, cs, f, r, h => by
    obtain ⟨x, rest, e, h⟩ := Lf.get_some h
    obtain ⟨y, e2, h⟩ := getCells0_some h
    exact ⟨(x, y), by rw [e, e2]; rfl, h⟩
theorem getCells_some {ls : List Lf} {cs : List D} {f : LfT ls → Option R} {r : R} (h : getCells ls cs f = some r) : ∃ x, cs = mkCells ls x ∧ f x = some r := getCells0_some h
theorem Sh.get_some {s : Sh} {d : D} {f : s.T → Option R} {r : R} (h : s.get d f = some r) : ∃ x, d = s.mk x ∧ f x = some r := by
  cases s with
  | cell l => exact Lf.getOne_some h
  | agg ls =>
    obtain ⟨cs, e, h⟩ := asAgg_some h
    obtain ⟨x, e2, h⟩ := getCells_some h
    exact ⟨x, by rw [e, e2]; rfl, h⟩
  | at1 l =>
    obtain ⟨y, e, h⟩ := asAt_some h
    obtain ⟨x, e2, h⟩ := Lf.getOne_some h
    exact ⟨x, by rw [e, e2]; rfl, h⟩
  | atA ls =>
    obtain ⟨y, e, h⟩ := asAt_some h
    obtain ⟨cs, e1, h⟩ := asAgg_some h
    obtain ⟨x, e2, h⟩ := getCells_some h
    exact ⟨x, by rw [e, e1, e2]; rfl, h⟩
theorem decT_some {P : Program} {t : TypeId} {d : D} {f : D → Option R} {r : R} (h : decT P t d f = some r) : f d = some r := by
  unfold decT at h
  split at h
  · obtain ⟨x, e, h⟩ := Sh.get_some h
    rw [e]; exact h
  · cases h
theorem decP_some {P : Program} {t : TypeId} {d : D} {f : D → Option R} {r : R} (h : decP P t d f = some r) : f d = some r := by
  unfold decP at h
  split at h
  · obtain ⟨l, e, h⟩ := asLent_some h
    rw [e]; exact h
  · obtain ⟨x, e, h⟩ := Sh.get_some h
    rw [e]; exact h
  · cases h
theorem decPs_some {P : Program} : ∀ {ts : List TypeId} {ds : List D} {f : List D → Option R} {r : R}, decPs P ts ds f = some r → f ds = some r
  | [], [], f, r, h => h
  | [], _ :: _, f, r, h => by cases h
  | _ :: _, [], f, r, h => by cases h
  | t :: ts, d :: ds, f, r, h => decPs_some (f := fun xs => f (d :: xs)) (decP_some (f := fun x => decPs P ts ds fun xs => f (x :: xs)) h)
end
end Wf

/-
  One operation, so that what it comes to can be read off.
-/
namespace Wf
open Go Go.RowKit

/-- A piece of a row. -/
def cut {α : Type} (off len : Nat) (els : List α) : List α := if off = 0 then (if len = els.length then els else els.take len) else (els.drop off).take len
def cutI {α : Type} (lo hi : Int) (l : List α) : List α := (l.drop lo.toNat).take (hi - lo).toNat
theorem cut_eq {α : Type} (off len : Nat) (els : List α) : cut off len els = (els.drop off).take len := by
  unfold cut
  split
  · rename_i h; subst h
    split
    · rename_i h; subst h; simp
    · simp
  · rfl
def rowOk (P : Program) (t : TypeId) (l : List D) : Bool := l.all fun d => (d.cell || d.isAgg) && decide (some d.width = tyElem P t)
def lookD (n : Int) (z : D) (es : List (Int × D)) : D := (findD n es).getD z
def hasD (n : Int) (es : List (Int × D)) : Bool := (findD n es).isSome

section
variable {M : GMo} {R : Type}

def partK (ag : Bool) (size off : Nat) (cs : List D) (k : D → Option R) : Option R :=
  if ag then sif (off + size ≤ cs.length) (k (.agg ((cs.drop off).take size))) else getK cs off k

def elsK (L : Loc) (v : V) (k : List D → Option R) : Option R := match v with
  | .d (.sl _ l) => k l
  | .ref g n off len => match L.get g n with
    | .arr _ els _ => sif (off + len ≤ els.length) (k (cut off len els))
    | _ => none
  | .bref g n off len => match L.get g n with
    | .box _ ds => sif (off + len ≤ ds.length) (k (cut off len ds))
    | _ => none
  | _ => none

def lenK (L : Loc) (v : V) (k : Nat → Option R) : Option R := match v with
  | .d (.sl _ l) => k l.length
  | .ref g n off len => match L.get g n with
    | .arr _ els _ => sif (off + len ≤ els.length) (k len)
    | _ => none
  | .bref g n off len => match L.get g n with
    | .box _ ds => sif (off + len ≤ ds.length) (k len)
    | _ => none
  | _ => none

def toDK (L : Loc) (v : V) (k : D → Wr → Option R) : Option R := match v with
  | .d x => k x []
  | .ref g n off len => match L.get g n with
    | .arr sz els _ => sif (off + len ≤ els.length) (k (.sl .fresh (cut off len els)) [(g, (n, .arr sz els false))])
    | _ => none
  | _ => none
def toDsK (L : Loc) : List V → (List D → Wr → Option R) → Option R
  | [], k => k [] []
  | v :: r, k => toDK L v fun x w => toDsK L r fun xs ws => k (x :: xs) (w ++ ws)

def lend1K (L : Loc) (v : V) (k : D → Option R) : Option R := match v with
  | .d x => k x
  | .ref g n off len => elsK L (.ref g n off len) fun l => k (.sl .lent l)
  | .bref g n off len => elsK L (.bref g n off len) fun l => k (.sl .lent l)
  | _ => none
def lend2K (L : Loc) (v : V) (k : D → Option R) : Option R := match v with
  | .ptr g n off => match off, L.get g n with
    | 0, .box true ds => k (.at_ (.agg ds))
    | 0, .box false [x] => k (.at_ x)
    | 0, .vbox v => lend1K L v fun d => k (.at_ d)
    | _, _ => none
  | v => lend1K L v k
def lendsK2 (L : Loc) : List V → (List D → Option R) → Option R
  | [], k => k []
  | v :: r, k => lend2K L v fun x => lendsK2 L r fun xs => k (x :: xs)
def lendK (L : Loc) (v : V) (k : D → Option R) : Option R := match v with
  | .clo f a b => lendsK2 L a fun a' => lendsK2 L b fun b' => k (.fn f a' b')
  | v => lend2K L v k
def lendsK (L : Loc) : List V → (List D → Option R) → Option R
  | [], k => k []
  | v :: r, k => lendK L v fun x => lendsK L r fun xs => k (x :: xs)

def loadK (P : Program) (M : GMo) (L : Loc) (G : Option M.S) (t : TypeId) (p : V) (k : V → Option R) : Option R :=
  match tyAgg P t, tySize P t with
  | some ag, some n =>
    match p with
    | .d (.at_ x) => decT P t x fun d => sif (d.isAgg = ag) (sif (d.width = n) (sif (d.cell = !ag) (k (.d d))))
    | .d (.h q off) => match G with
      | some s => bindK (M.load s q off n) fun ds => if ag then decT P t (.agg ds) fun d => k (.d d) else asOne ds fun x => decT P t x fun d => k (.d d)
      | none => none
    | .ptr g l off => match L.get g l with
      | .box _ ds => partK ag n off ds fun x => decT P t x fun d => k (.d d)
      | .vbox v => if ag = false ∧ off = 0 then k v else none
      | _ => none
    | .ept g l i off => match L.get g l with
      | .arr sz els _ => getK els i fun x =>
        if off = 0 ∧ sz = n then decT P t x fun d => sif (d.isAgg = ag) (sif (d.width = n) (sif (d.cell = !ag) (k (.d d))))
        else asAgg x fun cs => partK ag n off cs fun x => decT P t x fun d => k (.d d)
      | _ => none
    | _ => none
  | _, _ => none

def storeK (P : Program) (M : GMo) (L : Loc) (G : Option M.S) (t : TypeId) (p v : V) (k : Out M.S → Option R) : Option R :=
  match tyAgg P t, tySize P t with
  | some ag, some n =>
    match p with
    | .ptr g l off => match L.get g l with
      | .box a ds => match v with
        | .d (.agg xs) => sif (ag = true) (sif (xs.length = n) (sif (off + n ≤ ds.length) (k { v := .d (.tup []), wr := [(g, (l, .box a (ds.take off ++ xs ++ ds.drop (off + n))))] })))
        | .ref g' l' off' len' => if ag = false ∧ n = 1 ∧ off = 0 ∧ ds.length = 1 ∧ a = false then k { v := .d (.tup []), wr := [(g, (l, .vbox (.ref g' l' off' len')))] } else none
        | .d x => sif (ag = false) (sif (n = 1) (sif (x.cell = true) (sif (off < ds.length) (k { v := .d (.tup []), wr := [(g, (l, .box a (ds.set off x)))] }))))
        | _ => none
      | .vbox _ => match astore P M L G t p v with
        | some out => k out
        | none => none
      | _ => none
    | .ept g l i off => match L.get g l with
      | .arr sz els true => match v with
        | .d (.agg xs) => sif (ag = true) (sif (xs.length = n) (sif (off = 0) (sif (n = sz) (sif (i < els.length) (k { v := .d (.tup []), wr := [(g, (l, .arr sz (els.set i (.agg xs)) true))] })))))
        | .d x => getK els i fun e => if sz = 1 then sif (e.isAgg = false) (sif (ag = false) (sif (n = 1) (sif (x.cell = true) (sif (off = 0) (k { v := .d (.tup []), wr := [(g, (l, .arr sz (els.set i x) true))] })))))
          else asAgg e fun cs => sif (ag = false) (sif (n = 1) (sif (x.cell = true) (sif (off < cs.length) (k { v := .d (.tup []), wr := [(g, (l, .arr sz (els.set i (.agg (cs.set off x))) true))] }))))
        | .ref g' l' off' len' => if ag = false ∧ n = 1 ∧ off = 0 ∧ sz = 1 ∧ g ≠ g' then sif (i < els.length) (toDK L (.ref g' l' off' len') fun x w => k { v := .d (.tup []), wr := w ++ [(g, (l, .arr sz (els.set i x) true))] }) else none
        | _ => none
      | _ => none
    | p => match astore P M L G t p v with
      | some out => k out
      | none => none
  | _, _ => none

def appendK (P : Program) (L : Loc) (t : Nat) (ty : TypeId) (s x : V) (k : Out M.S → Option R) : Option R :=
  elsK L x fun xs => match appendTy P ty 0 with
    | none => none
    | some sz => match s with
      | .d (.sl .full []) => sif (xs.length ≤ 2 ^ 32) (sif (okEls sz xs = true) (k { v := .ref t (L.new t) 0 xs.length, wr := [(t, (L.new t, .arr sz xs true))] }))
      | .d (.sl .full (y :: l)) => sif (xs ≠ []) (sif ((y :: l).length + xs.length ≤ 2 ^ 32) (sif (okEls sz xs = true) (sif (okEls sz (y :: l) = true)
          (k { v := .ref t (L.new t) 0 ((y :: l).length + xs.length), wr := [(t, (L.new t, .arr sz (y :: l ++ xs) true))] }))))
      | .ref g n off len => match off, L.get g n with
        | 0, .arr sz' els true => sif (len + xs.length ≤ 2 ^ 32) (sif (okEls sz xs = true) (sif (len = els.length) (sif (sz' = sz)
            (k { v := .ref t (L.new t) 0 (len + xs.length), wr := [(g, (n, .dead)), (t, (L.new t, .arr sz (els ++ xs) true))] }))))
        | _, _ => none
      | _ => none

def copyK (P : Program) (L : Loc) (ty : TypeId) (s x : V) (k : Out M.S → Option R) : Option R :=
  match s, tyElem P ty with
  | .ref g n off len, some ez => match L.get g n with
    | .arr sz els true => elsK L x fun xs => sif (off + len ≤ els.length) (sif (sz = 1) (sif (ez = 1) (sif (xs.all (fun d => d.cell) = true)
        (k { v := .d (.int .i64 ((min xs.length len : Nat) : Int)), wr := [(g, (n, .arr sz (els.take off ++ xs.take len ++ els.drop (off + (xs.take len).length)) true))] }))))
    | _ => none
  | _, _ => none

def sliceK (P : Program) (L : Loc) (t : TypeId) (x : V) (lo hi mx : Option V) (k : V → Option R) : Option R :=
  match optD lo, optD hi, optD mx with
  | some lo, some hi, some mx =>
    match x with
    | .d (.sl tg l) =>
      let h := hi.getD l.length
      let a := lo.getD 0
      let m := mx.getD h
      sif ((tyElem P t).isSome = true) (sif (0 ≤ a) (sif (a ≤ h) (sif (h ≤ l.length) (sif (m = h) (sif ((mx.isNone || hi.isSome) = true) (sif (rowOk P t l = true)
        (k (.d (.sl (sliceTag tg mx.isSome (decide (h = l.length))) (cutI a h l))))))))))
    | .d (.str s) =>
      let h := hi.getD s.size
      let a := lo.getD 0
      sif (tyStr P t = true) (sif (mx = none) (sif (0 ≤ a) (sif (a ≤ h) (sif (h ≤ s.size) (k (.d (.str (s.extract a.toNat h.toNat))))))))
    | .ref g n off len =>
      let h := hi.getD len
      let a := lo.getD 0
      match tyElem P t, L.get g n with
      | some sz, .arr sz' _ _ => if sz = sz' then sif (mx = none) (sif (0 ≤ a) (sif (a ≤ h) (sif (h ≤ len) (k (.ref g n (off + a.toNat) (h - a).toNat))))) else none
      | _, _ => none
    | .ptr g n off => match off, tyArr P t, L.get g n with
      | 0, some (q, sz, _), .box _ ds =>
        let h := hi.getD q
        let a := lo.getD 0
        sif (q = ds.length) (sif (sz = 1) (sif (mx = none) (sif (0 ≤ a) (sif (a ≤ h) (sif (h ≤ q) (sif ((a = 0 ∨ a < q)) (k (.bref g n a.toNat (h - a).toNat))))))))
      | _, _, _ => none
    | _ => none
  | _, _, _ => none

def tyElemT (P : Program) (t : TypeId) : Option TypeId :=
  match P.underlying t with
  | some (.slice e) => some e
  | _ => none

def indexAddrK (P : Program) (L : Loc) (t : TypeId) (x i : V) (k : V → Option R) : Option R :=
  match i with
  | .d (.int _ i) =>
    match x with
    | .d (.sl _ l) => match tyElem P t, tyElemT P t with
      | some sz, some e => sif (0 ≤ i) (getK l i.toNat fun d => decT P e d fun d => sif (d.width = sz) (sif ((d.cell || d.isAgg) = true) (k (.d (.at_ d)))))
      | _, _ => none
    | .ref g l off n => match tyElem P t, L.get g l with
      | some sz, .arr sz' _ _ => if sz' = sz then sif (0 ≤ i) (sif (i.toNat < n) (k (.ept g l (off + i.toNat) 0))) else none
      | _, _ => none
    | .bref g l off n => match tyElem P t with
      | some sz => sif (sz = 1) (sif (0 ≤ i) (sif (i.toNat < n) (k (.ptr g l (off + i.toNat)))))
      | none => none
    | .ptr g l off => match tyArr P t with
      | some (n, sz, _) => sif (0 ≤ i) (sif (i.toNat < n) (k (.ptr g l (off + i.toNat * sz))))
      | none => none
    | .d (.at_ (.agg cs)) => match tyArr P t with
      | some (n, sz, ag) => sif (0 ≤ i) (sif (i.toNat < n) (partK ag sz (i.toNat * sz) cs fun d => k (.d (.at_ d))))
      | none => none
    | .d (.h q off) => match tyArr P t with
      | some (n, sz, _) => sif (0 ≤ i) (sif (i.toNat < n) (k (.d (.h q (off + i.toNat * sz)))))
      | none => none
    | _ => none
  | _ => none

def letD (d : D) (k : D → Option R) : Option R := match d with
  | .int q n => letN n fun n => k (.int q n)
  | d => k d
def binK (bt : Bool) (op : BinOp) (a b : D) (k : D → Option R) : Option R :=
  match op, a, b with
  | .quo, .int q x, .int q' y | .rem, .int q x, .int q' y => if q = q' then sif (y ≠ 0) (match op with
      | .quo => letN (q.wrap (x.tdiv y)) fun n => k (.int q n)
      | _ => letN (x.tmod y) fun n => k (.int q n)) else none
  | .shl, .int q x, .int _ y => sif (0 ≤ y) (letN (q.wrap (x * 2 ^ min y.toNat q.bits)) fun n => k (.int q n))
  | .shr, .int q x, .int _ y => sif (0 ≤ y) (letN (x.fdiv (2 ^ min y.toNat q.bits)) fun n => k (.int q n))
  | op, a, b => match abin bt op a b with
    | some d => letD d k
    | none => none

def dataK (d : D) (k : V → Wr → Option R) : Option R := match d with
  | .tup _ => none
  | .sl tg l => match tg with
    | .own => none
    | tg => k (.d (.sl tg l)) []
  | d => k (.d d) []
def adoptK1 (P : Program) (L : Loc) (id sz : Nat) (t : TypeId) (d : D) (k : V → Wr → Option R) : Option R :=
  if sz = 0 then decT P t d fun d => dataK d k
  else asOwn d fun els => k (.ref id (L.new id) 0 els.length) [(id, (L.new id, .arr sz els true))]
def adoptKL (P : Program) (L : Loc) (t : Nat) : Nat → List Nat → List TypeId → List D → (List V → Wr → Option R) → Option R
  | j, sz :: szs, ty :: tys, d :: ds, k => adoptK1 P L (t + 1000 * (j + 1)) sz ty d fun v w => adoptKL P L t (j + 1) szs tys ds fun vs ws => k (v :: vs) (w ++ ws)
  | _, [], [], [], k => k [] []
  | _, _, _, _, _ => none
def tupN (n : Nat) (l : List D) (k : List D → Option R) : Option R := getCells (List.replicate n .any) l fun x => k (mkCells _ x)
def adoptK (P : Program) (L : Loc) (t : Nat) (szs : List Nat) (ty : TypeId) (r : D) (k : V → Wr → Option R) : Option R :=
  match P.underlying ty with
  | some (.tuple tys) => asTup r fun ds => tupN tys.size ds fun ds => if szs.length = ds.length ∧ ds.length ≤ 4 then adoptKL P L t 0 szs tys.toList ds fun vs w => k (.tup vs) w else none
  | _ => match szs with
    | [sz] => adoptK1 P L t sz ty r k
    | _ => none

def callK (P : Program) (Γ : Env M) (L : Loc) (G : Option M.S) (t : Nat) (ty : TypeId) (f : V) (args : List V) (k : Out M.S → Option R) : Option R :=
  match acallee f with
  | some (q, a, b) => lendsK L (a ++ args ++ b) fun ds => match Γ q with
    | some (.pure szs F) => bindK (F ds) fun r => adoptK P L t szs ty r fun v w => k { v := v, wr := w }
    | some (.st szs F) => match G with
      | some s => bindK (F ds s) fun r => adoptK P L t szs ty r.1 fun v w => k { v := v, wr := w, gs := some r.2 }
      | none => none
    | none => none
  | none => none

def fieldK (P : Program) (s f : Nat) (x : V) (k : V → Option R) : Option R :=
  match x, tyFld P s f, tyFldAgg P s f with
  | .d (.agg cs), some (off, size), some ag => partK ag size off cs fun d => k (.d d)
  | _, _, _ => none

def dfl (out : Option (Out M.S)) (k : Out M.S → Option R) : Option R := match out with
  | some out => k out
  | none => none

/-- What an operation does. -/
def aopK (P : Program) (Γ : Env M) (o : Oper) (ρ : Operand → V) (L : Loc) (G : Option M.S) (k : Out M.S → Option R) : Option R :=
  let t := o.dst.getD 0
  match o.op with
  | .pick c a b => match ρ c with
    | .d (.bool b') => br b' fun b' => k { v := if b' then ρ a else ρ b }
    | _ => none
  | .buildSlice ty n ps => toDsK L ((ps.toList.map fun (i, x) => (i, ρ x)).map (·.2)) fun ds w => match appendTy P ty n with
    | some sz => sif ((ps.toList.map fun (i, x) => (i, ρ x)).map (·.1) = List.range n) (sif (n * sz ≤ 2 ^ 24) (sif (okEls sz ds = true) (k { v := .d (.sl .full ds), wr := w })))
    | none => none
  | .load ty a => loadK P M L G ty (ρ a) fun v => k { v }
  | .store ty a x => if okRef L (ρ x) then storeK P M L G ty (ρ a) (ρ x) k else none
  | .binOp op ty x y _ => match ρ x, ρ y with
    | .d (.agg a), .d (.agg b) => dfl (aop P Γ o ρ L G) k
    | .d a, .d b => binK (tyBool P ty) op a b fun d => k { v := .d d }
    | _, _ => none
  | .convert src dst x => match tyInt P src, tyInt P dst, ρ x with
    | some _, some q, .d (.int _ n) => letN (q.wrap n) fun n => k { v := .d (.int q n) }
    | _, _, _ => none
  | .makeSlice ty n c => match P.underlying ty, ρ n, ρ c with
    | some (.slice e), .d (.int .i64 n), .d (.int .i64 c) => match tyZero P e, tySize P e, P.info? e with
      | some z, some sz, some i => sif (0 ≤ n) (sif (n = c) (sif (n * i.bytes ≤ 2 ^ 47) (sif (n ≤ 2 ^ 47) (sif (z.width = sz) (sif (0 < sz)
          (k { v := .ref t (L.new t) 0 n.toNat, wr := [(t, (L.new t, .arr sz (List.replicate n.toNat z) true))] }))))))
      | _, _, _ => none
    | _, _, _ => none
  | .slice ty x lo hi mx => sliceK P L ty (ρ x) (lo.map ρ) (hi.map ρ) (mx.map ρ) fun v => k { v }
  | .field s x f => fieldK P s f (ρ x) fun v => k { v }
  | .indexAddr ty x i => if okPtr L (ρ x) then indexAddrK P L ty (ρ x) (ρ i) fun v => k { v } else none
  | .index ty x i => match ρ x, ρ i with
    | .d (.agg cs), .d (.int _ n) => match tyArr P ty with
      | some (q, sz, ag) => sif (0 ≤ n) (sif (n < q) (partK ag sz (n.toNat * sz) cs fun d => k { v := .d d }))
      | none => none
    | _, _ => none
  | .lookup ty m x ok => match tyMap P ty, ρ m with
    | some (kk, et), .map g l => match L.get g l, tyZero P et, keyOf kk (ρ x) with
      | .map mk es, some z, some n => if mk = kk then decT P et (lookD n z es) fun d => k { v := if ok then .d (.tup [d, .bool (hasD n es)]) else .d d } else none
      | _, _, _ => none
    | _, _ => none
  | .call { callee := .builtin .len, args, argTypes } => match args.toList, argTypes.toList with
    | [x], [ty] => match ρ x with
      | .d (.str s) => if tyStr P ty = true then k { v := .d (.int .i64 s.size) } else none
      | .map g l => if (tyMap P ty).isSome = true then (match L.get g l with
        | .map _ es => k { v := .d (.int .i64 es.length) }
        | _ => none) else none
      | v => if (tyElem P ty).isSome = true then lenK L v fun n => k { v := .d (.int .i64 n) } else none
    | _, _ => none
  | .call { callee := .builtin .min, args, .. } => match args.toList.map ρ with
    | [.d (.int .i64 a), .d (.int .i64 b)] => letN (min a b) fun n => k { v := .d (.int .i64 n) }
    | _ => none
  | .call { callee := .builtin .max, args, .. } => match args.toList.map ρ with
    | [.d (.int .i64 a), .d (.int .i64 b)] => letN (max a b) fun n => k { v := .d (.int .i64 n) }
    | _ => none
  | .call { callee := .builtin .append, args, argTypes } => match args.toList, argTypes.toList with
    | [s, x], [ty, ty2] => if (tyElem P ty2).isSome then appendK P L t ty (ρ s) (ρ x) k else none
    | _, _ => none
  | .call { callee := .builtin .copy, args, argTypes } => match args.toList, argTypes.toList with
    | [s, x], ty :: _ => copyK P L ty (ρ s) (ρ x) k
    | _, _ => none
  | .call { callee := .value f, args, .. } => callK P Γ L G t o.type (ρ f) (args.toList.map ρ) k
  | _ => dfl (aop P Γ o ρ L G) k
end
end Wf

/-
  One operation that is read off does what the operation does.
-/
namespace Wf
open Go Go.RowKit
set_option linter.unusedVariables false
set_option linter.unusedSimpArgs false

section
variable {M : GMo} {R : Type} {r : R}

theorem partK_some {ag : Bool} {size off : Nat} {cs : List D} {k : D → Option R} (h : partK ag size off cs k = some r) : ∃ d, partD ag size off cs = some d ∧ k d = some r := by
  unfold partK at h
  unfold partD
  split at h
  · rename_i e; subst e
    obtain ⟨h1, h2⟩ := sif_some h
    exact ⟨_, by simp [h1], h2⟩
  · rename_i e
    obtain ⟨d, h1, h2⟩ := getK_some h
    simp only [Bool.not_eq_true] at e; subst e
    exact ⟨d, by simpa using h1, h2⟩
theorem elsK_some {L : Loc} {v : V} {k : List D → Option R} (h : elsK L v k = some r) : ∃ l, elsOf L v = some l ∧ k l = some r := by
  cases v with
  | d x => cases x <;> first | cases h | exact ⟨_, rfl, h⟩
  | ref g n off len =>
    simp only [elsK] at h
    simp only [elsOf]
    split at h
    · rename_i e; rw [e]
      obtain ⟨h1, h2⟩ := sif_some h
      exact ⟨_, by simp [h1, cut_eq], h2⟩
    · cases h
  | bref g n off len =>
    simp only [elsK] at h
    simp only [elsOf]
    split at h
    · rename_i e; rw [e]
      obtain ⟨h1, h2⟩ := sif_some h
      exact ⟨_, by simp [h1, cut_eq], h2⟩
    · cases h
  | _ => cases h
theorem lenK_some {L : Loc} {v : V} {k : Nat → Option R} (h : lenK L v k = some r) : ∃ n, (elsOf L v).map List.length = some n ∧ k n = some r := by
  cases v with
  | d x => cases x <;> first | cases h | exact ⟨_, rfl, h⟩
  | ref g n off len =>
    simp only [lenK] at h
    simp only [elsOf]
    split at h
    · rename_i e; rw [e]
      obtain ⟨h1, h2⟩ := sif_some h
      exact ⟨len, by simp [h1]; omega, h2⟩
    · cases h
  | bref g n off len =>
    simp only [lenK] at h
    simp only [elsOf]
    split at h
    · rename_i e; rw [e]
      obtain ⟨h1, h2⟩ := sif_some h
      exact ⟨len, by simp [h1]; omega, h2⟩
    · cases h
  | _ => cases h
theorem toDK_some {L : Loc} {v : V} {k : D → Wr → Option R} (h : toDK L v k = some r) : ∃ x w, toD L v = some (x, w) ∧ k x w = some r := by
  cases v with
  | d x => exact ⟨_, _, rfl, h⟩
  | ref g n off len =>
    simp only [toDK] at h
    simp only [toD]
    split at h
    · rename_i e; rw [e]
      obtain ⟨h1, h2⟩ := sif_some h
      rw [cut_eq] at h2
      exact ⟨_, _, by simp [h1], h2⟩
    · cases h
  | _ => cases h
theorem toDsK_some {L : Loc} : ∀ {vs : List V} {k : List D → Wr → Option R}, toDsK L vs k = some r → ∃ xs w, toDs L vs = some (xs, w) ∧ k xs w = some r
  | [], k, h => ⟨[], [], rfl, h⟩
  | v :: vs, k, h => by
    obtain ⟨x, w, h1, h2⟩ := toDK_some h
    obtain ⟨xs, ws, h3, h4⟩ := toDsK_some (k := fun xs ws => k (x :: xs) (w ++ ws)) h2
    exact ⟨_, _, by rw [toDs, h1]; dsimp only [Option.bind_some]; rw [h3]; rfl, h4⟩
theorem lend1K_some {L : Loc} {v : V} {k : D → Option R} (h : lend1K L v k = some r) : ∃ d, lend1 L v = some d ∧ k d = some r := by
  cases v with
  | d x => exact ⟨_, rfl, h⟩
  | ref g n off len =>
    obtain ⟨l, h1, h2⟩ := elsK_some (L := L) (v := .ref g n off len) (k := fun l => k (.sl .lent l)) h
    exact ⟨_, by simp only [lend1, h1]; rfl, h2⟩
  | bref g n off len =>
    obtain ⟨l, h1, h2⟩ := elsK_some (L := L) (v := .bref g n off len) (k := fun l => k (.sl .lent l)) h
    exact ⟨_, by simp only [lend1, h1]; rfl, h2⟩
  | _ => cases h
theorem lend2K_some {L : Loc} {v : V} {k : D → Option R} (h : lend2K L v k = some r) : ∃ d, lend2 L v = some d ∧ k d = some r := by
  cases v with
  | ptr g n off =>
    simp only [lend2K] at h
    simp only [lend2]
    split at h
    · rename_i e; simp only [e]; exact ⟨_, rfl, h⟩
    · rename_i e; simp only [e]; exact ⟨_, rfl, h⟩
    · rename_i e; simp only [e]
      obtain ⟨d, h1, h2⟩ := lend1K_some (k := fun d => k (.at_ d)) h
      exact ⟨_, by rw [h1]; rfl, h2⟩
    · cases h
  | d x => exact lend1K_some (L := L) (v := .d x) h
  | ref g n off len => exact lend1K_some (L := L) (v := .ref g n off len) h
  | bref g n off len => exact lend1K_some (L := L) (v := .bref g n off len) h
  | _ => cases h
theorem lendsK2_some {L : Loc} : ∀ {vs : List V} {k : List D → Option R}, lendsK2 L vs k = some r → ∃ ds, vs.mapM (lend2 L) = some ds ∧ k ds = some r
  | [], k, h => ⟨[], rfl, h⟩
  | v :: vs, k, h => by
    obtain ⟨x, h1, h2⟩ := lend2K_some h
    obtain ⟨xs, h3, h4⟩ := lendsK2_some (k := fun xs => k (x :: xs)) h2
    exact ⟨x :: xs, by simp [List.mapM_cons, h1, h3], h4⟩
theorem lendK_some {L : Loc} {v : V} {k : D → Option R} (h : lendK L v k = some r) : ∃ d, lend L v = some d ∧ k d = some r := by
  cases v with
  | clo f a b =>
    obtain ⟨a', h1, h2⟩ := lendsK2_some (L := L) (vs := a) (k := fun a' => lendsK2 L b fun b' => k (.fn f a' b')) h
    obtain ⟨b', h3, h4⟩ := lendsK2_some (k := fun b' => k (.fn f a' b')) h2
    exact ⟨_, by simp only [lend, h1, h3]; rfl, h4⟩
  | d x => exact lend2K_some (L := L) (v := .d x) h
  | ref g n off len => exact lend2K_some (L := L) (v := .ref g n off len) h
  | bref g n off len => exact lend2K_some (L := L) (v := .bref g n off len) h
  | ptr g n off => exact lend2K_some (L := L) (v := .ptr g n off) h
  | _ => cases h
theorem lendsK_some {L : Loc} : ∀ {vs : List V} {k : List D → Option R}, lendsK L vs k = some r → ∃ ds, vs.mapM (lend L) = some ds ∧ k ds = some r
  | [], k, h => ⟨[], rfl, h⟩
  | v :: vs, k, h => by
    obtain ⟨x, h1, h2⟩ := lendK_some h
    obtain ⟨xs, h3, h4⟩ := lendsK_some (k := fun xs => k (x :: xs)) h2
    exact ⟨x :: xs, by simp [List.mapM_cons, h1, h3], h4⟩

def wholeD (ag : Bool) (n off : Nat) (x : D) : Option V := match x with
  | .agg cs => (partD ag n off cs).map .d
  | .undef | .tup _ => none
  | x => if ag = false ∧ off = 0 then some (.d x) else none
theorem ag_part {d : D} {ag : Bool} {n : Nat} (h : d.isAgg = ag ∧ d.width = n ∧ d.cell = !ag) : wholeD ag n 0 d = some (V.d d) := by
  obtain ⟨h1, h2, h3⟩ := h
  subst h1
  cases d with
  | undef => exact absurd (show false = true from h3) (by decide)
  | tup l => exact absurd (show false = true from h3) (by decide)
  | agg cs =>
    have h2 : cs.length = n := h2
    subst h2
    show (partD true cs.length 0 cs).map V.d = some (V.d (.agg cs))
    simp [partD]
  | _ => rfl

theorem loadK_some {P : Program} {L : Loc} {G : Option M.S} {t : TypeId} {p : V} {k : V → Option R} (h : loadK P M L G t p k = some r) : ∃ v, aload P M L G t p = some v ∧ k v = some r := by
  unfold loadK at h
  unfold aload
  split at h
  · rename_i ag n h1 h2
    rw [h1, h2]
    dsimp only
    split at h
    · obtain ⟨hc, hk⟩ := sif3_some (decT_some h)
      exact ⟨_, by simp [hc], hk⟩
    · rename_i q off
      split at h
      · rename_i s
        cases hl : M.load s q off n with
        | none => rw [hl] at h; cases h
        | some ds =>
          rw [hl] at h
          dsimp only [bindK] at h
          split at h
          · rename_i hag
            exact ⟨_, by simp [hl, hag], decT_some (f := fun d => k (.d d)) h⟩
          · rename_i hag
            obtain ⟨d, e, h3⟩ := asOne_some h
            subst e
            exact ⟨_, by simp [hl, hag], decT_some (f := fun d => k (.d d)) h3⟩
      · cases h
    · rename_i g l off
      split at h
      · rename_i e
        obtain ⟨d, h3, h4⟩ := partK_some h
        exact ⟨_, by simp [e, h3], decT_some (f := fun d => k (.d d)) h4⟩
      · rename_i v e
        split at h
        · rename_i hc
          exact ⟨v, by simp [e, hc], h⟩
        · cases h
      · cases h
    · rename_i g l i off
      split at h
      · rename_i sz els lv e
        obtain ⟨x, h3, h4⟩ := getK_some h
        split at h4
        · rename_i hc
          obtain ⟨hc2, hk⟩ := sif3_some (decT_some h4)
          refine ⟨_, ?_, hk⟩
          dsimp only
          rw [e, hc.1]
          dsimp only
          rw [h3]
          exact ag_part hc2
        · obtain ⟨cs, e2, h5⟩ := asAgg_some h4
          subst e2
          obtain ⟨d, h6, h7⟩ := partK_some h5
          exact ⟨_, by simp [e, h3, h6], decT_some (f := fun d => k (.d d)) h7⟩
      · cases h
    · cases h
  · cases h

theorem storeK_some {P : Program} {L : Loc} {G : Option M.S} {t : TypeId} {p v : V} {k : Out M.S → Option R} (h : storeK P M L G t p v k = some r) :
    ∃ out, astore P M L G t p v = some out ∧ k out = some r := by
  unfold storeK at h
  split at h
  · rename_i ag n h1 h2
    split at h
    · rename_i g l off
      unfold astore
      rw [h1, h2]
      dsimp only
      split at h
      · rename_i a ds e
        rw [e]
        dsimp only
        split at h
        · obtain ⟨hc, hk⟩ := sif3_some h
          exact ⟨_, by dsimp only; rw [if_pos hc], hk⟩
        · split at h
          · rename_i hc
            exact ⟨_, by dsimp only; rw [if_pos hc], h⟩
          · cases h
        · rename_i x hx
          obtain ⟨hc, hk⟩ := sif4_some h
          exact ⟨_, by
            cases x <;> first | (exfalso; exact hx _ rfl) | (dsimp only; rw [if_pos hc]), hk⟩
        · cases h
      · rename_i v' e
        have : ∃ out, astore P M L G t (.ptr g l off) v = some out ∧ k out = some r := by
          split at h
          · rename_i out ho
            exact ⟨out, ho, h⟩
          · cases h
        unfold astore at this
        rw [h1, h2] at this
        exact this
      · cases h
    · rename_i g l i off
      unfold astore
      rw [h1, h2]
      dsimp only
      split at h
      · rename_i sz els e
        rw [e]
        dsimp only
        split at h
        · obtain ⟨hc, hk⟩ := sif5_some h
          have hi : els[i]? = some (els[i]'hc.2.2.2.2) := List.getElem?_eq_getElem _
          exact ⟨_, by rw [hi]; dsimp only; rw [if_pos ⟨hc.1, hc.2.1, hc.2.2.1, hc.2.2.2.1⟩], hk⟩
        · rename_i x hx
          obtain ⟨d, h3, h4⟩ := getK_some h
          rw [h3]
          split at h4
          · rename_i hsz
            obtain ⟨hc, hk⟩ := sif5_some h4
            refine ⟨_, ?_, hk⟩
            subst hsz
            cases d <;> first
              | (exfalso; have := hc.1; simp [D.isAgg] at this; done)
              | (cases x <;> first | (exfalso; exact hx _ rfl) | (dsimp only; rw [if_pos ⟨hc.2.1, hc.2.2.1, hc.2.2.2.1, hc.2.2.2.2, rfl⟩]))
          · obtain ⟨cs, e2, h5⟩ := asAgg_some h4
            subst e2
            obtain ⟨hc, hk⟩ := sif4_some h5
            refine ⟨_, ?_, hk⟩
            cases x <;> first | (exfalso; exact hx _ rfl) | (dsimp only; rw [if_pos hc])
        · rename_i g' l' off' len'
          split at h
          · rename_i hc
            obtain ⟨hi, h3⟩ := sif_some h
            obtain ⟨x, w, h4, h5⟩ := toDK_some h3
            have hi' : els[i]? = some (els[i]'hi) := List.getElem?_eq_getElem _
            exact ⟨_, by rw [hi']; dsimp only; rw [if_pos hc, h4]; rfl, h5⟩
          · cases h
        · cases h
      · cases h
    · split at h
      · rename_i out ho
        exact ⟨out, ho, h⟩
      · cases h
  · cases h

theorem appendK_some {P : Program} {L : Loc} {t : Nat} {ty : TypeId} {s x : V} {k : Out M.S → Option R} (h : appendK P L t ty s x k = some r) :
    ∃ out, aappend P L t ty s x = some out ∧ k out = some r := by
  unfold appendK at h
  obtain ⟨xs, h1, h2⟩ := elsK_some h
  unfold aappend
  rw [h1]
  dsimp only
  split at h2
  · cases h2
  · rename_i sz h3
    split at h2
    · obtain ⟨hc, hk⟩ := sif2_some h2
      exact ⟨_, by dsimp only; rw [appendTy_le h3 (by simpa using hc.1)]; simp [hc.2], hk⟩
    · rename_i y l
      obtain ⟨hc, hk⟩ := sif4_some h2
      refine ⟨_, ?_, hk⟩
      cases xs with
      | nil => exact absurd rfl hc.1
      | cons x0 xs =>
        dsimp only
        rw [appendTy_le h3 (by simpa using hc.2.1)]
        simp [hc.2.2.1, hc.2.2.2]
    · rename_i g n off len
      split at h2
      · rename_i sz' els e
        obtain ⟨hc, hk⟩ := sif4_some h2
        refine ⟨_, ?_, hk⟩
        dsimp only
        rw [e, appendTy_le h3 (by simpa using hc.1)]
        simp [hc.2]
      · cases h2
    · cases h2

theorem copyK_some {P : Program} {L : Loc} {ty : TypeId} {s x : V} {k : Out M.S → Option R} (h : copyK P L ty s x k = some r) :
    ∃ out, acopy P L ty s x = some out ∧ k out = some r := by
  unfold copyK at h
  split at h
  · rename_i g n off len ez h1
    split at h
    · rename_i sz els e
      obtain ⟨xs, h2, h3⟩ := elsK_some h
      obtain ⟨hc, hk⟩ := sif4_some h3
      exact ⟨_, by unfold acopy; rw [h1, h2]; dsimp only; rw [e]; dsimp only; rw [if_pos hc], hk⟩
    · cases h
  · cases h

theorem rowOk_spec {P : Program} {t : TypeId} {l : List D} (h : rowOk P t l = true) : (l.all fun d => d.cell || d.isAgg) = true ∧ (l.all fun d => some d.width = tyElem P t) = true := by
  simp only [rowOk, List.all_eq_true, Bool.and_eq_true, decide_eq_true_eq] at *
  exact ⟨fun x hx => (h x hx).1, fun x hx => (h x hx).2⟩

theorem sliceK_some {P : Program} {L : Loc} {t : TypeId} {x : V} {lo hi mx : Option V} {k : V → Option R} (h : sliceK P L t x lo hi mx k = some r) :
    ∃ v, aslice P L t x lo hi mx = some v ∧ k v = some r := by
  unfold sliceK at h
  unfold aslice
  split at h
  · rename_i lo' hi' mx' h1 h2 h3
    rw [h1, h2, h3]
    dsimp only
    split at h
    · obtain ⟨hc, hk⟩ := sif7_some h
      obtain ⟨c1, c2, c3, c4, c5, c6, c7⟩ := hc
      obtain ⟨q1, q2⟩ := rowOk_spec c7
      exact ⟨_, by dsimp only; rw [if_pos ⟨c1, c2, c3, c4, c5, c6, q1, q2⟩]; rfl, hk⟩
    · obtain ⟨hc, hk⟩ := sif5_some h
      exact ⟨_, by dsimp only; rw [if_pos hc], hk⟩
    · rename_i g n off len
      dsimp only at h ⊢
      split at h
      · rename_i sz sz' els lv e1 e2
        rw [e1, e2]
        dsimp only
        split at h
        · rename_i hsz
          obtain ⟨hc, hk⟩ := sif4_some h
          exact ⟨_, by rw [if_pos ⟨hsz, hc⟩], hk⟩
        · cases h
      · cases h
    · rename_i g n off
      dsimp only at h ⊢
      split at h
      · rename_i q sz ag ag' ds e1 e2
        rw [e1, e2]
        obtain ⟨hc, hk⟩ := sif7_some h
        exact ⟨_, if_pos hc, hk⟩
      · cases h
    · cases h
  · cases h

theorem indexAddrK_some {P : Program} {L : Loc} {t : TypeId} {x i : V} {k : V → Option R} (h : indexAddrK P L t x i k = some r) :
    ∃ v, aindexAddr P L t x i = some v ∧ k v = some r := by
  unfold indexAddrK at h
  split at h
  · rename_i q n
    unfold aindexAddr
    dsimp only
    split at h
    · split at h
      · rename_i sz e h1 h2
        obtain ⟨h0, h3⟩ := sif_some h
        obtain ⟨d, h4, h5⟩ := getK_some h3
        obtain ⟨hc, hk⟩ := sif2_some (decT_some h5)
        exact ⟨_, by rw [if_neg (by omega)]; dsimp only; rw [h1, h4]; dsimp only; rw [if_pos hc], hk⟩
      · cases h
    · split at h
      · rename_i sz sz' els lv h1 h2
        split at h
        · rename_i hsz
          obtain ⟨hc, hk⟩ := sif2_some h
          exact ⟨_, by rw [if_neg (by omega)]; dsimp only; rw [h1, h2]; dsimp only; rw [if_pos ⟨hc.2, hsz⟩], hk⟩
        · cases h
      · cases h
    · split at h
      · rename_i sz h1
        obtain ⟨hc, hk⟩ := sif3_some h
        exact ⟨_, by rw [if_neg (by omega)]; dsimp only; rw [h1]; dsimp only; rw [if_pos ⟨hc.1, hc.2.2⟩], hk⟩
      · cases h
    · split at h
      · rename_i m sz ag h1
        obtain ⟨hc, hk⟩ := sif2_some h
        exact ⟨_, by rw [if_neg (by omega)]; dsimp only; rw [h1]; dsimp only; rw [if_pos hc.2], hk⟩
      · cases h
    · split at h
      · rename_i m sz ag h1
        obtain ⟨hc, h2⟩ := sif2_some h
        obtain ⟨d, h3, hk⟩ := partK_some h2
        exact ⟨_, by rw [if_neg (by omega)]; dsimp only; rw [h1]; dsimp only; rw [if_pos hc.2, h3]; rfl, hk⟩
      · cases h
    · split at h
      · rename_i m sz ag h1
        obtain ⟨hc, hk⟩ := sif2_some h
        exact ⟨_, by rw [if_neg (by omega)]; dsimp only; rw [h1]; dsimp only; rw [if_pos hc.2], hk⟩
      · cases h
    · cases h
  · cases h

theorem letD_some {d : D} {k : D → Option R} (h : letD d k = some r) : k d = some r := by
  cases d with
  | int q n =>
    have h : letN n (fun n => k (.int q n)) = some r := h
    rw [letN_eq] at h; exact h
  | _ => exact h
theorem binK_some {bt : Bool} {op : BinOp} {a b : D} {k : D → Option R} (h : binK bt op a b k = some r) : ∃ d, abin bt op a b = some d ∧ k d = some r := by
  unfold binK at h
  split at h
  · split at h
    · rename_i e; subst e
      obtain ⟨h0, h1⟩ := sif_some h
      simp only [letN_eq] at h1
      exact ⟨_, by simp [abin, ibin, h0], h1⟩
    · cases h
  · split at h
    · rename_i e; subst e
      obtain ⟨h0, h1⟩ := sif_some h
      simp only [letN_eq] at h1
      exact ⟨_, by simp [abin, ibin, h0], h1⟩
    · cases h
  · obtain ⟨h0, h1⟩ := sif_some h
    rw [letN_eq] at h1
    exact ⟨_, by simp [abin, ishift, Int.not_lt.2 h0], h1⟩
  · obtain ⟨h0, h1⟩ := sif_some h
    rw [letN_eq] at h1
    exact ⟨_, by simp [abin, ishift, Int.not_lt.2 h0], h1⟩
  · split at h
    · exact ⟨_, by assumption, letD_some h⟩
    · cases h

theorem adoptK1_some {P : Program} {L : Loc} {id sz : Nat} {t : TypeId} {d : D} {k : V → Wr → Option R} (h : adoptK1 P L id sz t d k = some r) : k (adopt1 L id sz d).1 (adopt1 L id sz d).2 = some r ∧ ∀ l, d ≠ .tup l := by
  unfold adoptK1 at h
  split at h
  · have h2 := decT_some (f := fun d => dataK d k) h
    clear h
    rename_i hsz0
    have h := h2
    clear h2
    cases d with
    | sl tg l => cases tg <;> first | exact ⟨h, by simp⟩ | cases h
    | tup l => cases h
    | _ => exact ⟨h, by simp⟩
  · obtain ⟨els, e, h⟩ := asOwn_some h
    subst e; exact ⟨h, by simp⟩
theorem tupN_some {n : Nat} {l : List D} {k : List D → Option R} (h : tupN n l k = some r) : k l = some r := by
  obtain ⟨x, e, h⟩ := getCells_some h
  rw [e]; exact h
theorem adoptKL_some {P : Program} {L : Loc} {t : Nat} : ∀ {szs : List Nat} {j : Nat} {tys : List TypeId} {ds : List D} {k : List V → Wr → Option R}, adoptKL P L t j szs tys ds k = some r →
    k (adoptL L t j szs ds).1 (adoptL L t j szs ds).2 = some r
  | [], j, [], [], k, h => h
  | [], j, _ :: _, _, k, h => by cases h
  | [], j, [], _ :: _, k, h => by cases h
  | _ :: _, j, [], _, k, h => by cases h
  | _ :: _, j, _ :: _, [], k, h => by cases h
  | sz :: szs, j, ty :: tys, d :: ds, k, h => by
    have h2 := (adoptK1_some (k := fun v w => adoptKL P L t (j + 1) szs tys ds fun vs ws => k (v :: vs) (w ++ ws)) h).1
    exact adoptKL_some (k := fun vs ws => k ((adopt1 L (t + 1000 * (j + 1)) sz d).1 :: vs) ((adopt1 L (t + 1000 * (j + 1)) sz d).2 ++ ws)) h2
theorem adoptK_some {P : Program} {L : Loc} {t : Nat} {szs : List Nat} {ty : TypeId} {d : D} {k : V → Wr → Option R} (h : adoptK P L t szs ty d k = some r) :
    ∃ x, adopt L t szs d = some x ∧ k x.1 x.2 = some r := by
  unfold adoptK at h
  split at h
  · obtain ⟨ds, e, h2⟩ := asTup_some h
    subst e
    have h := tupN_some h2
    split at h
    · rename_i hc
      have h := adoptKL_some (k := fun vs w => k (.tup vs) w) h
      exact ⟨_, by simp only [adopt]; rw [if_pos hc], h⟩
    · cases h
  · split at h
    · obtain ⟨h, hd⟩ := adoptK1_some h
      refine ⟨_, ?_, h⟩
      unfold adopt
      cases d <;> first | rfl | exact absurd rfl (hd _)
    · cases h

theorem callK_some {P : Program} {Γ : Env M} {L : Loc} {G : Option M.S} {t : Nat} {ty : TypeId} {f : V} {args : List V} {k : Out M.S → Option R} (h : callK P Γ L G t ty f args k = some r) :
    ∃ out, acall Γ L G t f args = some out ∧ k out = some r := by
  unfold callK at h
  unfold acall
  split at h
  · rename_i q a b e
    rw [e]
    dsimp only
    obtain ⟨ds, h1, h2⟩ := lendsK_some h
    rw [h1]
    split at h2
    · rename_i szs F e2
      rw [e2]
      cases hF : F ds with
      | none => rw [hF] at h2; cases h2
      | some x =>
        rw [hF] at h2
        dsimp only [bindK] at h2
        obtain ⟨y, h3, h4⟩ := adoptK_some h2
        exact ⟨_, by dsimp only; rw [hF]; dsimp only [Option.bind_some]; rw [h3]; rfl, h4⟩
    · rename_i szs F e2
      rw [e2]
      split at h2
      · rename_i s
        cases hF : F ds s with
        | none => rw [hF] at h2; cases h2
        | some x =>
          rw [hF] at h2
          dsimp only [bindK] at h2
          obtain ⟨y, h3, h4⟩ := adoptK_some h2
          exact ⟨_, by dsimp only [Option.bind_some]; rw [hF]; dsimp only [Option.bind_some]; rw [h3]; rfl, h4⟩
      · cases h2
    · cases h2
  · cases h

theorem fieldK_some {P : Program} {s f : Nat} {x : V} {k : V → Option R} (h : fieldK P s f x k = some r) :
    ∃ v, (match x, tyFld P s f, tyFldAgg P s f with
      | .d (.agg cs), some (off, size), some ag => (out (M := M) ((partD ag size off cs).map .d))
      | _, _, _ => none) = some v ∧ k v.v = some r ∧ v = { v := v.v } := by
  unfold fieldK at h
  split at h
  · rename_i h1 h2
    obtain ⟨d, h3, h4⟩ := partK_some h
    exact ⟨{ v := .d d }, by simp [h1, h2, h3, out], h4, rfl⟩
  · cases h

theorem dfl_some {o : Option (Out M.S)} {k : Out M.S → Option R} (h : dfl o k = some r) : ∃ out, o = some out ∧ k out = some r := by
  unfold dfl at h
  split at h
  · exact ⟨_, rfl, h⟩
  · cases h

theorem appendTy_get {P : Program} {ty : TypeId} {n sz : Nat} (h : appendTy P ty n = some sz) : appendTy P ty n = some sz := h

theorem aopK_some {P : Program} {Γ : Env M} {o : Oper} {ρ : Operand → V} {L : Loc} {G : Option M.S} {k : Out M.S → Option R} (h : aopK P Γ o ρ L G k = some r) :
    ∃ out, aop P Γ o ρ L G = some out ∧ k out = some r := by
  unfold aopK at h
  dsimp only at h
  split at h
  · rename_i c a b e
    unfold aop; rw [e]; dsimp only
    split at h
    · rename_i b' hb
      rw [hb]
      exact ⟨_, rfl, br_some h⟩
    · cases h
  · rename_i ty n ps e
    unfold aop; rw [e]; dsimp only
    obtain ⟨ds, w, h1, h2⟩ := toDsK_some h
    split at h2
    · rename_i sz h3
      obtain ⟨hc, hk⟩ := sif3_some h2
      exact ⟨_, by unfold abuildSlice; rw [h3, h1]; dsimp only; rw [if_pos hc], hk⟩
    · cases h2
  · rename_i ty a e
    unfold aop; rw [e]; dsimp only
    obtain ⟨v, h1, h2⟩ := loadK_some h
    exact ⟨_, by rw [h1]; rfl, h2⟩
  · rename_i ty a x e
    unfold aop; rw [e]; dsimp only
    split at h
    · rename_i hr
      rw [if_pos hr]
      exact storeK_some h
    · cases h
  · rename_i op ty x y z e
    split at h
    · exact dfl_some h
    · rename_i a b hne hx hy
      unfold aop; rw [e]; dsimp only
      rw [hx, hy]
      obtain ⟨d, h1, h2⟩ := binK_some h
      refine ⟨_, ?_, h2⟩
      have this : Wf.out (M := M) ((abin (tyBool P ty) op a b).map V.d) = some { v := V.d d } := by rw [h1]; rfl
      cases a <;> first | exact this | (cases b <;> first | exact this | exact (hne _ _ rfl rfl).elim)
    · cases h
  · rename_i src dst x e
    unfold aop; rw [e]; dsimp only
    split at h
    · rename_i s q kk n e1 e2 e3
      rw [e1, e2, e3]
      rw [letN_eq] at h
      exact ⟨_, rfl, h⟩
    · cases h
  · rename_i ty n c e
    unfold aop; rw [e]; dsimp only
    unfold amakeSlice
    split at h
    · rename_i et n' c' e1 e2 e3
      rw [e1, e2, e3]
      dsimp only
      split at h
      · rename_i z sz i z1 z2 z3
        rw [z1, z2, z3]
        obtain ⟨hc, hk⟩ := sif6_some h
        exact ⟨_, by dsimp only; rw [if_pos hc], hk⟩
      · cases h
    · cases h
  · rename_i ty x lo hi mx e
    unfold aop; rw [e]; dsimp only
    obtain ⟨v, h1, h2⟩ := sliceK_some h
    exact ⟨_, by rw [h1]; rfl, h2⟩
  · rename_i s x f e
    unfold aop; rw [e]; dsimp only
    obtain ⟨v, h1, h2, h3⟩ := fieldK_some (M := M) h
    refine ⟨v, h1, ?_⟩
    rw [h3]; exact h2
  · rename_i ty x i e
    unfold aop; rw [e]; dsimp only
    split at h
    · rename_i hp
      rw [if_pos hp]
      obtain ⟨v, h1, h2⟩ := indexAddrK_some h
      exact ⟨_, by rw [h1]; rfl, h2⟩
    · cases h
  · rename_i ty x i e
    unfold aop; rw [e]; dsimp only
    split at h
    · rename_i cs kk n e1 e2
      rw [e1, e2]
      dsimp only
      split at h
      · rename_i q sz ag e3
        rw [e3]
        obtain ⟨hc, h1⟩ := sif2_some h
        obtain ⟨d, h2, h3⟩ := partK_some h1
        exact ⟨_, by dsimp only; rw [if_pos hc, h2]; rfl, h3⟩
      · cases h
    · cases h
  · rename_i ty m x ok e
    unfold aop; rw [e]; dsimp only
    unfold alookup
    split at h
    · rename_i kk et g l e1 e2
      rw [e1, e2]
      dsimp only
      split at h
      · rename_i mk es z n e4 e5 e6
        rw [e4, e5, e6]
        dsimp only
        split at h
        · rename_i hc
          rw [if_pos hc]
          have h := decT_some h
          simp only [lookD, hasD] at h
          cases hf : findD n es with
          | some y => rw [hf] at h; exact ⟨_, rfl, h⟩
          | none => rw [hf] at h; exact ⟨_, rfl, h⟩
        · cases h
      · cases h
    · cases h
  · rename_i args argTypes _ e
    unfold aop; rw [e]; dsimp only
    split at h
    · rename_i x ty e1 e2
      rw [e1, e2]
      dsimp only
      split at h
      · rename_i s e3
        rw [e3]
        split at h
        · rename_i hs
          exact ⟨_, by simp [alen, hs], h⟩
        · cases h
      · rename_i g l e3
        rw [e3]
        split at h
        · rename_i hs
          split at h
          · rename_i mk es hL
            exact ⟨_, by simp [alen, hs, hL], h⟩
          · cases h
        · cases h
      · rename_i hns hnm
        split at h
        · rename_i hs
          obtain ⟨n, h1, h2⟩ := lenK_some h
          refine ⟨_, ?_, h2⟩
          have : alen P L ty (ρ x) = some n := by
            unfold alen
            split
            · rename_i s e3; exact (hns s e3).elim
            · rename_i g l e3; exact (hnm g l e3).elim
            · rw [if_pos hs]; exact h1
          rw [this]; rfl
        · cases h
    · cases h
  · rename_i args _ _ e
    unfold aop; rw [e]; dsimp only
    split at h
    · rename_i a b e1
      rw [letN_eq] at h
      rw [e1]; exact ⟨_, rfl, h⟩
    · cases h
  · rename_i args _ _ e
    unfold aop; rw [e]; dsimp only
    split at h
    · rename_i a b e1
      rw [letN_eq] at h
      rw [e1]; exact ⟨_, rfl, h⟩
    · cases h
  · rename_i args argTypes _ e
    unfold aop; rw [e]; dsimp only
    split at h
    · rename_i s x ty ty2 e1 e2
      rw [e1, e2]
      dsimp only
      split at h
      · rename_i hs
        rw [if_pos hs]
        exact appendK_some h
      · cases h
    · cases h
  · rename_i args argTypes _ e
    unfold aop; rw [e]; dsimp only
    split at h
    · rename_i s x ty tys e1 e2
      rw [e1, e2]
      exact copyK_some h
    · cases h
  · rename_i f args _ e
    unfold aop; rw [e]; dsimp only
    exact callK_some h
  · exact dfl_some h
end
end Wf

/-
  What a loop, or a meeting of two ways, keeps of a state.
-/
namespace Wf
open Go Go.RowKit

/-- What is kept of a slot. -/
inductive SS where
  | dead
  | val (s : Sh)
  | own (sz : Nat)
  | box (ag : Bool) (ls : List Lf)
  | map (k : MK)
  | same (j : Nat)
  | fnc (f : FuncId)
  deriving DecidableEq, Inhabited

@[reducible] def SST : List SS → Type
  | [] => Unit
  | .dead :: r => SST r
  | .val s :: r => s.T × SST r
  | .own _ :: r => List D × SST r
  | .box _ ls :: r => LfT ls × SST r
  | .map _ :: r => List (Int × D) × SST r
  | .same _ :: r => SST r
  | .fnc _ :: r => SST r

def base : Nat := 50000
/-- Where slot j's row is. -/
def refAt : (i j : Nat) → (ss : List SS) → SST ss → V
  | _, _, [], _ => .d .undef
  | i, j, .dead :: r, x => refAt (i + 1) j r x
  | i, j, .same _ :: r, x => refAt (i + 1) j r x
  | i, j, .fnc _ :: r, x => refAt (i + 1) j r x
  | i, j, .val _ :: r, x => refAt (i + 1) j r x.2
  | i, j, .map _ :: r, x => refAt (i + 1) j r x.2
  | i, j, .box _ _ :: r, x => if i = j then .ptr (base + i) 1 0 else refAt (i + 1) j r x.2
  | i, j, .own _ :: r, x => if i = j then .ref (base + i) 1 0 x.1.length else refAt (i + 1) j r x.2

def entries (sj : Nat → V) : (i : Nat) → (ss : List SS) → SST ss → List (V × HObj)
  | _, [], _ => []
  | i, .dead :: r, x => (.d .undef, .dead) :: entries sj (i + 1) r x
  | i, .val s :: r, x => (.d (s.mk x.1), .dead) :: entries sj (i + 1) r x.2
  | i, .own sz :: r, x => (.ref (base + i) 1 0 x.1.length, .arr sz x.1 true) :: entries sj (i + 1) r x.2
  | i, .box ag ls :: r, x => (.ptr (base + i) 1 0, .box ag (mkCells ls x.1)) :: entries sj (i + 1) r x.2
  | i, .map kk :: r, x => (.map (base + i) 1, .map kk x.1) :: entries sj (i + 1) r x.2
  | i, .same j :: r, x => (sj j, .dead) :: entries sj (i + 1) r x
  | i, .fnc f :: r, x => (.clo f [] [], .dead) :: entries sj (i + 1) r x

def locOf (es : List (V × HObj)) : Loc := fun g => if base ≤ g then (match es[g - base]? with
  | some (_, .dead) => (0, .dead)
  | some (_, o) => (1, o)
  | none => (0, .dead)) else (0, .dead)
def stOf {M : GMo} (es : List (V × HObj)) (n : Nat) (G : M.S) : St M := { slots := es.map (·.1) ++ List.replicate (n - es.length) (.d .undef), L := locOf es, G }
def SSJ {M : GMo} (ss : List SS) (n : Nat) (x : SST ss) (G : M.S) : St M := stOf (entries (fun j => refAt 0 j ss x) 0 ss x) n G

section
variable {R : Type}
def coGo (L : Loc) (all : List V) (sh : List SS) : (ss : List SS) → List V → (SST ss → List (Option Nat) → Option R) → Option R
  | [], _, k => k () []
  | .dead :: r, _ :: vs, k => coGo L all sh r vs fun x ks => k x (none :: ks)
  | .val s :: r, v :: vs, k => match v with
    | .d d => s.get d fun y => coGo L all sh r vs fun x ks => k (y, x) (none :: ks)
    | _ => none
  | .own sz :: r, v :: vs, k => match v with
    | .ref g n off len => match off, L.get g n with
      | 0, .arr sz' els true => if sz' = sz then sif (len = els.length) (coGo L all sh r vs fun x ks => k (els, x) (some g :: ks)) else none
      | _, _ => none
    | .d (.sl .full []) => coGo L all sh r vs fun x ks => k ([], x) (none :: ks)
    | _ => none
  | .box ag ls :: r, v :: vs, k => match v with
    | .ptr g n off => match off, L.get g n with
      | 0, .box ag' ds => if ag' = ag then getCells ls ds fun y => coGo L all sh r vs fun x ks => k (y, x) (some g :: ks) else none
      | _, _ => none
    | _ => none
  | .map kk :: r, v :: vs, k => match v with
    | .map g n => match L.get g n with
      | .map kk' es => if kk' = kk then coGo L all sh r vs fun x ks => k (es, x) (some g :: ks) else none
      | _ => none
    | _ => none
  | .same j :: r, v :: vs, k => match v, all[j]?, sh[j]? with
    | .ref g n off len, some (.ref g' n' off' len'), some (.own _) => if g' = g ∧ n' = n ∧ off' = off then sif (len' = len) (coGo L all sh r vs fun x ks => k x (none :: ks)) else none
    | .ptr g n off, some (.ptr g' n' off'), some (.box _ _) => if g' = g ∧ n' = n ∧ off' = off then coGo L all sh r vs fun x ks => k x (none :: ks) else none
    | _, _, _ => none
  | .fnc f :: r, v :: vs, k => match v with
    | .clo f' [] [] => if f' = f then coGo L all sh r vs fun x ks => k x (none :: ks) else none
    | .d (.fn f' [] []) => if f' = f then coGo L all sh r vs fun x ks => k x (none :: ks) else none
    | _ => none
  | _ :: _, [], _ => none

def co {M : GMo} (ss : List SS) (s : St M) (k : SST ss → M.S → Option R) : Option R :=
  if ss.length ≤ s.slots.length then coGo s.L s.slots ss ss s.slots fun x ks => if distinct ks then k x s.G else none else none
end

/-- How an entry stands to what was there. -/
inductive Ext (L : Loc) (all : List V) (sh : List SS) (sj : Nat → V) (id : Nat) : V → Option Nat → V → HObj → Prop where
  | drop (v) : Ext L all sh sj id v none (.d .undef) .dead
  | keep (d) : Ext L all sh sj id (.d d) none (.d d) .dead
  | own (g n sz els) : L.get g n = .arr sz els true → Ext L all sh sj id (.ref g n 0 els.length) (some g) (.ref id 1 0 els.length) (.arr sz els true)
  | nil (sz) : Ext L all sh sj id (.d (.sl .full [])) none (.ref id 1 0 0) (.arr sz [] true)
  | box (g n ag ds) : L.get g n = .box ag ds → Ext L all sh sj id (.ptr g n 0) (some g) (.ptr id 1 0) (.box ag ds)
  | map (g n kk es) : L.get g n = .map kk es → Ext L all sh sj id (.map g n) (some g) (.map id 1) (.map kk es)
  | sameR (j g n off len) : all[j]? = some (.ref g n off len) → (∃ z, sh[j]? = some (.own z)) → Ext L all sh sj id (.ref g n off len) none (sj j) .dead
  | sameP (j g n off) : all[j]? = some (.ptr g n off) → (∃ a l, sh[j]? = some (.box a l)) → Ext L all sh sj id (.ptr g n off) none (sj j) .dead
  | clo (f v) : (v = .clo f [] [] ∨ v = .d (.fn f [] [])) → Ext L all sh sj id v none (.clo f [] []) .dead


theorem getE {α : Type} {a : α} {l : List α} {i : Nat} : (a :: l)[i + 1]? = l[i]? := by simp

theorem entries_len {sj : Nat → V} : ∀ (ss : List SS) (i : Nat) (x : SST ss), (entries sj i ss x).length = ss.length
  | [], _, _ => rfl
  | .dead :: r, i, x => by simp only [entries, List.length_cons, entries_len r (i + 1) x]
  | .val s :: r, i, x => by simp only [entries, List.length_cons, entries_len r (i + 1) x.2]
  | .own sz :: r, i, x => by simp only [entries, List.length_cons, entries_len r (i + 1) x.2]
  | .box ag ls :: r, i, x => by simp only [entries, List.length_cons, entries_len r (i + 1) x.2]
  | .map kk :: r, i, x => by simp only [entries, List.length_cons, entries_len r (i + 1) x.2]
  | .same j :: r, i, x => by simp only [entries, List.length_cons, entries_len r (i + 1) x]
  | .fnc f :: r, i, x => by simp only [entries, List.length_cons, entries_len r (i + 1) x]

theorem entries_at {sj : Nat → V} : ∀ (ss : List SS) (i j : Nat) (x : SST ss), ((∃ z, ss[j]? = some (.own z)) ∨ ∃ a l, ss[j]? = some (.box a l)) →
    ∃ e, (entries sj i ss x)[j]? = some e ∧ e.2 ≠ .dead ∧ e.1 = refAt i (i + j) ss x
  | [], i, j, x, h => by simp at h
  | sh :: r, i, 0, x, h => by
    rcases h with ⟨z, h⟩ | ⟨a, l, h⟩ <;> injection h with h <;> subst h
    · exact ⟨_, rfl, by simp, by simp [refAt]⟩
    · exact ⟨_, rfl, by simp, by simp [refAt]⟩
  | sh :: r, i, j + 1, x, h => by
    have hij : i + (j + 1) = (i + 1) + j := by omega
    have hne : i ≠ i + (j + 1) := by omega
    simp only [getE] at h
    cases sh <;> simp only [entries, getE, refAt, if_neg hne] <;> rw [hij] <;> exact entries_at r (i + 1) j _ h

section
variable {R : Type} {r : R} {L : Loc} {all : List V} {sh : List SS} {sj : Nat → V}

theorem coGo_some : ∀ (ss : List SS) (i : Nat) (vs : List V) (k : SST ss → List (Option Nat) → Option R), ss.length ≤ vs.length → coGo L all sh ss vs k = some r →
    ∃ x ks, k x ks = some r ∧ ks.length = ss.length ∧ ∀ sj : (Nat → V), ∀ (j : Nat) (v : V), vs[j]? = some v → j < ss.length → ∃ e q, (entries sj i ss x)[j]? = some e ∧ ks[j]? = some q ∧ Ext L all sh sj (base + (i + j)) v q e.1 e.2
  | [], i, vs, k, _, h => ⟨(), [], h, rfl, fun sj j v _ hj => absurd hj (by simp)⟩
  | _ :: _, i, [], k, hl, _ => absurd hl (by simp)
  | sh0 :: ss, i, v :: vs, k, hl, h => by
    have hl' : ss.length ≤ vs.length := by simpa using hl
    have step : ∀ {x' : SST ss} {ks : List (Option Nat)} {x : SST (sh0 :: ss)} {q : Option Nat} {e : (Nat → V) → V × HObj}, ks.length = ss.length →
        (∀ sj : (Nat → V), ∀ (j : Nat) (v : V), vs[j]? = some v → j < ss.length → ∃ e q, (entries sj (i + 1) ss x')[j]? = some e ∧ ks[j]? = some q ∧ Ext L all sh sj (base + (i + 1 + j)) v q e.1 e.2) →
        (∀ sj, entries sj i (sh0 :: ss) x = e sj :: entries sj (i + 1) ss x') → (∀ sj, Ext L all sh sj (base + i) v q (e sj).1 (e sj).2) →
        (q :: ks).length = (sh0 :: ss).length ∧ ∀ sj : (Nat → V), ∀ (j : Nat) (w : V), (v :: vs)[j]? = some w → j < (sh0 :: ss).length → ∃ e q', (entries sj i (sh0 :: ss) x)[j]? = some e ∧ (q :: ks)[j]? = some q' ∧ Ext L all sh sj (base + (i + j)) w q' e.1 e.2 := by
      intro x' ks x q e h1 h2 h3 h4
      refine ⟨by simp [h1], fun sj j w hw hj => ?_⟩
      rw [h3]
      cases j with
      | zero => simp at hw; subst hw; exact ⟨_, _, rfl, rfl, h4 sj⟩
      | succ j =>
        simp only [getE] at hw
        obtain ⟨e', q', k1, k2, k3⟩ := h2 sj j w hw (by simpa using hj)
        exact ⟨e', q', by simpa using k1, by simpa using k2, by rw [show i + (j + 1) = i + 1 + j by omega]; exact k3⟩
    cases sh0 with
    | dead =>
      obtain ⟨x, ks, h1, h2, h3⟩ := coGo_some ss (i + 1) vs (fun x ks => k x (none :: ks)) hl' h
      exact ⟨x, none :: ks, h1, step (e := fun _ => (.d .undef, .dead)) h2 h3 (fun _ => rfl) (fun _ => .drop _)⟩
    | val s =>
      simp only [coGo] at h
      split at h
      · rename_i d
        obtain ⟨y, e, h⟩ := Sh.get_some h
        obtain ⟨x, ks, h1, h2, h3⟩ := coGo_some ss (i + 1) vs (fun x ks => k (y, x) (none :: ks)) hl' h
        subst e
        exact ⟨(y, x), none :: ks, h1, step (e := fun _ => (.d (s.mk y), .dead)) h2 h3 (fun _ => rfl) (fun _ => .keep _)⟩
      · cases h
    | own sz =>
      simp only [coGo] at h
      split at h
      · rename_i g n off len
        split at h
        · rename_i sz' els hL
          split at h
          · rename_i hsz; subst hsz
            obtain ⟨hlen, h4⟩ := sif_some h
            subst hlen
            obtain ⟨x, ks, h1, h2, h3⟩ := coGo_some ss (i + 1) vs (fun x ks => k (els, x) (some g :: ks)) hl' h4
            exact ⟨(els, x), some g :: ks, h1, step (e := fun _ => (.ref (base + i) 1 0 els.length, .arr sz' els true)) h2 h3 (fun _ => rfl) (fun _ => .own _ _ _ _ hL)⟩
          · cases h
        · cases h
      · obtain ⟨x, ks, h1, h2, h3⟩ := coGo_some ss (i + 1) vs (fun x ks => k ([], x) (none :: ks)) hl' h
        exact ⟨([], x), none :: ks, h1, step (e := fun _ => (.ref (base + i) 1 0 0, .arr sz [] true)) h2 h3 (fun _ => rfl) (fun _ => .nil _)⟩
      · cases h
    | box ag ls =>
      simp only [coGo] at h
      split at h
      · rename_i g n off
        split at h
        · rename_i ag' ds hL
          split at h
          · rename_i hag; subst hag
            obtain ⟨y, e, h⟩ := getCells_some h
            obtain ⟨x, ks, h1, h2, h3⟩ := coGo_some ss (i + 1) vs (fun x ks => k (y, x) (some g :: ks)) hl' h
            subst e
            exact ⟨(y, x), some g :: ks, h1, step (e := fun _ => (.ptr (base + i) 1 0, .box ag' (mkCells ls y))) h2 h3 (fun _ => rfl) (fun _ => .box _ _ _ _ hL)⟩
          · cases h
        · cases h
      · cases h
    | map kk =>
      simp only [coGo] at h
      split at h
      · rename_i g n
        split at h
        · rename_i kk' es hL
          split at h
          · rename_i hk; subst hk
            obtain ⟨x, ks, h1, h2, h3⟩ := coGo_some ss (i + 1) vs (fun x ks => k (es, x) (some g :: ks)) hl' h
            exact ⟨(es, x), some g :: ks, h1, step (e := fun _ => (.map (base + i) 1, .map kk' es)) h2 h3 (fun _ => rfl) (fun _ => .map _ _ _ _ hL)⟩
          · cases h
        · cases h
      · cases h
    | same j =>
      simp only [coGo] at h
      split at h
      · rename_i g n off len g' n' off' len' z e1 e2
        split at h
        · rename_i hc
          obtain ⟨rfl, rfl, rfl⟩ := hc
          obtain ⟨hlen, h4⟩ := sif_some h
          subst hlen
          obtain ⟨x, ks, h1, h2, h3⟩ := coGo_some ss (i + 1) vs (fun x ks => k x (none :: ks)) hl' h4
          exact ⟨x, none :: ks, h1, step (e := fun sj => (sj j, .dead)) h2 h3 (fun _ => rfl) (fun _ => .sameR _ _ _ _ _ e1 ⟨_, e2⟩)⟩
        · cases h
      · rename_i g n off g' n' off' a l e1 e2
        split at h
        · rename_i hc
          obtain ⟨rfl, rfl, rfl⟩ := hc
          obtain ⟨x, ks, h1, h2, h3⟩ := coGo_some ss (i + 1) vs (fun x ks => k x (none :: ks)) hl' h
          exact ⟨x, none :: ks, h1, step (e := fun sj => (sj j, .dead)) h2 h3 (fun _ => rfl) (fun _ => .sameP _ _ _ _ e1 ⟨_, _, e2⟩)⟩
        · cases h
      · cases h
    | fnc f =>
      simp only [coGo] at h
      split at h
      · split at h
        · rename_i hf; subst hf
          obtain ⟨x, ks, h1, h2, h3⟩ := coGo_some ss (i + 1) vs (fun x ks => k x (none :: ks)) hl' h
          exact ⟨x, none :: ks, h1, step (e := fun _ => (.clo _ [] [], .dead)) h2 h3 (fun _ => rfl) (fun _ => .clo _ _ (.inl rfl))⟩
        · cases h
      · split at h
        · rename_i hf; subst hf
          obtain ⟨x, ks, h1, h2, h3⟩ := coGo_some ss (i + 1) vs (fun x ks => k x (none :: ks)) hl' h
          exact ⟨x, none :: ks, h1, step (e := fun _ => (.clo _ [] [], .dead)) h2 h3 (fun _ => rfl) (fun _ => .clo _ _ (.inr rfl))⟩
        · cases h
      · cases h
end

theorem ObjOk.drop {c c' : Ctx} {L L' : Loc} {w : World} {N : Nat} {β : Option Nat} {x : HObj} (ho : ObjOk c L w N β x) (hx : ∀ v, x ≠ .vbox v) (hown : ∀ b, own c' L' b → own c L b) (hγ : c'.γ = c.γ) : ObjOk c' L' w N β x := by
  cases x with
  | dead => trivial
  | box ag ds =>
    obtain ⟨b, x, T, fz, p1, p2, p3, p4, p5⟩ := ho
    exact ⟨b, x, T, fz, p1, p2, p3, p4, fun i d u hd hu => ⟨by rw [hγ]; exact (p5 i d u hd hu).1.out hown (Nat.le_refl _), (p5 i d u hd hu).2⟩⟩
  | vbox v => exact absurd rfl (hx v)
  | arr sz els lv =>
    cases β with
    | none => simp only [ObjOk] at ho ⊢; exact ho
    | some b =>
      simp only [ObjOk] at ho ⊢
      obtain ⟨x, T, fz, p1, p2, p3, vs, p4⟩ := ho
      exact ⟨x, T, fz, p1, p2, p3, vs, fun i d hd => ⟨by rw [hγ]; exact (p4 i d hd).1.out hown (Nat.le_refl _), (p4 i d hd).2⟩⟩
  | map kk es =>
    obtain ⟨b, m, k, p1, p2, p3, p4⟩ := ho
    exact ⟨b, m, k, p1, p2, p3, fun i p q hp hq => ⟨(p4 i p q hp hq).1, by rw [hγ]; exact (p4 i p q hp hq).2.out hown (Nat.le_refl _)⟩⟩

theorem locOf_at {es : List (V × HObj)} {j : Nat} {e : V × HObj} (h : es[j]? = some e) (hd : e.2 ≠ .dead) : locOf es (base + j) = (1, e.2) := by
  obtain ⟨v, o⟩ := e
  unfold locOf
  rw [if_pos (by omega), show base + j - base = j by omega, h]
  cases o <;> first | rfl | exact absurd rfl hd
theorem locOf_some {es : List (V × HObj)} {g : Nat} (hd : (locOf es g).2 ≠ .dead) : ∃ j v o, g = base + j ∧ es[j]? = some (v, o) ∧ o ≠ .dead ∧ locOf es g = (1, o) := by
  by_cases hg : base ≤ g
  · refine ⟨g - base, ?_⟩
    have hg2 : g = base + (g - base) := by omega
    cases he : es[g - base]? with
    | none => exfalso; apply hd; unfold locOf; rw [if_pos hg, he]
    | some e =>
      obtain ⟨v, o⟩ := e
      have ho : o ≠ .dead := by
        rintro rfl; apply hd; unfold locOf; rw [if_pos hg, he]
      exact ⟨v, o, hg2, rfl, ho, by have := locOf_at (e := (v, o)) he ho; rwa [← hg2] at this⟩
  · exfalso; apply hd; unfold locOf; rw [if_neg hg]

section
variable {M : GM} {N : Nat} {w0 : World} {O0 : Nat → Prop} {γ0 : Nat → Option Addr} {R : Type} {r : R}

theorem co_ok {ss : List SS} {s : St M} {k : SST ss → M.S → Option R} (h : co ss s k = some r) :
    ∃ x, k x s.G = some r ∧ ∀ {a : Act} {w : World}, Rel M N w0 O0 γ0 s a w → Rel M N w0 O0 γ0 (SSJ ss s.slots.length x s.G) a w := by
  unfold co at h
  split at h
  rotate_left
  · cases h
  rename_i hlen
  obtain ⟨x, ks, h1, h2, h3⟩ := coGo_some ss 0 s.slots _ hlen h
  split at h1
  rotate_left
  · cases h1
  rename_i hdis
  refine ⟨x, h1, ?_⟩
  rintro a w ⟨c, hr⟩
  have hdis := @distinct_spec ks hdis
  let sj := fun j => refAt 0 j ss x
  have h3 := h3 sj
  simp only [Nat.zero_add] at h3
  let es := entries sj 0 ss x
  have hes : es.length = ss.length := entries_len ss 0 x
  let c' : Ctx := { ι := fun g => if base ≤ g then (ks[g - base]?.join).bind c.ι else none, γ := c.γ, O := c.O }
  have hι : ∀ j q, ks[j]? = some q → c'.ι (base + j) = q.bind c.ι := by
    intro j q hq
    show (if base ≤ base + j then _ else _) = _
    rw [if_pos (by omega), show base + j - base = j by omega, hq]; rfl
  have hent : ∀ j e, es[j]? = some e → ∃ v q, s.slots[j]? = some v ∧ ks[j]? = some q ∧ Ext s.L s.slots ss sj (base + j) v q e.1 e.2 := by
    intro j e he
    have hj : j < ss.length := by
      have := (List.getElem?_eq_some_iff.1 he).1; omega
    have hv : s.slots[j]? = some (s.slots[j]'(by omega)) := List.getElem?_eq_getElem _
    obtain ⟨e', q, k1, k2, k3⟩ := h3 j _ hv hj
    have : e' = e := by
      have he2 : es[j]? = some e' := k1
      rw [he] at he2; exact (Option.some.inj he2).symm
    subst this
    exact ⟨_, q, hv, k2, k3⟩
  -- what lives
  have hlive : ∀ g b, (locOf es g).2 ≠ .dead → c'.ι g = some b → ∃ g0 n, s.L.get g0 n = (locOf es g).2 ∧ c.ι g0 = some b ∧ ∃ j, g = base + j ∧ ks[j]? = some (some g0) := by
    intro g b hd hb
    obtain ⟨j, v, o, rfl, he, ho, hl⟩ := locOf_some hd
    rw [hl]
    obtain ⟨v0, q, k1, k2, k3⟩ := hent j _ he
    rw [hι j q k2] at hb
    dsimp only at k3
    cases k3 with
    | drop => exact absurd rfl ho
    | keep => exact absurd rfl ho
    | own g n sz els hL => exact ⟨g, n, hL, hb, j, rfl, k2⟩
    | nil => cases hb
    | box g n ag ds hL => exact ⟨g, n, hL, hb, j, rfl, k2⟩
    | map g n kk es hL => exact ⟨g, n, hL, hb, j, rfl, k2⟩
    | sameR => exact absurd rfl ho
    | sameP => exact absurd rfl ho
    | clo => exact absurd rfl ho
  have hown : ∀ b, own c' (locOf es) b → own c s.L b := by
    rintro b (hb | ⟨g, hg, hl⟩)
    · exact .inl hb
    · have hd : (locOf es g).2 ≠ .dead := by intro e; rw [e] at hl; cases hl
      obtain ⟨g0, n, k1, k2, _⟩ := hlive g b hd hg
      obtain ⟨_, e2⟩ := get_at k1 hd
      exact .inr ⟨g0, k2, by rw [e2]; exact hl⟩
  have hval : ∀ j v v' q o u, s.slots[j]? = some v → es[j]? = some (v', o) → ks[j]? = some q → Ext s.L s.slots ss sj (base + j) v q v' o → Val c s.L w N v u → o ≠ .dead → Val c' (locOf es) w N v' u := by
    intro j v v' q o u hv he hq hx hu ho
    have hl := locOf_at he ho
    dsimp only at hl
    have hi := hι j q hq
    cases hx with
    | drop => exact absurd rfl ho
    | keep => exact absurd rfl ho
    | own g n sz els hL =>
      cases hu with
      | ref _ _ _ _ _ p1 p2 =>
        refine .ref _ _ _ _ _ (by rw [hl]; exact Nat.le_refl _) fun sz' els' l' hg => ?_
        unfold Loc.get at hg; rw [hl] at hg; simp only [if_true] at hg
        injection hg with e1 e2 e3
        subst e1; subst e2
        rw [hi]
        exact p2 _ _ _ hL
    | nil sz =>
      have hu := hu.dat
      refine .ref _ _ _ _ _ (by rw [hl]; exact Nat.le_refl _) fun sz' els' l' hg => ?_
      cases hu with
      | slE _ a cap hc => exact ⟨by simp, a, cap, rfl, Nat.zero_le _, .inl (hc rfl)⟩
      | sl _ _ _ _ _ _ _ h0 => exact absurd rfl h0
    | box g n ag ds hL =>
      cases hu with
      | ptr _ _ _ _ p1 p2 =>
        refine .ptr _ _ _ _ (by rw [hl]; exact Nat.le_refl _) fun _ => ?_
        rw [hi]
        exact p2 (by rw [hL]; simp)
    | map g n kk es hL =>
      cases hu with
      | map _ _ _ p1 p2 =>
        refine .map _ _ _ (by rw [hl]; exact Nat.le_refl _) fun _ => ?_
        rw [hi]
        exact p2 (by rw [hL]; simp)
    | sameR => exact absurd rfl ho
    | sameP => exact absurd rfl ho
    | clo => exact absurd rfl ho
  refine ⟨c', ⟨fun g => ?_, fun g g' b e1 e2 d1 d2 => ?_, fun g b e d => ?_, hr.mem.glob, hr.mem.size, hr.mem.size0,
      hr.mem.os, hr.mem.tape, hr.mem.output, hr.mem.keep, hr.mem.osub⟩, ⟨?_, fun i v u hv hu => ?_⟩, hr.defers, hr.hγ, hr.cells⟩
  · show ObjOk c' (locOf es) w N (c'.ι g) (locOf es g).2
    by_cases hd : (locOf es g).2 = .dead
    · rw [hd]; trivial
    · cases hb : c'.ι g with
      | some b =>
        obtain ⟨g0, n, k1, k2, _⟩ := hlive g b hd hb
        obtain ⟨_, e2⟩ := get_at k1 hd
        have := hr.mem.obj g0
        rw [e2, k2] at this
        refine this.drop (fun v e => ?_) hown rfl
        obtain ⟨j, v, o, rfl, he, ho, hl⟩ := locOf_some hd
        rw [hl] at e
        obtain ⟨v0, q, _, _, k3⟩ := hent j _ he
        dsimp only at e k3
        subst e
        cases k3
      | none =>
        obtain ⟨j, v, o, rfl, he, ho, hl⟩ := locOf_some hd
        obtain ⟨v0, q, k1, k2, k3⟩ := hent j _ he
        rw [hι j q k2] at hb
        rw [hl]
        dsimp only at k3 ⊢
        cases k3 with
        | drop => exact absurd rfl ho
        | keep => exact absurd rfl ho
        | own g n sz els hL =>
          have hb : c.ι g = none := hb
          have := hr.mem.obj g
          obtain ⟨_, e2⟩ := get_at hL (by simp)
          rw [e2, hb] at this
          exact this
        | nil => exact rfl
        | box g n ag ds hL =>
          have hb : c.ι g = none := hb
          have := hr.mem.obj g
          obtain ⟨_, e2⟩ := get_at hL (by simp)
          rw [e2, hb] at this
          obtain ⟨b, _, _, _, p, _⟩ := this
          cases p
        | map g n kk es hL =>
          have hb : c.ι g = none := hb
          have := hr.mem.obj g
          obtain ⟨_, e2⟩ := get_at hL (by simp)
          rw [e2, hb] at this
          obtain ⟨b, _, _, p, _⟩ := this
          cases p
        | sameR => exact absurd rfl ho
        | sameP => exact absurd rfl ho
        | clo => exact absurd rfl ho
  · obtain ⟨g0, n, k1, k2, j, rfl, kj⟩ := hlive g b d1 e1
    obtain ⟨g0', n', k1', k2', j', rfl, kj'⟩ := hlive g' b d2 e2
    obtain ⟨_, q1⟩ := get_at k1 d1
    obtain ⟨_, q2⟩ := get_at k1' d2
    have := hr.mem.inj g0 g0' b k2 k2' (by rw [q1]; exact d1) (by rw [q2]; exact d2)
    subst this
    rw [hdis j j' g0 kj kj']
  · obtain ⟨g0, n, k1, k2, _⟩ := hlive g b d e
    obtain ⟨_, q1⟩ := get_at k1 d
    exact hr.mem.mine g0 b k2 (by rw [q1]; exact d)
  · show a.tmps.toList.length = (es.map (·.1) ++ List.replicate (s.slots.length - es.length) (V.d .undef)).length
    have := hr.slots.1
    simp only [List.length_append, List.length_map, List.length_replicate]; omega
  · have hv : (es.map (·.1) ++ List.replicate (s.slots.length - es.length) (V.d .undef))[i]? = some v := hv
    by_cases hi : i < es.length
    · rw [List.getElem?_append_left (by simpa using hi), List.getElem?_map] at hv
      cases he : es[i]? with
      | none => rw [he] at hv; cases hv
      | some e =>
        rw [he] at hv
        obtain ⟨v', o⟩ := e
        have hv' : v' = v := by simpa using hv
        subst hv'
        obtain ⟨v0, q, k1, k2, k3⟩ := hent i _ he
        dsimp only at k3
        have hu0 := hr.slots.2 i v0 u k1 hu
        by_cases ho : o = .dead
        · subst ho
          cases k3 with
          | drop => exact .d _ _ (.undef _)
          | keep d => exact .d _ _ (hu0.dat.out hown (Nat.le_refl _))
          | sameR j g n off len e1 e2 =>
            obtain ⟨e', p1, p2, p3⟩ := entries_at (sj := sj) ss 0 j x (.inl e2)
            simp only [Nat.zero_add] at p3
            obtain ⟨v1, q1, r1, r2, r3⟩ := hent j e' p1
            rw [e1] at r1; cases r1
            have := hval j _ e'.1 q1 e'.2 u e1 p1 r2 r3 hu0 p2
            rw [p3] at this
            exact this
          | sameP j g n off e1 e2 =>
            obtain ⟨e', p1, p2, p3⟩ := entries_at (sj := sj) ss 0 j x (.inr e2)
            simp only [Nat.zero_add] at p3
            obtain ⟨v1, q1, r1, r2, r3⟩ := hent j e' p1
            rw [e1] at r1; cases r1
            have := hval j _ e'.1 q1 e'.2 u e1 p1 r2 r3 hu0 p2
            rw [p3] at this
            exact this
          | clo f _ hq =>
            rcases hq with hq | hq <;> rw [hq] at hu0
            · cases hu0 with
              | clo _ _ _ va vb q1 q2 _ _ => exact .clo _ _ _ va vb q1 q2 (fun i v u h _ => by cases h) (fun i v u h _ => by cases h)
            · have := hu0.dat
              cases this with
              | fn _ _ _ va vb q1 q2 _ _ => exact .clo _ _ _ va vb q1 q2 (fun i v u h _ => by cases h) (fun i v u h _ => by cases h)
        · exact hval i _ v' q o u k1 he k2 k3 hu0 ho
    · rw [List.getElem?_append_right (by simpa using hi)] at hv
      have := List.mem_of_getElem? hv
      rw [List.mem_replicate] at this
      rw [this.2]
      exact .d _ _ (.undef _)
end
end Wf

/-
  Code, so that what it comes to can be read off; and that it does come to that.
-/
namespace Wf
open Go Go.RowKit

def nl : Code → Nat
  | .seq a b => nl a + nl b
  | .cond _ a b => 1 + nl a + nl b
  | .block _ b => nl b
  | .scope b => nl b
  | .loop b => 1 + nl b
  | _ => 0

abbrev Ann := List (Nat × List SS)
def Ann.at : Ann → Nat → Option (List SS)
  | [], _ => none
  | (i, ss) :: r, j => if i = j then some ss else Ann.at r j

def setO (slots : List V) (c : Operand) (b : Bool) : List V := match c with
  | .tmp t => slots.set t (.d (.bool b))
  | _ => slots

section
variable {M : GMo} {R : Type}

def updK (L : Loc) : Wr → (Loc → Option R) → Option R
  | [], k => k L
  | (g, x) :: w, k => updK (L.set g x) w k
def drun (P : Program) (Γ : Env M) (o : Oper) (s : St M) (k : St M → Foot → Option R) : Option R :=
  forceL (o.op.operands.toList.map (evalV s.slots)) fun vs =>
  forceL (rdOf o vs s.L) fun rd =>
  let g := gOf Γ o vs
  aopK P Γ o (evalV s.slots) (s.L.only rd) (if g = 0 then none else some s.G) fun out => match out with
    | ⟨v, wr, gs⟩ => if g = 2 ∨ gs = none then
      forceL (putV s.slots o.dst v) fun slots => updK s.L wr fun L => k { slots, L, G := gs.getD s.G } { rd, wr := wr.map (·.1), g } else none

def dstep (P : Program) (Γ : Env M) (ops : Array Oper) (o : Oper) (s : St M) (k : St M → Foot → Option R) : Option R :=
  match o.guard with
  | none => drun P Γ o s k
  | some (j, want) => match (ops[j]?).bind (·.dst) with
    | some d => match s.slots[d]? with
      | some (.d (.bool b)) => br b fun b => forceL (s.slots.set d (.d (.bool b))) fun slots => if b == want then drun P Γ o { s with slots } k
          else forceL (putV slots o.dst (.d (.tup []))) fun slots => k { s with slots } {}
      | some (.d (.tup [])) => forceL (putV s.slots o.dst (.d (.tup []))) fun slots => k { s with slots } {}
      | _ => none
    | none => none

def dreg (P : Program) (Γ : Env M) (ops : Array Oper) : List Oper → St M → List Foot → (St M → List Foot → Option R) → Option R
  | [], s, acc, k => k s acc.reverse
  | o :: r, s, acc, k => dstep P Γ ops o s fun s f => dreg P Γ ops r s (f :: acc) k

def coN (n : Nat) (ss : List SS) (s : St M) (k : SST ss → M.S → Option R) : Option R :=
  if s.slots.length = n then co ss s k else none
def SSK (ss : List SS) (n : Nat) (x : SST ss) (G : M.S) (k : St M → Option R) : Option R :=
  forceL (SSJ (M := M) ss n x G).slots fun slots => k { slots, L := (SSJ (M := M) ss n x G).L, G }
def setK (s : St M) (c : Operand) (b : Bool) (k : St M → Option R) : Option R := forceL (setO s.slots c b) fun slots => k { s with slots }

/-- What code comes to. -/
noncomputable def den (P : Program) (Γ : Env M) (ann : Ann) (n : Nat) : Nat → Code → (AExit → St M → Option R) → St M → Option R
  | _, .skip, K, s => K .normal s
  | _, .label _, K, s => K .normal s
  | _, .exit id, K, s => K (.exit id) s
  | _, .ret, K, s => K .ret s
  | _, .region _ ops false, K, s => dreg P Γ ops ops.toList s [] fun s _ => K .normal s
  | _, .region _ ops true, K, s => if Region.lexB .any ops = true then dreg P Γ ops ops.toList s [] fun s log => if chk ops log = true then K .normal s else none else none
  | i, .seq a b, K, s => den P Γ ann n i a (fun e s => match e with
    | .normal => den P Γ ann n (i + nl a) b K s
    | e => K e s) s
  | i, .cond c x y, K, s => match evalV s.slots c with
    | .d (.bool b) => match ann.at i with
      | none => br b fun b => setK s c b fun s => if b then den P Γ ann n (i + 1) x K s else den P Γ ann n (i + 1 + nl x) y K s
      | some ss => jn (fun (a : SST ss × M.S) => SSK ss n a.1 a.2 fun s => K .normal s) fun j =>
        let K' : AExit → St M → Option R := fun e s => match e with
          | .normal => coN n ss s fun x G => j (x, G)
          | e => K e s
        br b fun b => setK s c b fun s => if b then den P Γ ann n (i + 1) x K' s else den P Γ ann n (i + 1 + nl x) y K' s
    | _ => none
  | i, .block id b, K, s => den P Γ ann n i b (fun e s => match e with
    | .exit id' => if id' = id then K .normal s else K (.exit id') s
    | e => K e s) s
  | i, .scope b, K, s => den P Γ ann n i b K s
  | i, .loop b, K, s => match ann.at i with
    | some ss => coN n ss s fun x G => loopN (fun again (a : SST ss × M.S) => SSK ss n a.1 a.2 fun s => den P Γ ann n (i + 1) b (fun e s => match e with
        | .normal => coN n ss s fun x G => again (x, G)
        | e => K e s) s) (x, G)
    | none => loopS i (fun again s => den P Γ ann n (i + 1) b (fun e s => match e with
        | .normal => again s
        | e => K e s) s) s
  | _, _, _, _ => none

end

section
variable {M : GM} {P : Program} {Γ : Env M} {N : Nat} {w0 : World} {O0 : Nat → Prop} {γ0 : Nat → Option Addr} {R : Type} {r : R}

theorem updK_eq (wr : Wr) (L : Loc) (k : Loc → Option R) : updK L wr k = k (L.upd wr) := by
  induction wr generalizing L with
  | nil => rfl
  | cons x w ih => exact ih _
theorem SSK_eq (ss : List SS) (n : Nat) (x : SST ss) (G : M.S) (k : St M → Option R) : SSK ss n x G k = k (SSJ ss n x G) := by unfold SSK; rw [forceL_eq]; rfl
theorem setK_eq {s : St M} {c : Operand} {b : Bool} (k : St M → Option R) : setK s c b k = k { s with slots := setO s.slots c b } := by unfold setK; rw [forceL_eq]
theorem drun_some {o : Oper} {ops : Array Oper} (hg : o.guard = none ∨ True) {s : St M} {k : St M → Foot → Option R} (h : drun P Γ o s k = some r) (hgu : aguard ops s.slots o = some true) :
    ∃ s' f, astep P Γ ops o s = some (s', f) ∧ k s' f = some r := by
  unfold drun at h
  rw [forceL_eq, forceL_eq] at h
  obtain ⟨out, h1, h2⟩ := aopK_some h
  obtain ⟨v, wr, gs⟩ := out
  dsimp only at h2
  split at h2
  · rename_i hc
    rw [forceL_eq, updK_eq] at h2
    refine ⟨_, _, ?_, h2⟩
    unfold astep
    rw [hgu]
    dsimp only
    rw [h1]
    dsimp only [Option.bind_some]
    rw [if_pos hc]
  · cases h2

theorem set_same {α : Type} {l : List α} {i : Nat} {x : α} (h : l[i]? = some x) : l.set i x = l := by
  apply List.ext_getElem?
  intro j
  rw [List.getElem?_set]
  split
  · rename_i e; subst e
    rw [h]
    split
    · rfl
    · rename_i hn
      exact absurd (List.getElem?_eq_some_iff.1 h).1 hn
  · rfl

theorem dstep_some {o : Oper} {ops : Array Oper} {s : St M} {k : St M → Foot → Option R} (h : dstep P Γ ops o s k = some r) : ∃ s' f, astep P Γ ops o s = some (s', f) ∧ k s' f = some r := by
  unfold dstep at h
  split at h
  · rename_i hg
    exact drun_some (.inr trivial) h (by unfold aguard; rw [hg])
  · rename_i j want hg
    split at h
    · rename_i d hd
      split at h
      · rename_i b hb
        have h := br_some h
        have hs := set_same hb
        rw [forceL_eq, hs] at h
        split at h
        · rename_i hw
          exact drun_some (.inr trivial) h (by unfold aguard; rw [hg]; dsimp only; rw [hd]; dsimp only [Option.bind_some]; rw [hb]; dsimp only; rw [hw])
        · rename_i hw
          simp only [Bool.not_eq_true] at hw
          rw [forceL_eq] at h
          refine ⟨_, _, ?_, h⟩
          unfold astep aguard
          rw [hg]; dsimp only; rw [hd]; dsimp only [Option.bind_some]; rw [hb]; dsimp only; rw [hw]
      · rename_i hb
        rw [forceL_eq] at h
        refine ⟨_, _, ?_, h⟩
        unfold astep aguard
        rw [hg]; dsimp only; rw [hd]; dsimp only [Option.bind_some]; rw [hb]
      · cases h
    · cases h

theorem dreg_some {ops : Array Oper} : ∀ {l : List Oper} {s : St M} {acc : List Foot} {k : St M → List Foot → Option R}, dreg P Γ ops l s acc k = some r →
    ∃ s' log, arunD P Γ ops l s = some (s', log) ∧ k s' (acc.reverse ++ log) = some r
  | [], s, acc, k, h => ⟨s, [], rfl, by have h : k s acc.reverse = some r := h; simpa using h⟩
  | o :: l, s, acc, k, h => by
    obtain ⟨s1, f, h1, h2⟩ := dstep_some h
    obtain ⟨s2, log, h3, h4⟩ := dreg_some h2
    exact ⟨s2, f :: log, by simp only [arunD, h1, Option.bind_some, h3, Option.map_some], by simpa using h4⟩

theorem arun_arunD {ops : Array Oper} : ∀ {l : List Oper} {s s' : St M} {log : List Foot}, arunD P Γ ops l s = some (s', log) → arun P Γ ops l s = some s'
  | [], s, s', log, h => by injection h with h; injection h with h1 h2; subst h1; rfl
  | o :: l, s, s', log, h => by
    simp only [arunD] at h
    cases h1 : astep P Γ ops o s with
    | none => rw [h1] at h; cases h
    | some x =>
      rw [h1] at h
      simp only [Option.bind_some] at h
      cases h2 : arunD P Γ ops l x.1 with
      | none => rw [h2] at h; cases h
      | some y =>
        rw [h2] at h
        injection h with h; injection h with h3 h4
        simp only [arun, h1, Option.bind_some]
        exact arun_arunD (log := y.2) (by rw [h2, ← h3])

theorem coN_ok {n : Nat} {ss : List SS} {s : St M} {k : SST ss → M.S → Option R} (h : coN n ss s k = some r) :
    ∃ x, k x s.G = some r ∧ ∀ {a : Act} {w : World}, Rel M N w0 O0 γ0 s a w → Rel M N w0 O0 γ0 (SSJ ss n x s.G) a w := by
  unfold coN at h
  split at h
  · rename_i e; rw [← e]; exact co_ok h
  · cases h

theorem setO_rel {s : St M} {c : Operand} {b : Bool} (h : evalV s.slots c = .d (.bool b)) : ({ s with slots := setO s.slots c b } : St M) = s := by
  unfold setO
  cases c with
  | tmp t =>
    simp only [evalV] at h
    have : s.slots[t]? = some (.d (.bool b)) := by
      rw [List.getD_eq_getElem?_getD] at h
      cases hx : s.slots[t]? with
      | none => rw [hx] at h; cases h
      | some v => rw [hx] at h; exact congrArg some h
    dsimp only
    rw [set_same this]
  | _ => rfl

theorem den_ok (hM : M.Ok) (hΓ : ∀ f sp, Γ f = some sp → Sound P M f sp) (hP : P.follows .mixedOrders = true) {ann : Ann} {n : Nat} : ∀ (c : Code) (i : Nat) (K : AExit → St M → Option R) (s : St M) (a : Act) (w : World),
    den P Γ ann n i c K s = some r → Rel M N w0 O0 γ0 s a w → ∀ Q' : Exit → Act → World → Prop, (∀ e s a w, K e s = some r → Rel M N w0 O0 γ0 s a w → Q' e.real a w) → c.wp P Q' a w
  | .skip, i, K, s, a, w, h, hr, Q', hQ => wp_skip (hQ .normal s a w h hr)
  | .label _, i, K, s, a, w, h, hr, Q', hQ => wp_label (hQ .normal s a w h hr)
  | .exit id, i, K, s, a, w, h, hr, Q', hQ => wp_exit (hQ (.exit id) s a w h hr)
  | .ret, i, K, s, a, w, h, hr, Q', hQ => wp_ret (hQ .ret s a w h hr)
  | .region id ops false, i, K, s, a, w, h, hr, Q', hQ => by
    obtain ⟨s', log, h1, h2⟩ := dreg_some h
    exact region_text hM hΓ (arun_arunD h1) hr fun a w hr' => hQ .normal s' a w h2 hr'
  | .region id ops true, i, K, s, a, w, h, hr, Q', hQ => by
    simp only [den] at h
    split at h
    · rename_i hl
      obtain ⟨s', log, h1, h2⟩ := dreg_some h
      split at h2
      · rename_i hc
        exact region_drawn hM hΓ hP hl h1 (by simpa using hc) hr fun a w hr' => hQ .normal s' a w h2 hr'
      · cases h2
    · cases h
  | .seq x y, i, K, s, a, w, h, hr, Q', hQ => by
    refine wp_seq (den_ok hM hΓ hP x i _ s a w h hr _ fun e s' a' w' he hr' => ?_)
    cases e with
    | normal => exact den_ok hM hΓ hP y _ K s' a' w' he hr' Q' hQ
    | exit id => exact hQ (.exit id) s' a' w' he hr'
    | ret => exact hQ .ret s' a' w' he hr'
  | .cond cc x y, i, K, s, a, w, h, hr, Q', hQ => by
    simp only [den] at h
    have hrx := hr
    obtain ⟨c, hr'⟩ := hr
    have hv := evalV_ok hr'.slots cc
    split at h
    · rename_i b e
      rw [e] at hv
      split at h
      · have h := br_some h
        rw [setK_eq, setO_rel e] at h
        cases b with
        | true => exact wp_cond_true hv.bool (den_ok hM hΓ hP x _ K s a w h hrx Q' hQ)
        | false => exact wp_cond_false hv.bool (den_ok hM hΓ hP y _ K s a w h hrx Q' hQ)
      · rename_i ss _
        unfold jn at h
        have h := br_some h
        rw [setK_eq, setO_rel e] at h
        have hj : ∀ (e : AExit) (s : St M) (a : Act) (w : World), (match e with
            | .normal => coN n ss s fun x G => SSK ss n x G fun s => K .normal s
            | e => K e s) = some r → Rel M N w0 O0 γ0 s a w → Q' e.real a w := by
          intro e s a w hk hr
          cases e with
          | normal =>
            obtain ⟨x, h1, h2⟩ := coN_ok (k := fun x G => SSK ss n x G fun s => K .normal s) hk
            rw [SSK_eq] at h1
            exact hQ .normal _ a w h1 (h2 hr)
          | exit id => exact hQ (.exit id) s a w hk hr
          | ret => exact hQ .ret s a w hk hr
        cases b with
        | true => exact wp_cond_true hv.bool (den_ok hM hΓ hP x _ _ s a w h hrx Q' hj)
        | false => exact wp_cond_false hv.bool (den_ok hM hΓ hP y _ _ s a w h hrx Q' hj)
    · cases h
  | .block id b, i, K, s, a, w, h, hr, Q', hQ => by
    refine wp_block (den_ok hM hΓ hP b i _ s a w h hr _ fun e s' a' w' he hr' => ?_)
    cases e with
    | normal => exact hQ .normal s' a' w' he hr'
    | exit id' =>
      dsimp only at he
      simp only [AExit.real, Exit.inBlock]
      split
      · rename_i hid
        rw [if_pos hid] at he
        exact hQ .normal s' a' w' he hr'
      · rename_i hid
        rw [if_neg hid] at he
        exact hQ (.exit id') s' a' w' he hr'
    | ret => exact hQ .ret s' a' w' he hr'
  | .scope b, i, K, s, a, w, h, hr, Q', hQ => by
    refine wp_scope_straight (den_ok hM hΓ hP b i K s a w h hr _ fun e s' a' w' he hr' => ?_)
    have := hQ e s' a' w' he hr'
    cases e <;> exact this
  | .loop b, i, K, s, a, w, h, hr, Q', hQ => by
    -- one way of going round for both
    have go : ∀ (α : Type) (J : α → St M) (B : (α → Option R) → α → Option R) (a0 : α), loopN B a0 = some r → Rel M N w0 O0 γ0 (J a0) a w →
        (∀ again x a w, B again x = some r → Rel M N w0 O0 γ0 (J x) a w → ∀ Q'' : Exit → Act → World → Prop, (∀ x' a' w', again x' = some r → Rel M N w0 O0 γ0 (J x') a' w' → Q'' .normal a' w') →
          (∀ e a' w', e ≠ AExit.normal → Q' e.real a' w' → Q'' e.real a' w') → b.wp P Q'' a w) → (Code.loop b).wp P Q' a w := by
      intro α J B a0 h0 hr0 hB
      classical
      let p : Act → World → Nat → Prop := fun a w m => ∃ x, fixN B m x = some r ∧ Rel M N w0 O0 γ0 (J x) a w
      let m : Act → World → Nat := fun a w => if h : ∃ n, p a w n then Classical.choose (least (p a w) h) else 0
      have hm : ∀ a w, (∃ n, p a w n) → p a w (m a w) ∧ ∀ q, p a w q → m a w ≤ q := by
        intro a w he
        have hs := Classical.choose_spec (least (p a w) he)
        have hmm : m a w = Classical.choose (least (p a w) he) := dif_pos he
        rw [hmm]
        exact hs
      refine wp_loop (fun a w => ∃ n, p a w n) m ⟨fuel, a0, h0, hr0⟩ fun a w hI => ?_
      obtain ⟨⟨x, hx1, hx2⟩, hmin⟩ := hm a w hI
      cases hn : m a w with
      | zero => rw [hn] at hx1; cases hx1
      | succ q =>
        rw [hn] at hx1
        refine hB (fixN B q) x a w hx1 hx2 _ (fun x' a' w' he hr' => ?_) (fun e a' w' hne he => ?_)
        · refine ⟨⟨q, x', he, hr'⟩, ?_⟩
          have := (hm a' w' ⟨q, x', he, hr'⟩).2 q ⟨x', he, hr'⟩
          omega
        · cases e with
          | normal => exact absurd rfl hne
          | exit id => exact he
          | ret => exact he
    simp only [den] at h
    split at h
    · rename_i ss _
      obtain ⟨x, h1, h2⟩ := coN_ok h
      refine go (SST ss × M.S) (fun a => SSJ ss n a.1 a.2) _ _ h1 (h2 hr) fun again x a w hB hr' Q'' hq1 hq2 => ?_
      rw [SSK_eq] at hB
      refine den_ok hM hΓ hP b _ _ _ a w hB hr' Q'' fun e s' a' w' he hr'' => ?_
      cases e with
      | normal =>
        obtain ⟨x', k1, k2⟩ := coN_ok (k := fun x G => again (x, G)) he
        exact hq1 _ a' w' k1 (k2 hr'')
      | exit id => exact hq2 (.exit id) a' w' (by simp) (hQ (.exit id) s' a' w' he hr'')
      | ret => exact hq2 .ret a' w' (by simp) (hQ .ret s' a' w' he hr'')
    · refine go (St M) id _ _ h hr fun again x a w hB hr' Q'' hq1 hq2 => ?_
      refine den_ok hM hΓ hP b _ _ _ a w hB hr' Q'' fun e s' a' w' he hr'' => ?_
      cases e with
      | normal => exact hq1 _ a' w' he hr''
      | exit id => exact hq2 (.exit id) a' w' (by simp) (hQ (.exit id) s' a' w' he hr'')
      | ret => exact hq2 .ret a' w' (by simp) (hQ .ret s' a' w' he hr'')
  | .rangeFunc _ _ _ _, i, K, s, a, w, h, hr, Q', hQ => by simp [den] at h
  | .goto _, i, K, s, a, w, h, hr, Q', hQ => by simp [den] at h
  | .refuse _, i, K, s, a, w, h, hr, Q', hQ => by simp [den] at h
end
end Wf

/-
  Functions, so that what they answer can be read off.
-/
namespace Wf
open Go Go.RowKit

section
variable {M : GMo} {R : Type}

def aresK1 (P : Program) (s : St M) (x : ResultVar) (k : V → Option R) : Option R := match x with
  | .tmp t => k (s.slots.getD t (.d .undef))
  | .cell a t => loadK P M s.L (some s.G) t (s.slots.getD a (.d .undef)) k
def aresKs (P : Program) (s : St M) : List ResultVar → (List V → Option R) → Option R
  | [], k => k []
  | x :: r, k => aresK1 P s x fun v => aresKs P s r fun vs => k (v :: vs)
def sealK (L : Loc) (sz : Nat) (v : V) (k : Option Nat × D → Option R) : Option R := match v with
  | .d (.sl .full []) => k (none, if 0 < sz then .sl .own [] else .sl .full [])
  | .d x => sif (x.free = true) (k (none, x))
  | .ref g n off len => match off, L.get g n with
    | 0, .arr sz' els true => if sz' = sz then sif (len = els.length) (sif (els.all D.free = true) (k (some g, .sl .own els))) else none
    | _, _ => none
  | _ => none
def sealKs (L : Loc) : List Nat → List V → (List (Option Nat × D) → Option R) → Option R
  | [], [], k => k []
  | sz :: szs, v :: vs, k => sealK L sz v fun x => sealKs L szs vs fun xs => k (x :: xs)
  | _, _, _ => none
def aresK (P : Program) (res : List ResultVar) (szs : List Nat) (s : St M) (k : D → Option R) : Option R :=
  aresKs P s res fun vs => sealKs s.L szs vs fun rs => if distinct (rs.map (·.1)) = true then (match rs with
      | [(_, d)] => k d
      | rs => k (.tup (rs.map (·.2)))) else none

theorem aresK1_some {P : Program} {s : St M} {x : ResultVar} {k : V → Option R} {r : R} (h : aresK1 P s x k = some r) : ∃ v, ares1 P s x = some v ∧ k v = some r := by
  cases x with
  | tmp t => exact ⟨_, rfl, h⟩
  | cell a t => exact loadK_some h
theorem aresKs_some {P : Program} {s : St M} {r : R} : ∀ {l : List ResultVar} {k : List V → Option R}, aresKs P s l k = some r → ∃ vs, l.mapM (ares1 P s) = some vs ∧ k vs = some r
  | [], k, h => ⟨[], rfl, h⟩
  | x :: l, k, h => by
    obtain ⟨v, h1, h2⟩ := aresK1_some h
    obtain ⟨vs, h3, h4⟩ := aresKs_some (k := fun vs => k (v :: vs)) h2
    exact ⟨v :: vs, by simp [List.mapM_cons, h1, h3], h4⟩
theorem sealK_some {L : Loc} {sz : Nat} {v : V} {k : Option Nat × D → Option R} {r : R} (h : sealK L sz v k = some r) : ∃ x, sealV L sz v = some x ∧ k x = some r := by
  unfold sealK at h
  unfold sealV
  split at h
  · exact ⟨_, rfl, h⟩
  · rename_i x hx
    obtain ⟨h1, h2⟩ := sif_some h
    refine ⟨_, ?_, h2⟩
    have : (if x.free = true then some ((none : Option Nat), x) else none) = some (none, x) := if_pos h1
    cases x with
    | sl t l => cases t <;> first | exact this | (cases l <;> first | exact this | exact (hx rfl).elim)
    | _ => exact this
  · rename_i g n off len
    split at h
    · rename_i sz' els e
      split at h
      · rename_i hsz
        obtain ⟨h1, h2⟩ := sif2_some h
        refine ⟨_, ?_, h2⟩
        dsimp only
        rw [e]
        exact if_pos ⟨h1.1, hsz, h1.2⟩
      · cases h
    · cases h
  · cases h
theorem sealKs_some {L : Loc} {r : R} : ∀ {szs : List Nat} {vs : List V} {k : List (Option Nat × D) → Option R}, sealKs L szs vs k = some r → ∃ rs, sealL L szs vs = some rs ∧ k rs = some r
  | [], [], k, h => ⟨[], rfl, h⟩
  | [], _ :: _, k, h => by cases h
  | _ :: _, [], k, h => by cases h
  | sz :: szs, v :: vs, k, h => by
    obtain ⟨x, h1, h2⟩ := sealK_some h
    obtain ⟨xs, h3, h4⟩ := sealKs_some (k := fun xs => k (x :: xs)) h2
    exact ⟨x :: xs, by simp [sealL, h1, h3], h4⟩
theorem aresK_some {P : Program} {res : List ResultVar} {szs : List Nat} {s : St M} {k : D → Option R} {r : R} (h : aresK P res szs s k = some r) : ∃ d, ares P res szs s = some d ∧ k d = some r := by
  obtain ⟨vs, h1, h2⟩ := aresKs_some h
  obtain ⟨rs, h3, h4⟩ := sealKs_some h2
  split at h4
  · rename_i hd
    unfold ares
    rw [h1]
    dsimp only [Option.bind_some]
    rw [h3]
    dsimp only [Option.bind_some]
    rw [if_pos hd]
    split at h4
    · exact ⟨_, rfl, h4⟩
    · rename_i hno
      refine ⟨_, ?_, h4⟩
      split
      · exact (hno _ _ rfl).elim
      · rfl
  · cases h4

/-- What a function's body answers. -/
noncomputable def denB (P : Program) (Γ : Env M) (ann : Ann) (szs : List Nat) (fn : Func) (code : Code) (ds : List D) (G : M.S) (fin : D → M.S → Option R) : Option R :=
  decPs P fn.params.toList ds fun ds => forceL (ds.map .d ++ List.replicate (fn.ntmps - ds.length) (.d .undef)) fun slots => den P Γ ann slots.length 0 code (fun e s => match e with
    | .normal => aresK P fn.results.toList szs s fun d => fin d s.G
    | .ret => aresK P fn.results.toList szs s fun d => fin d s.G
    | .exit _ => none) { slots, L := fun _ => (0, .dead), G }
noncomputable def denF (P : Program) (Γ : Env M) (ann : Ann) (szs : List Nat) (f : FuncId) (ds : List D) (G : M.S) (fin : D → M.S → Option R) : Option R :=
  match P.funcs[f]? with
  | some fn => match fn.body with
    | some code => denB P Γ ann szs fn code ds G fin
    | none => none
  | none => none
end

section
variable {M : GM} {P : Program} {Γ : Env M}

theorem denB_ok (hM : M.Ok) (hΓ : ∀ f sp, Γ f = some sp → Sound P M f sp) (hP : P.follows .mixedOrders = true) {ann : Ann} {szs : List Nat} {f : FuncId} {fn : Func} {code : Code} (hf : P.funcs[f]? = some fn) (hb : fn.body = some code)
    {ds : List D} {us : List Value} {G : M.S} {γ : Nat → Option Addr} {O : Nat → Prop} {w : World} (hglob : M.rel G γ O w) (hO : ∀ b, O b → b < w.heap.size) (hreps : Reps w O 0 γ ds us) {R : Type} {fin : D → M.S → Option R} {x : R}
    (h : denB P Γ ann szs fn code (D.lentL ds) G fin = some x) : 
    Calls P f us.toArray w fun e w' => ∃ r G' v γ' O', fin r G' = some x ∧ e = .returned v ∧ (∀ n a, γ n = some a → γ' n = some a) ∧ M.rel G' γ' O' w' ∧ (∀ b, O' b → b < w'.heap.size ∧ (O b ∨ w.heap.size ≤ b)) ∧
      Kept w O w' ∧ ResOk w' (fun b => b < w.heap.size ∨ O' b) w.heap.size γ' szs r v := by
  refine calls_of_wp hf hb ?_
  unfold denB at h
  have h := decPs_some h
  rw [forceL_eq] at h
  let c0 : Ctx := { ι := fun _ => none, γ, O }
  have hown : ∀ b, own c0 (fun _ => (0, .dead)) b → O b := by
    rintro b (h | ⟨g, h, _⟩)
    · exact h
    · cases h
  have hlen : (D.lentL ds).length = ds.length := by rw [lentL_map]; simp
  rw [hlen] at h
  have hrel : Rel M w.heap.size w O γ (St.init G fn.ntmps ds) { tmps := us.toArray ++ Array.replicate (fn.ntmps - us.toArray.size) undef, defers := [] } w := by
    refine ⟨c0, ⟨fun g => trivial, fun g g' b h => (by cases h), fun g b h => (by cases h), hglob, Nat.le_refl _, rfl, rfl, rfl, rfl, fun _ _ _ => rfl, fun b hb => ⟨hO b hb, .inl hb⟩⟩, ⟨?_, fun i v u hv hu => ?_⟩, rfl, fun _ _ h => h,
      fun b x T fz hb => ⟨x, fz, hb, rfl⟩⟩
    · simp [St.init, lentL_map, hreps.1]
    · simp only [St.init, Array.toList_append, Array.toList_replicate, List.size_toArray] at hv hu
      by_cases hi : i < us.length
      · rw [List.getElem?_append_left (by simpa using hi)] at hu
        rw [List.getElem?_append_left (by rw [lentL_map]; simpa [← hreps.1] using hi), lentL_map, List.getElem?_map, List.getElem?_map] at hv
        cases hd : ds[i]? with
        | none => rw [hd] at hv; cases hv
        | some d =>
          rw [hd] at hv
          injection hv with hv; subst hv
          exact .d _ _ (((hreps.2 i d u hd (by simpa using hu)).out hown (Nat.le_refl _)).lent _)
      · rw [List.getElem?_append_right (by rw [lentL_map]; simp [← hreps.1]; omega)] at hv
        have := List.mem_of_getElem? hv
        rw [List.mem_replicate] at this
        rw [this.2]
        exact .d _ _ (.undef _)
  refine den_ok hM hΓ hP code 0 _ _ _ w h hrel _ fun e s a w' he hr => ?_
  obtain ⟨hen, hk⟩ : (e = .normal ∨ e = .ret) ∧ aresK P fn.results.toList szs s (fun d => fin d s.G) = some x := by
    cases e with
    | normal => exact ⟨.inl rfl, he⟩
    | ret => exact ⟨.inr rfl, he⟩
    | exit id => cases he
  obtain ⟨d, ha, hd⟩ := aresK_some hk
  obtain ⟨c, hc⟩ := hr
  obtain ⟨v, k1, k2⟩ := ares_ok hM hc ha
  have hfin : a.defers = [] ∧ ∃ v, (results fn a.tmps).run P w' = .ok v w' ∧ (∃ r G' v' γ' O', fin r G' = some x ∧ Ending.returned v = .returned v' ∧ (∀ n a, γ n = some a → γ' n = some a) ∧ M.rel G' γ' O' w' ∧
      (∀ b, O' b → b < w'.heap.size ∧ (O b ∨ w.heap.size ≤ b)) ∧ Kept w O w' ∧ ResOk w' (fun b => b < w.heap.size ∨ O' b) w.heap.size γ' szs r v') := by
    refine ⟨hc.defers, v, k1, d, s.G, v, c.γ, c.O, hd, rfl, hc.hγ, hc.mem.glob, hc.mem.osub, ⟨hc.mem.os, hc.mem.tape, hc.mem.output, hc.mem.size, hc.mem.keep, hc.cells⟩, k2⟩
  rcases hen with rfl | rfl
  · exact hfin
  · exact hfin

/-- The machine without memory of others. -/
def M0 : GMo := { S := Unit, load := fun _ _ _ _ => none, store := fun _ _ _ _ => none }
abbrev Env0 := Env M0

/-- Functions known to answer by a plain function. -/
def PEnv.e0 (Γ : PEnv) : Env M0 := fun f => (Γ f).map fun p => .pure p.1 p.2
noncomputable def denP (P : Program) (Γ : PEnv) (ann : Ann) (szs : List Nat) (f : FuncId) (ds : List D) : Option D := denF (M := M0) P Γ.e0 ann szs f (D.lentL ds) () fun d _ => some d

theorem denP_sound {Γ : PEnv} (hΓ : Γ.Ok P) (hP : P.follows .mixedOrders = true) {ann : Ann} {szs : List Nat} {f : FuncId} (hf : ∃ fn, P.funcs[f]? = some fn ∧ (fn.name == "runtime.NumGoroutine") = false ∧ fn.body.isNone = false) :
    SoundP P f szs (denP P Γ ann szs f) := by
  refine ⟨hf, fun ds r hF w γ us hus => ?_⟩
  obtain ⟨fn, hf, _, hbn⟩ := hf
  unfold denP denF at hF
  rw [hf] at hF
  dsimp only at hF
  cases hb : fn.body with
  | none => rw [hb] at hbn; cases hbn
  | some code =>
  rw [hb] at hF
  dsimp only at hF
  have := denB_ok (M := M1 γ) (Γ := Γ.env (M1 γ)) (O := fun _ => False) (γ := γ) (M1_ok γ) (hΓ.env _) hP hf hb (szs := szs) (ann := ann) (w := w) (G := ()) ⟨rfl, fun _ h => h⟩ (fun _ h => h.elim) hus hF
  refine this.mono fun e w' ⟨d, G', v, γ', O', hd, he, hγ, hrel, hO, hk, hr⟩ => ⟨v, he, hk, ?_⟩
  injection hd with hd; subst hd
  obtain ⟨e1, e2⟩ := hrel
  subst e1
  have : (fun b => b < w.heap.size ∨ O' b) = fun b => b < w.heap.size := by
    funext b; apply propext
    exact ⟨fun h => h.elim id fun h => (e2 b h).elim, .inl⟩
  rw [this] at hr
  exact hr
end
end Wf

/-
  Functions laid one upon the other; words to reason by.
-/
namespace Wf
open Go Go.RowKit

/-- A function, and what it answers. -/
structure Fact (P : Program) where
  f : FuncId
  szs : List Nat
  F : List D → Option D
  ok : SoundP P f szs F
def penv' : List (FuncId × List Nat × (List D → Option D)) → PEnv
  | [] => fun _ => none
  | x :: r => fun f => if f = x.1 then some x.2 else penv' r f
def penv {P : Program} (l : List (Fact P)) : PEnv := penv' (l.map fun x => (x.f, x.szs, x.F))
theorem penv_ok {P : Program} (l : List (Fact P)) : (penv l).Ok P := by
  induction l with
  | nil => intro f szs F h; cases h
  | cons x r ih =>
    intro f szs F h
    unfold penv at h ih
    simp only [List.map_cons, penv'] at h
    split at h
    · rename_i e
      injection h with h; injection h with h1 h2; subst h1; subst h2; subst e
      exact x.ok
    · exact ih f szs F h
end Wf

