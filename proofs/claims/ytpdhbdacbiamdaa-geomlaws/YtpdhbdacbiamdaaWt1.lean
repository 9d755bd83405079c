/-
  Types and geometry: what the functions answer.
-/
import Derived.Test.YtpdhbdacbiamdaaWg4
import Derived.Test.YtpdhbdacbiamdaaProg
import Derived.ProofKit
set_option linter.unusedVariables false
set_option linter.unusedSimpArgs false
set_option linter.unnecessarySimpa false
namespace Wf
open Go Go.RowKit Go.Proofs

@[simp] theorem tA3 : tyAgg Try.prog 3 = some false := by kernel_rfl
@[simp] theorem tB3 : tyBool Try.prog 3 = false := by kernel_rfl
@[simp] theorem tStr3 : tyStr Try.prog 3 = false := by kernel_rfl
@[simp] theorem tS3 : tySize Try.prog 3 = some 1 := by kernel_rfl
@[simp] theorem tZ3 : tyZero Try.prog 3 = some (.int .i64 0) := by kernel_rfl
@[simp] theorem tI3 : tyInt Try.prog 3 = some .i64 := by kernel_rfl
@[simp] theorem tE3 : tyElem Try.prog 3 = none := by kernel_rfl
@[simp] theorem tA26 : tyAgg Try.prog 26 = some false := by kernel_rfl
@[simp] theorem tB26 : tyBool Try.prog 26 = false := by kernel_rfl
@[simp] theorem tStr26 : tyStr Try.prog 26 = false := by kernel_rfl
@[simp] theorem tS26 : tySize Try.prog 26 = some 1 := by kernel_rfl
@[simp] theorem tZ26 : tyZero Try.prog 26 = some (.int .i64 0) := by kernel_rfl
@[simp] theorem tI26 : tyInt Try.prog 26 = some .i64 := by kernel_rfl
@[simp] theorem tE26 : tyElem Try.prog 26 = none := by kernel_rfl
@[simp] theorem tA4 : tyAgg Try.prog 4 = some false := by kernel_rfl
@[simp] theorem tB4 : tyBool Try.prog 4 = true := by kernel_rfl
@[simp] theorem tStr4 : tyStr Try.prog 4 = false := by kernel_rfl
@[simp] theorem tS4 : tySize Try.prog 4 = some 1 := by kernel_rfl
@[simp] theorem tZ4 : tyZero Try.prog 4 = some (.bool false) := by kernel_rfl
@[simp] theorem tE4 : tyElem Try.prog 4 = none := by kernel_rfl
@[simp] theorem tA25 : tyAgg Try.prog 25 = some true := by kernel_rfl
@[simp] theorem tB25 : tyBool Try.prog 25 = false := by kernel_rfl
@[simp] theorem tStr25 : tyStr Try.prog 25 = false := by kernel_rfl
@[simp] theorem tS25 : tySize Try.prog 25 = some 3 := by kernel_rfl
@[simp] theorem tF25_0 : tyFld Try.prog 25 0 = some (0, 1) := by kernel_rfl
@[simp] theorem tG25_0 : tyFldAgg Try.prog 25 0 = some false := by kernel_rfl
@[simp] theorem tF25_1 : tyFld Try.prog 25 1 = some (1, 1) := by kernel_rfl
@[simp] theorem tG25_1 : tyFldAgg Try.prog 25 1 = some false := by kernel_rfl
@[simp] theorem tF25_2 : tyFld Try.prog 25 2 = some (2, 1) := by kernel_rfl
@[simp] theorem tG25_2 : tyFldAgg Try.prog 25 2 = some false := by kernel_rfl
@[simp] theorem tP25 : placesOf Try.prog 25 = some fun i => tyFld Try.prog 25 i := by kernel_rfl
@[simp] theorem tZ25 : tyZero Try.prog 25 = some (.agg [.int .i64 0, .int .i64 0, .int .i64 0]) := by kernel_rfl
@[simp] theorem tE25 : tyElem Try.prog 25 = none := by kernel_rfl
@[simp] theorem tA52 : tyAgg Try.prog 52 = some false := by kernel_rfl
@[simp] theorem tB52 : tyBool Try.prog 52 = false := by kernel_rfl
@[simp] theorem tStr52 : tyStr Try.prog 52 = false := by kernel_rfl
@[simp] theorem tS52 : tySize Try.prog 52 = some 1 := by kernel_rfl
@[simp] theorem tE52 : tyElem Try.prog 52 = some 1 := by kernel_rfl
theorem tAp52_0 : appendTy Try.prog 52 0 = some 1 := by kernel_rfl
@[simp] theorem tAp52 (n : Nat) (h : n ≤ 4294967296) : appendTy Try.prog 52 n = some 1 := appendTy_le tAp52_0 h
@[simp] theorem tA45 : tyAgg Try.prog 45 = some false := by kernel_rfl
@[simp] theorem tB45 : tyBool Try.prog 45 = false := by kernel_rfl
@[simp] theorem tStr45 : tyStr Try.prog 45 = false := by kernel_rfl
@[simp] theorem tS45 : tySize Try.prog 45 = some 1 := by kernel_rfl
@[simp] theorem tE45 : tyElem Try.prog 45 = none := by kernel_rfl
@[simp] theorem tM45 : tyMap Try.prog 45 = some (.i64, 3) := by kernel_rfl

theorem mixed : Try.prog.follows .mixedOrders = true := by kernel_rfl
@[simp] theorem tQ25 : Try.prog.eqGuardType Try.prog.depth 25 = false := by kernel_rfl
@[simp] theorem tEq25 (a b c x y z : Int) : aeq Try.prog 5 25 (.agg [.int .i64 a, .int .i64 b, .int .i64 c]) (.agg [.int .i64 x, .int .i64 y, .int .i64 z]) = some (a == x && (b == y && (c == z && true))) := by
  rfl

def validG (l d c : Int) : Bool := (l == 5 || l == 6) && decide ((if l = 6 then 4 else 3) ≤ d) && decide (d ≤ 8) && (c == 1 || c == 2 || c == 4)
def budgetG (l d c : Int) : Int := if validG l d c then l - 4 else 0
def widthG (l d c : Int) : Int := if validG l d c then d - (l - 4) else 0
def capG (l d c : Int) : Int := widthG l d c * 16
def canG (l d c x y z : Int) : Bool := validG l d c && validG x y z && !(l == x && (d == y && c == z)) && decide (d ≤ y) && decide (l ≤ x) && decide (widthG l d c ≤ widthG x y z)

theorem valid_iff {l d c : Int} : validG l d c = true ↔ ((l = 5 ∧ 3 ≤ d) ∨ (l = 6 ∧ 4 ≤ d)) ∧ d ≤ 8 ∧ (c = 1 ∨ c = 2 ∨ c = 4) := by
  unfold validG
  simp only [Bool.and_eq_true, Bool.or_eq_true, beq_iff_eq, decide_eq_true_eq]
  constructor
  · rintro ⟨⟨⟨h1, h2⟩, h3⟩, h4⟩
    refine ⟨?_, h3, by omega⟩
    split at h2 <;> omega
  · rintro ⟨h1, h3, h4⟩
    refine ⟨⟨⟨by omega, ?_⟩, h3⟩, by omega⟩
    split <;> omega
theorem invalid_iff {l d c : Int} : validG l d c = false ↔ ¬ (((l = 5 ∧ 3 ≤ d) ∨ (l = 6 ∧ 4 ≤ d)) ∧ d ≤ 8 ∧ (c = 1 ∨ c = 2 ∨ c = 4)) := by
  rw [← valid_iff]; simp

def G1 (f : Int → Int → Int → D) : List D → Option D
  | [.agg [.int .i64 l, .int .i64 d, .int .i64 c]] => some (f l d c)
  | _ => none
def G2 (f : Int → Int → Int → Int → Int → Int → D) : List D → Option D
  | [.agg [.int .i64 l, .int .i64 d, .int .i64 c], .agg [.int .i64 x, .int .i64 y, .int .i64 z]] => some (f l d c x y z)
  | _ => none
def F16 : List D → Option D := G1 fun l d c => iD (if validG l d c then 0 else 1)
def F17 : List D → Option D := G1 fun l d c => iD (budgetG l d c)
def F18 : List D → Option D := G1 fun l d c => iD (widthG l d c)
def F19 : List D → Option D := G1 fun l d c => iD (capG l d c)
def F20 : List D → Option D := G2 fun l d c x y z => .bool (canG l d c x y z)
def F23 : List D → Option D := G1 fun l d c => .bool (validG l d c)
def F57 : List D → Option D
  | [.sl _ l, .int .i64 v] => (ints l).bind fun xs => if xs.length ≤ 2 ^ 32 then some (iD (idx v xs)) else none
  | _ => none
def F52 : List D → Option D
  | [.sl _ l, .int .i64 v] => (ints l).bind fun xs => if xs.length ≤ 2 ^ 32 then some (.bool (decide (0 ≤ idx v xs))) else none
  | _ => none
def F36 : List D → Option D
  | [.int .i64 a, .int .i64 n] => if 1 ≤ n ∧ n < 1000000000 then some (iD (a % n)) else none
  | _ => none
end Wf
