/-
  The numbers of a row, and the road back.
-/
import Derived.Test.YtpdhbdacbiamdaaY4
set_option linter.unusedVariables false
set_option linter.unusedSimpArgs false
set_option linter.unnecessarySimpa false
namespace Wf
open Go Go.RowKit Go.Proofs
set_option linter.unusedSimpArgs false
set_option linter.unusedVariables false

/-- The first `n` numbers of row `row`. -/
def numD (g : Geo) (row : Int) (n : Nat) : List D := (List.range n).map fun (j : Nat) => iD (numP g row (j : Int))
def numsD (g : Geo) (row : Int) : List D := if fineP g row then numD g row g.width.toNat else []
/-- Which of a row's disks holds what. -/
def colBack (g : Geo) (disk row : Int) : Int := (disk - parA g row - (g.l - 4) + 2 * g.d) % g.d
def backP (g : Geo) (disk row : Int) : Int × Int × Bool :=
  if fineP g row ∧ 0 ≤ disk ∧ disk < g.d then
    (if disk = (parP g row).1 then (1, 0, true) else if disk = (parP g row).2 then (2, 0, true)
      else (0, numP g row (colBack g disk row), true))
  else (0, 0, false)

theorem numD_zero (g : Geo) (row : Int) : numD g row 0 = [] := rfl
theorem numD_succ (g : Geo) (row : Int) (n : Nat) : numD g row (n + 1) = numD g row n ++ [iD (numP g row (n : Int))] := by
  unfold numD; rw [List.range_succ, List.map_append]; rfl
theorem numD_len (g : Geo) (row : Int) (n : Nat) : (numD g row n).length = n := by unfold numD; simp
theorem numD_free (g : Geo) (row : Int) (n : Nat) : (numD g row n).all D.free = true := by
  unfold numD; rw [List.all_eq_true]; intro x hx; obtain ⟨j, _, rfl⟩ := List.mem_map.1 hx; rfl
theorem numD_get (g : Geo) (row : Int) (n : Nat) {i : Nat} (h : i < n) : (numD g row n)[i]? = some (iD (numP g row (i : Int))) := by
  unfold numD; simp [h]
theorem num_fit {g : Geo} {row k : Int} (hk : g.ok = true) (h0 : 0 ≤ row) (h1 : row < 16) (k0 : 0 ≤ k) (k1 : k ≤ 8) :
    IntKind.i64.wrap (row.tdiv g.c) = row / g.c ∧ IntKind.i64.wrap (row / g.c * g.width) = row / g.c * g.width ∧ IntKind.i64.wrap (row / g.c * g.width + k) = row / g.c * g.width + k ∧
    IntKind.i64.wrap ((row / g.c * g.width + k) * g.c) = (row / g.c * g.width + k) * g.c ∧ IntKind.i64.wrap ((row / g.c * g.width + k) * g.c + row.tmod g.c) = numP g row k := by
  have hw := width_ok hk
  have hc := (ok_iff.1 hk).2.2
  rw [tdiv_c hk h0, tmod_n h0]
  unfold numP
  generalize g.c = c at *
  generalize g.width = w at *
  have hw : w = 2 ∨ w = 3 ∨ w = 4 ∨ w = 5 ∨ w = 6 ∨ w = 7 := by omega
  rcases hc with rfl | rfl | rfl <;> rcases hw with rfl | rfl | rfl | rfl | rfl | rfl <;>
    exact ⟨wrap_fit (by omega) (by omega), wrap_fit (by omega) (by omega), wrap_fit (by omega) (by omega), wrap_fit (by omega) (by omega), wrap_fit (by omega) (by omega)⟩
theorem num_in {g : Geo} {row k : Int} (hk : g.ok = true) (h0 : 0 ≤ row) (h1 : row < 16) (k0 : 0 ≤ k) (k1 : k < g.width) : 0 ≤ numP g row k ∧ numP g row k < g.cap := by
  have hw := width_ok hk
  have hc := (ok_iff.1 hk).2.2
  rw [cap_of]
  unfold numP
  generalize g.c = c at *
  generalize g.width = w at *
  have hw : w = 2 ∨ w = 3 ∨ w = 4 ∨ w = 5 ∨ w = 6 ∨ w = 7 := by omega
  rcases hc with rfl | rfl | rfl <;> rcases hw with rfl | rfl | rfl | rfl | rfl | rfl <;> omega

section
variable (g : Geo) (row k : Int)
theorem number_place (h : fineP g row = true) (k0 : 0 ≤ k) (k1 : k ≤ 8) : F_place_number [gD g.l g.d g.c, .int .i64 row, .int .i64 k] = some (iD (numP g row k)) := by
  obtain ⟨hk, h0, h1⟩ := fine_iff.1 h
  obtain ⟨w1, w2, w3, w4, w5⟩ := num_fit hk h0 h1 k0 k1
  have hd := ok_d hk
  rw [F_place_number_eq]
  unfold g_place_number
  rw [width_geo]
  simp [show g.c ≠ 0 by omega, w1, w2, w3, w4, w5]
theorem nums_place : F_place_Numbers [g.D, .int .i64 row] = some (.sl .own (numsD g row)) := by
  have hi := in_place g row
  unfold Geo.D at *
  rw [F_place_Numbers_eq]
  unfold g_place_Numbers
  rw [hi, width_geo]
  unfold numsD
  cases h : fineP g row
  · simp [brK_eq]
  · obtain ⟨hk, h0, h1⟩ := fine_iff.1 h
    have hw := width_ok hk
    simp only [bindK_some_eq, asB_bool, brK_eq, iD, asI_int, Bool.not_true, Bool.false_eq_true, if_false, if_true]
    refine loopN_spec (fun a => (g.width - a.1.2.2.2.2.1).toNat) (fun _ => some (D.sl Tag.own (numD g row g.width.toNat))) (fun a => ∃ n : Nat, n ≤ g.width ∧
      a = ((row, (g.l, g.d, g.c, PUnit.unit), numD g row n, g.width, (n : Int), PUnit.unit), PUnit.unit)) ?_ ⟨0, by omega, rfl⟩ ?_
    rotate_left
    · simp; omega
    rintro again _ ⟨n, hn, rfl⟩ ih
    dsimp only
    by_cases hl : (n : Int) < g.width
    · have := ih _ ⟨n + 1, by omega, rfl⟩ (by dsimp only; omega)
      have wn : IntKind.i64.wrap ((n : Int) + 1) = (n : Int) + 1 := wrap_fit (by omega) (by omega)
      rw [numD_succ] at this
      simp [hl, number_place g row n h (by omega) (by omega), numD_len, wn, show n + 1 ≤ 4294967296 by omega]
      simpa using this
    · have hnw : g.width.toNat = n := by omega
      simp only [hl, decide_false, hnw, Bool.false_eq_true, if_false]
      simp [numD_len, numD_free]
theorem nums_ref : F_wattleref01_Numbers [g.D, .int .i64 row] = some (.sl .own (numsD g row)) := by
  have hi := fine_ref g row
  unfold Geo.D at *
  rw [F_wattleref01_Numbers_eq]
  unfold g_wattleref01_Numbers
  rw [hi]
  unfold numsD
  cases h : fineP g row
  · simp [brK_eq]
  · obtain ⟨hk, h0, h1⟩ := fine_iff.1 h
    have hw := width_ok hk
    have hd := ok_d hk
    simp only [bindK_some_eq, asB_bool, brK_eq, iD, asI_int, Bool.not_true, Bool.false_eq_true, if_false, if_true]
    refine loopN_spec (fun a => (g.width - a.1.2.2.2.1).toNat) (fun _ => some (D.sl Tag.own (numD g row g.width.toNat))) (fun a => ∃ n : Nat, n ≤ g.width ∧
      a = ((row, (g.l, g.d, g.c, PUnit.unit), numD g row n, (n : Int), PUnit.unit), PUnit.unit)) ?_ ⟨0, by omega, rfl⟩ ?_
    rotate_left
    · simp; omega
    rintro again _ ⟨n, hn, rfl⟩ ih
    dsimp only
    rw [width_geoR]
    by_cases hl : (n : Int) < g.width
    · have := ih _ ⟨n + 1, by omega, rfl⟩ (by dsimp only; omega)
      have wn : IntKind.i64.wrap ((n : Int) + 1) = (n : Int) + 1 := wrap_fit (by omega) (by omega)
      obtain ⟨w1, w2, w3, w4, w5⟩ := num_fit hk h0 h1 (show 0 ≤ (n : Int) by omega) (by omega)
      rw [numD_succ] at this
      simp [hl, w1, w2, w3, w4, w5, numD_len, wn, show n + 1 ≤ 4294967296 by omega, show g.c ≠ 0 by omega]
      simpa using this
    · have hnw : g.width.toNat = n := by omega
      simp only [hl, decide_false, hnw, Bool.false_eq_true, if_false, bindK_some_eq, iD, asI_int]
      simp [numD_len, numD_free]
end
section
variable (l d c row k : Int)
theorem nums_place' : F_place_Numbers [gD l d c, .int .i64 row] = some (.sl .own (numsD ⟨l, d, c⟩ row)) := nums_place ⟨l, d, c⟩ row
theorem nums_ref' : F_wattleref01_Numbers [gD l d c, .int .i64 row] = some (.sl .own (numsD ⟨l, d, c⟩ row)) := nums_ref ⟨l, d, c⟩ row
end
end Wf

