/-
  Places, plainly.
-/
import Derived.Test.YtpdhbdacbiamdaaY3
set_option linter.unusedVariables false
set_option linter.unusedSimpArgs false
set_option linter.unnecessarySimpa false
namespace Wf
open Go Go.RowKit Go.Proofs
set_option linter.unusedSimpArgs false
set_option linter.unusedVariables false

def fineP (g : Geo) (row : Int) : Bool := g.ok && decide (0 ≤ row) && decide (row < 16)
/-- Where row `row` keeps its first parity. -/
def parA (g : Geo) (row : Int) : Int := g.d - 1 - (row / g.c) % g.d
def parP (g : Geo) (row : Int) : Int × Int := if fineP g row then (parA g row, if g.l = 5 then -1 else (parA g row + 1) % g.d) else (-1, -1)
def diskP (g : Geo) (row k : Int) : Int := if fineP g row ∧ 0 ≤ k ∧ k < g.width then (parA g row + (g.l - 4) + k) % g.d else -1
def rowOf (g : Geo) (a : Int) : Int := a / g.c / g.width * g.c + a % g.c
def colOf (g : Geo) (a : Int) : Int := a / g.c % g.width
def ofP (g : Geo) (a : Int) : Int × Int × Bool := if 0 ≤ a ∧ a < g.cap then (diskP g (rowOf g a) (colOf g a), rowOf g a, true) else (0, 0, false)
def numP (g : Geo) (row k : Int) : Int := (row / g.c * g.width + k) * g.c + row % g.c
def ofD (t : Int × Int × Bool) : D := .tup [iD t.1, iD t.2.1, .bool t.2.2]

theorem fine_iff {g : Geo} {row : Int} : fineP g row = true ↔ g.ok = true ∧ 0 ≤ row ∧ row < 16 := by
  unfold fineP; simp [and_assoc]
theorem ok_d {g : Geo} (h : g.ok = true) : 3 ≤ g.d ∧ g.d ≤ 8 ∧ 1 ≤ g.c ∧ g.c ≤ 4 := by have := ok_iff.1 h; omega
theorem cap_ok {g : Geo} {a : Int} (h0 : 0 ≤ a) (h1 : a < g.cap) : g.ok = true := by
  cases h : g.ok
  · have : g.cap = 0 := by unfold Geo.cap capG widthG; unfold Geo.ok at h; simp [h]
    omega
  · rfl
theorem budget_of {g : Geo} (h : g.ok = true) : budgetG g.l g.d g.c = g.l - 4 := if_pos h
theorem div_c {g : Geo} {a : Int} (h : g.ok = true) (h0 : 0 ≤ a) : 0 ≤ a / g.c ∧ a / g.c ≤ a ∧ 0 ≤ a % g.c ∧ a % g.c < 4 ∧ a % g.c < g.c ∧ a / g.c * g.c + a % g.c = a := by
  obtain ⟨_, _, hc⟩ := ok_iff.1 h
  generalize g.c = c at hc
  rcases hc with rfl | rfl | rfl <;> omega
theorem tdiv_c {g : Geo} {a : Int} (h : g.ok = true) (h0 : 0 ≤ a) : a.tdiv g.c = a / g.c := Int.tdiv_eq_ediv_of_nonneg h0
theorem tmod_n {a n : Int} (h0 : 0 ≤ a) : a.tmod n = a % n := Int.tmod_eq_emod_of_nonneg h0
theorem mod_d {g : Geo} (h : g.ok = true) (n : Int) : 0 ≤ n % g.d ∧ n % g.d < g.d := ⟨Int.emod_nonneg _ (by have := ok_d h; omega), Int.emod_lt_of_pos _ (by have := ok_d h; omega)⟩
theorem par_in {g : Geo} (h : g.ok = true) (row : Int) : 0 ≤ parA g row ∧ parA g row < g.d := by
  have := mod_d h (row / g.c)
  unfold parA; omega
theorem mod_w {g : Geo} (h : g.ok = true) (n : Int) : 0 ≤ n % g.width ∧ n % g.width < g.width := ⟨Int.emod_nonneg _ (by have := width_ok h; omega), Int.emod_lt_of_pos _ (by have := width_ok h; omega)⟩
theorem row_fine {g : Geo} {a : Int} (h0 : 0 ≤ a) (h1 : a < g.cap) : 0 ≤ rowOf g a ∧ rowOf g a < 16 ∧ 0 ≤ a / g.c / g.width ∧ a / g.c / g.width * g.c < 16 := by
  have hk := cap_ok h0 h1
  have hw := width_ok hk
  have hc := (ok_iff.1 hk).2.2
  rw [cap_of] at h1
  unfold rowOf
  generalize g.c = c at *
  generalize g.width = w at *
  have hw : w = 2 ∨ w = 3 ∨ w = 4 ∨ w = 5 ∨ w = 6 ∨ w = 7 := by omega
  rcases hc with rfl | rfl | rfl <;> rcases hw with rfl | rfl | rfl | rfl | rfl | rfl <;> omega

section
variable (g : Geo) (a row k : Int)
theorem in_place : F_place_in [g.D, .int .i64 row] = some (.bool (fineP g row)) := by
  unfold Geo.D
  rw [F_place_in_eq]
  unfold g_place_in
  rw [check_geom]
  unfold fineP Geo.ok
  cases validG g.l g.d g.c <;> simp [brK_eq] <;> (by_cases h : 0 ≤ row <;> simp [h])
theorem fine_ref : F_wattleref01_fine [g.D, .int .i64 row] = some (.bool (fineP g row)) := by
  unfold Geo.D
  rw [F_wattleref01_fine_eq]
  unfold g_wattleref01_fine
  rw [check_ref]
  unfold fineP Geo.ok
  cases validG g.l g.d g.c <;> simp [brK_eq] <;> (by_cases h : 0 ≤ row <;> simp [h])
theorem par_place : F_place_Parity [g.D, .int .i64 row] = some (.tup [iD (parP g row).1, iD (parP g row).2]) := by
  have hi := in_place g row
  unfold Geo.D at *
  rw [F_place_Parity_eq]
  unfold g_place_Parity
  rw [hi]
  unfold parP
  cases h : fineP g row
  · simp [brK_eq]
  · obtain ⟨hk, h0, h1⟩ := fine_iff.1 h
    have hd := ok_d hk
    have hv := div_c hk h0
    have hp := par_in hk row
    have w1 : IntKind.i64.wrap (g.d - 1) = g.d - 1 := wrap_fit (by omega) (by omega)
    have w2 : IntKind.i64.wrap (row.tdiv g.c) = row / g.c := by rw [tdiv_c hk h0]; exact wrap_fit (by omega) (by omega)
    have w3 : IntKind.i64.wrap (g.d - 1 - (row / g.c).tmod g.d) = parA g row := by rw [tmod_n hv.1]; exact wrap_fit (by unfold parA at hp; omega) (by unfold parA at hp; omega)
    have w4 : IntKind.i64.wrap (parA g row + 1) = parA g row + 1 := wrap_fit (by omega) (by omega)
    have t4 : (parA g row + 1).tmod g.d = (parA g row + 1) % g.d := tmod_n (by omega)
    by_cases h5 : g.l = 5
    · simp [brK_eq, show g.c ≠ 0 by omega, show g.d ≠ 0 by omega, w1, w2, w3, h5]
    · simp [brK_eq, show g.c ≠ 0 by omega, show g.d ≠ 0 by omega, w1, w2, w3, h5, w4, t4]
theorem par_ref : F_wattleref01_Parity [g.D, .int .i64 row] = some (.tup [iD (parP g row).1, iD (parP g row).2]) := by
  have hi := fine_ref g row
  unfold Geo.D at *
  rw [F_wattleref01_Parity_eq]
  unfold g_wattleref01_Parity
  rw [hi]
  unfold parP
  cases h : fineP g row
  · simp [brK_eq]
  · obtain ⟨hk, h0, h1⟩ := fine_iff.1 h
    have hd := ok_d hk
    have hv := div_c hk h0
    have hp := par_in hk row
    have w1 : IntKind.i64.wrap (g.d - 1) = g.d - 1 := wrap_fit (by omega) (by omega)
    have w2 : IntKind.i64.wrap (row.tdiv g.c) = row / g.c := by rw [tdiv_c hk h0]; exact wrap_fit (by omega) (by omega)
    have w3 : IntKind.i64.wrap (g.d - 1 - (row / g.c).tmod g.d) = parA g row := by rw [tmod_n hv.1]; exact wrap_fit (by unfold parA at hp; omega) (by unfold parA at hp; omega)
    have w4 : IntKind.i64.wrap (parA g row + 1) = parA g row + 1 := wrap_fit (by omega) (by omega)
    have t4 : (parA g row + 1).tmod g.d = (parA g row + 1) % g.d := tmod_n (by omega)
    by_cases h5 : g.l = 5
    · simp [brK_eq, show g.c ≠ 0 by omega, show g.d ≠ 0 by omega, w1, w2, w3, h5]
    · simp [brK_eq, show g.c ≠ 0 by omega, show g.d ≠ 0 by omega, w1, w2, w3, h5, w4, t4]
theorem disk_place : F_place_Disk [g.D, .int .i64 row, .int .i64 k] = some (iD (diskP g row k)) := by
  have hi := in_place g row
  have hp := par_place g row
  unfold Geo.D at *
  rw [F_place_Disk_eq]
  unfold g_place_Disk
  rw [hi, hp, width_geo, budget_geom]
  unfold diskP
  cases h : fineP g row
  · simp [brK_eq]
  · obtain ⟨hk, h0, h1⟩ := fine_iff.1 h
    have hd := ok_d hk
    have hw := width_ok hk
    have hb := budget_of hk
    have hl := ok_iff.1 hk
    have hpa := par_in hk row
    by_cases k0 : k < 0
    · simp [brK_eq, k0, show ¬ 0 ≤ k by omega]
    · by_cases k1 : g.width ≤ k
      · simp [brK_eq, k0, k1, show ¬ k < g.width by omega]
      · have w1 : IntKind.i64.wrap (parA g row + (g.l - 4)) = parA g row + (g.l - 4) := wrap_fit (by omega) (by omega)
        have w2 : IntKind.i64.wrap (parA g row + (g.l - 4) + k) = parA g row + (g.l - 4) + k := wrap_fit (by omega) (by omega)
        have t2 : (parA g row + (g.l - 4) + k).tmod g.d = (parA g row + (g.l - 4) + k) % g.d := tmod_n (by omega)
        have hp1 : (parP g row).1 = parA g row := by unfold parP; simp [h]
        simp [brK_eq, k0, k1, show 0 ≤ k by omega, show k < g.width by omega, hb, hp1, w1, w2, t2, show g.d ≠ 0 by omega]
theorem disk_ref : F_wattleref01_Disk [g.D, .int .i64 row, .int .i64 k] = some (iD (diskP g row k)) := by
  have hi := fine_ref g row
  have hp := par_ref g row
  unfold Geo.D at *
  rw [F_wattleref01_Disk_eq]
  unfold g_wattleref01_Disk
  rw [hi, hp, width_geoR, budget_ref]
  unfold diskP
  cases h : fineP g row
  · simp [brK_eq]
  · obtain ⟨hk, h0, h1⟩ := fine_iff.1 h
    have hd := ok_d hk
    have hw := width_ok hk
    have hb := budget_of hk
    have hl := ok_iff.1 hk
    have hpa := par_in hk row
    by_cases k0 : k < 0
    · simp [brK_eq, k0, show ¬ 0 ≤ k by omega]
    · by_cases k1 : g.width ≤ k
      · simp [brK_eq, k0, k1, show ¬ k < g.width by omega]
      · have w1 : IntKind.i64.wrap (parA g row + (g.l - 4)) = parA g row + (g.l - 4) := wrap_fit (by omega) (by omega)
        have w2 : IntKind.i64.wrap (parA g row + (g.l - 4) + k) = parA g row + (g.l - 4) + k := wrap_fit (by omega) (by omega)
        have t2 : (parA g row + (g.l - 4) + k).tmod g.d = (parA g row + (g.l - 4) + k) % g.d := tmod_n (by omega)
        have hp1 : (parP g row).1 = parA g row := by unfold parP; simp [h]
        simp [brK_eq, k0, k1, show 0 ≤ k by omega, show k < g.width by omega, hb, hp1, w1, w2, t2, show g.d ≠ 0 by omega]
theorem of_place : F_place_Of [g.D, .int .i64 a] = some (ofD (ofP g a)) := by
  have hdk := fun row k => disk_place g row k
  unfold Geo.D at *
  rw [F_place_Of_eq]
  unfold g_place_Of
  rw [width_geo, cap_geo]
  unfold ofP ofD
  by_cases h0 : a < 0
  · simp [brK_eq, h0, show ¬ 0 ≤ a by omega]
  · by_cases h1 : g.cap ≤ a
    · simp [brK_eq, h0, h1, show ¬ a < g.cap by omega]
    · have h0 : 0 ≤ a := by omega
      have h1 : a < g.cap := by omega
      have hk := cap_ok h0 h1
      have hd := ok_d hk
      have hw := width_ok hk
      have hv := div_c hk h0
      have hr := row_fine h0 h1
      have hca : g.cap = g.width * 16 := rfl
      have hvw : a / g.c / g.width ≤ a / g.c := Int.ediv_le_self _ hv.1
      have w1 : IntKind.i64.wrap (a.tdiv g.c) = a / g.c := by rw [tdiv_c hk h0]; exact wrap_fit (by omega) (by omega)
      have w2 : IntKind.i64.wrap ((a / g.c).tdiv g.width) = a / g.c / g.width := by rw [Int.tdiv_eq_ediv_of_nonneg hv.1]; exact wrap_fit (by omega) (by omega)
      have hm : 0 ≤ a / g.c / g.width * g.c := Int.mul_nonneg hr.2.2.1 (by omega)
      have w3 : IntKind.i64.wrap (a / g.c / g.width * g.c) = a / g.c / g.width * g.c := wrap_fit (by omega) (by omega)
      have w4 : IntKind.i64.wrap (a / g.c / g.width * g.c + a.tmod g.c) = rowOf g a := by rw [tmod_n h0]; exact wrap_fit (by omega) (by omega)
      have t5 : (a / g.c).tmod g.width = colOf g a := tmod_n hv.1
      simp [brK_eq, h0, h1, show ¬ a < 0 by omega, show ¬ g.cap ≤ a by omega, w1, w2, w3, w4, t5, show g.c ≠ 0 by omega, show g.width ≠ 0 by omega, hdk]
theorem of_ref : F_wattleref01_Of [g.D, .int .i64 a] = some (ofD (ofP g a)) := by
  have hdk := fun row k => disk_ref g row k
  unfold Geo.D at *
  rw [F_wattleref01_Of_eq]
  unfold g_wattleref01_Of
  rw [width_geoR, cap_geoR, check_ref]
  unfold ofP ofD
  show bindK (some (D.bool g.ok)) _ = _
  cases hg : g.ok
  · have : ¬ (0 ≤ a ∧ a < g.cap) := by
      intro h; rw [cap_ok h.1 h.2] at hg; contradiction
    simp [brK_eq, this]
  · by_cases h0 : a < 0
    · simp [brK_eq, h0, show ¬ 0 ≤ a by omega]
    · by_cases h1 : g.cap ≤ a
      · simp [brK_eq, h0, h1, show ¬ a < g.cap by omega]
      · have h0 : 0 ≤ a := by omega
        have h1 : a < g.cap := by omega
        have hk := cap_ok h0 h1
        have hd := ok_d hk
        have hw := width_ok hk
        have hv := div_c hk h0
        have hr := row_fine h0 h1
        have hca : g.cap = g.width * 16 := rfl
        have hvw : a / g.c / g.width ≤ a / g.c := Int.ediv_le_self _ hv.1
        have w1 : IntKind.i64.wrap (a.tdiv g.c) = a / g.c := by rw [tdiv_c hk h0]; exact wrap_fit (by omega) (by omega)
        have w2 : IntKind.i64.wrap ((a / g.c).tdiv g.width) = a / g.c / g.width := by rw [Int.tdiv_eq_ediv_of_nonneg hv.1]; exact wrap_fit (by omega) (by omega)
        have hm : 0 ≤ a / g.c / g.width * g.c := Int.mul_nonneg hr.2.2.1 (by omega)
        have w3 : IntKind.i64.wrap (a / g.c / g.width * g.c) = a / g.c / g.width * g.c := wrap_fit (by omega) (by omega)
        have w4 : IntKind.i64.wrap (a / g.c / g.width * g.c + a.tmod g.c) = rowOf g a := by rw [tmod_n h0]; exact wrap_fit (by omega) (by omega)
        have t5 : (a / g.c).tmod g.width = colOf g a := tmod_n hv.1
        simp [brK_eq, h0, h1, show ¬ a < 0 by omega, show ¬ g.cap ≤ a by omega, w1, w2, w3, w4, t5, show g.c ≠ 0 by omega, show g.width ≠ 0 by omega, hdk]
end
section
variable (l d c a row k : Int)
theorem par_place' : F_place_Parity [gD l d c, .int .i64 row] = some (.tup [iD (parP ⟨l, d, c⟩ row).1, iD (parP ⟨l, d, c⟩ row).2]) := par_place ⟨l, d, c⟩ row
theorem par_ref' : F_wattleref01_Parity [gD l d c, .int .i64 row] = some (.tup [iD (parP ⟨l, d, c⟩ row).1, iD (parP ⟨l, d, c⟩ row).2]) := par_ref ⟨l, d, c⟩ row
theorem disk_place' : F_place_Disk [gD l d c, .int .i64 row, .int .i64 k] = some (iD (diskP ⟨l, d, c⟩ row k)) := disk_place ⟨l, d, c⟩ row k
theorem disk_ref' : F_wattleref01_Disk [gD l d c, .int .i64 row, .int .i64 k] = some (iD (diskP ⟨l, d, c⟩ row k)) := disk_ref ⟨l, d, c⟩ row k
theorem of_place' : F_place_Of [gD l d c, .int .i64 a] = some (.tup [iD (ofP ⟨l, d, c⟩ a).1, iD (ofP ⟨l, d, c⟩ a).2.1, .bool (ofP ⟨l, d, c⟩ a).2.2]) := of_place ⟨l, d, c⟩ a
theorem of_ref' : F_wattleref01_Of [gD l d c, .int .i64 a] = some (.tup [iD (ofP ⟨l, d, c⟩ a).1, iD (ofP ⟨l, d, c⟩ a).2.1, .bool (ofP ⟨l, d, c⟩ a).2.2]) := of_ref ⟨l, d, c⟩ a
end
theorem wakes08 : F_wattlelaw08_wakes [] = some (.bool true) := by
  rw [F_wattlelaw08_wakes_eq]
  unfold g_wattlelaw08_wakes
  rw [of_place']
  rfl
end Wf

