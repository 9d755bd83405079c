/-
  Windows, plainly.
-/
import Derived.Test.YtpdhbdacbiamdaaY
set_option linter.unusedVariables false
set_option linter.unusedSimpArgs false
set_option linter.unnecessarySimpa false
namespace Wf
open Go Go.RowKit Go.Proofs
set_option linter.unusedSimpArgs false
set_option linter.unusedVariables false

def Geo.width (g : Geo) : Int := widthG g.l g.d g.c
def Geo.cap (g : Geo) : Int := capG g.l g.d g.c
def rowsP (x y : Geo) : Int := if x.can y then max x.c y.c else 0
def winP (x y : Geo) : Int := if x.can y then 16 / max x.c y.c else 0
def spanP (x y : Geo) (k : Int) : Int × Int := if k < 0 ∨ winP x y ≤ k then (0, 0) else (k * (rowsP x y * y.width), (k + 1) * (rowsP x y * y.width))
def cursorP (x y : Geo) (k : Int) : Int := if k < 0 ∨ winP x y < k then 0 else min (k * rowsP x y * y.width) x.cap

theorem ok_iff {g : Geo} : g.ok = true ↔ ((g.l = 5 ∧ 3 ≤ g.d) ∨ (g.l = 6 ∧ 4 ≤ g.d)) ∧ g.d ≤ 8 ∧ (g.c = 1 ∨ g.c = 2 ∨ g.c = 4) := valid_iff
theorem width_of {g : Geo} (h : g.ok = true) : g.width = g.d - (g.l - 4) := by exact if_pos h
theorem width_ok {g : Geo} (h : g.ok = true) : 2 ≤ g.width ∧ g.width ≤ 7 := by
  rw [width_of h]; have := ok_iff.1 h; omega
theorem cap_of {g : Geo} : g.cap = g.width * 16 := rfl
theorem rows_of {x y : Geo} (h : x.can y = true) : rowsP x y = max x.c y.c ∧ (rowsP x y = 1 ∨ rowsP x y = 2 ∨ rowsP x y = 4) := by
  have h1 := ok_iff.1 (can_iff.1 h).1
  have h2 := ok_iff.1 (can_iff.1 h).2.1
  unfold rowsP; rw [if_pos h]
  exact ⟨rfl, by omega⟩
theorem win_of {x y : Geo} (h : x.can y = true) : winP x y = 16 / rowsP x y ∧ (winP x y = 4 ∨ winP x y = 8 ∨ winP x y = 16) ∧ winP x y * rowsP x y = 16 := by
  have h1 := rows_of h
  have h2 : winP x y = 16 / rowsP x y := by unfold winP rowsP; rw [if_pos h, if_pos h]
  rw [h2]
  rcases h1.2 with e | e | e <;> rw [e] <;> simp
theorem rows_no {x y : Geo} (h : x.can y = false) : rowsP x y = 0 ∧ winP x y = 0 := by unfold rowsP winP; simp [h]

theorem plan_rows (x y : Geo) : F_plan_Rows [x.D, y.D] = some (iD (rowsP x y)) := by
  unfold Geo.D
  rw [F_plan_Rows_eq]
  unfold g_plan_Rows
  rw [can_geom]
  show bindK (some (D.bool (x.can y))) _ = _
  cases h : x.can y
  · simp [brK_eq, rows_no h]
  · simp [brK_eq, rows_of h]
theorem plan_windows (x y : Geo) : F_plan_Windows [x.D, y.D] = some (iD (winP x y)) := by
  have hr := plan_rows x y
  unfold Geo.D at *
  rw [F_plan_Windows_eq]
  unfold g_plan_Windows
  rw [hr]
  cases h : x.can y
  · simp [brK_eq, rows_no h]
  · obtain ⟨h1, h2⟩ := rows_of h
    obtain ⟨h3, h4, h5⟩ := win_of h
    rw [h3]
    rcases h2 with e | e | e <;> rw [e] <;> simp [brK_eq] <;> rfl
theorem width_geo (g : Geo) : F_geom_Width [gD g.l g.d g.c] = some (iD g.width) := width_geom ..
theorem cap_geo (g : Geo) : F_geom_Capacity [gD g.l g.d g.c] = some (iD g.cap) := capacity_geom ..
theorem width_geoR (g : Geo) : F_wattleref01_Width [gD g.l g.d g.c] = some (iD g.width) := width_ref ..
theorem cap_geoR (g : Geo) : F_wattleref01_Capacity [gD g.l g.d g.c] = some (iD g.cap) := capacity_ref ..

/-- What spans' numbers come to. -/
theorem span_fit {x y : Geo} {k : Int} (h : x.can y = true) (h0 : 0 ≤ k) (h1 : k ≤ winP x y) :
    IntKind.i64.wrap (rowsP x y * y.width) = rowsP x y * y.width ∧ IntKind.i64.wrap (k * (rowsP x y * y.width)) = k * (rowsP x y * y.width) ∧
    IntKind.i64.wrap (k + 1) = k + 1 ∧ IntKind.i64.wrap ((k + 1) * (rowsP x y * y.width)) = (k + 1) * (rowsP x y * y.width) ∧
    IntKind.i64.wrap (k * rowsP x y) = k * rowsP x y ∧ IntKind.i64.wrap (k * rowsP x y * y.width) = k * rowsP x y * y.width := by
  obtain ⟨_, h2⟩ := rows_of h
  obtain ⟨_, h4, _⟩ := win_of h
  have h3 := width_ok (can_iff.1 h).2.1
  generalize y.width = w at *
  generalize winP x y = n at *
  have hw : w = 2 ∨ w = 3 ∨ w = 4 ∨ w = 5 ∨ w = 6 ∨ w = 7 := by omega
  rcases h2 with e | e | e <;> rw [e] <;> rcases hw with rfl | rfl | rfl | rfl | rfl | rfl <;>
    refine ⟨wrap_fit (by omega) (by omega), wrap_fit (by omega) (by omega), wrap_fit (by omega) (by omega), wrap_fit (by omega) (by omega), wrap_fit (by omega) (by omega), wrap_fit (by omega) (by omega)⟩

theorem plan_span (x y : Geo) (k : Int) : F_plan_Span [x.D, y.D, .int .i64 k] = some (.tup [iD (spanP x y k).1, iD (spanP x y k).2]) := by
  have hr := plan_rows x y
  have hw := plan_windows x y
  unfold Geo.D at *
  rw [F_plan_Span_eq]
  unfold g_plan_Span spanP
  rw [hr, hw, width_geo]
  by_cases h0 : k < 0
  · simp [h0]
  · by_cases h1 : winP x y ≤ k
    · simp [h0, h1]
    · have hc : x.can y = true := by
        cases h : x.can y
        · have := (rows_no h).2; omega
        · rfl
      obtain ⟨w1, w2, w3, w4, _, _⟩ := span_fit hc (by omega) (show k ≤ winP x y by omega)
      simp [h0, h1, w1, w2, w3, w4]
theorem plan_cursor (x y : Geo) (k : Int) : F_plan_Cursor [x.D, y.D, .int .i64 k] = some (iD (cursorP x y k)) := by
  have hr := plan_rows x y
  have hw := plan_windows x y
  unfold Geo.D at *
  rw [F_plan_Cursor_eq]
  unfold g_plan_Cursor cursorP
  rw [hr, hw, width_geo, cap_geo]
  by_cases h0 : k < 0
  · simp [h0]
  · by_cases h1 : winP x y < k
    · simp [h0, h1]
    · by_cases hc : x.can y = true
      · obtain ⟨_, _, _, _, w5, w6⟩ := span_fit hc (show 0 ≤ k by omega) (show k ≤ winP x y by omega)
        simp [h0, h1, w5, w6]
      · have := rows_no (by simpa using hc)
        have hk : k = 0 := by omega
        subst hk
        have w0 : IntKind.i64.wrap 0 = 0 := rfl
        simp [this.1, this.2, w0]
theorem least_ref (a b : Int) (ha : a = 1 ∨ a = 2 ∨ a = 4) (hb : b = 1 ∨ b = 2 ∨ b = 4) : F_wattleref01_least [.int .i64 a, .int .i64 b] = some (iD (max a b)) := by
  rw [F_wattleref01_least_eq]
  unfold g_wattleref01_least
  obtain ⟨m, hm⟩ := fuel_many
  rcases ha with rfl | rfl | rfl <;> rcases hb with rfl | rfl | rfl <;> simp [loopN, hm, fixN, brK_eq, wrap_fit] <;> rfl
theorem ref_rows (x y : Geo) : F_wattleref01_Rows [x.D, y.D] = some (iD (rowsP x y)) := by
  unfold Geo.D
  rw [F_wattleref01_Rows_eq]
  unfold g_wattleref01_Rows
  rw [can_ref]
  show bindK (some (D.bool (x.can y))) _ = _
  cases h : x.can y
  · simp [brK_eq, rows_no h]
  · rw [least_ref _ _ (ok_iff.1 (can_iff.1 h).1).2.2 (ok_iff.1 (can_iff.1 h).2.1).2.2]
    simp [brK_eq, rows_of h]
theorem ref_windows (x y : Geo) : F_wattleref01_Windows [x.D, y.D] = some (iD (winP x y)) := by
  have hr := ref_rows x y
  unfold Geo.D at *
  rw [F_wattleref01_Windows_eq]
  unfold g_wattleref01_Windows
  rw [hr, can_ref]
  show bindK (some (D.bool (x.can y))) _ = _
  cases h : x.can y
  · simp [brK_eq, rows_no h]
  · obtain ⟨h1, h2⟩ := rows_of h
    obtain ⟨h3, h4, h5⟩ := win_of h
    rw [h3]
    rcases h2 with e | e | e <;> rw [e] <;> simp [brK_eq] <;> rfl
theorem ref_span (x y : Geo) (k : Int) : F_wattleref01_Span [x.D, y.D, .int .i64 k] = some (.tup [iD (spanP x y k).1, iD (spanP x y k).2]) := by
  have hr := ref_rows x y
  have hw := ref_windows x y
  unfold Geo.D at *
  rw [F_wattleref01_Span_eq]
  unfold g_wattleref01_Span spanP
  rw [hr, hw, width_geoR]
  by_cases h0 : k < 0
  · simp [h0]
  · by_cases h1 : winP x y ≤ k
    · simp [h0, h1]
    · have hc : x.can y = true := by
        cases h : x.can y
        · have := (rows_no h).2; omega
        · rfl
      obtain ⟨w1, w2, w3, w4, _, _⟩ := span_fit hc (by omega) (show k ≤ winP x y by omega)
      simp [h0, h1, w1, w2, w3, w4]
theorem ref_cursor (x y : Geo) (k : Int) : F_wattleref01_Cursor [x.D, y.D, .int .i64 k] = some (iD (cursorP x y k)) := by
  have hr := ref_rows x y
  have hw := ref_windows x y
  unfold Geo.D at *
  rw [F_wattleref01_Cursor_eq]
  unfold g_wattleref01_Cursor cursorP
  rw [hr, hw, width_geoR, cap_geoR]
  by_cases h0 : k < 0
  · simp [h0]
  · by_cases h1 : winP x y < k
    · simp [h0, h1]
    · by_cases hc : x.can y = true
      · obtain ⟨_, _, _, _, w5, w6⟩ := span_fit hc (show 0 ≤ k by omega) (show k ≤ winP x y by omega)
        simp [h0, h1, w5, w6]
      · have := rows_no (by simpa using hc)
        have hk : k = 0 := by omega
        subst hk
        have w0 : IntKind.i64.wrap 0 = 0 := rfl
        simp [this.1, this.2, w0]
theorem wakes18 : F_wattlelaw18_wakes [] = some (.bool true) := by
  rw [F_wattlelaw18_wakes_eq]
  unfold g_wattlelaw18_wakes
  rw [show [gD 5 3 1, gD 5 4 1] = [Geo.D ⟨5, 3, 1⟩, Geo.D ⟨5, 4, 1⟩] from rfl, plan_windows]
  rfl
section
variable (a b c x y z k : Int)
theorem plan_rows' : F_plan_Rows [gD a b c, gD x y z] = some (iD (rowsP ⟨a, b, c⟩ ⟨x, y, z⟩)) := plan_rows ⟨a, b, c⟩ ⟨x, y, z⟩
theorem plan_windows' : F_plan_Windows [gD a b c, gD x y z] = some (iD (winP ⟨a, b, c⟩ ⟨x, y, z⟩)) := plan_windows ⟨a, b, c⟩ ⟨x, y, z⟩
theorem plan_span' : F_plan_Span [gD a b c, gD x y z, .int .i64 k] = some (.tup [iD (spanP ⟨a, b, c⟩ ⟨x, y, z⟩ k).1, iD (spanP ⟨a, b, c⟩ ⟨x, y, z⟩ k).2]) := plan_span ⟨a, b, c⟩ ⟨x, y, z⟩ k
theorem plan_cursor' : F_plan_Cursor [gD a b c, gD x y z, .int .i64 k] = some (iD (cursorP ⟨a, b, c⟩ ⟨x, y, z⟩ k)) := plan_cursor ⟨a, b, c⟩ ⟨x, y, z⟩ k
theorem ref_rows' : F_wattleref01_Rows [gD a b c, gD x y z] = some (iD (rowsP ⟨a, b, c⟩ ⟨x, y, z⟩)) := ref_rows ⟨a, b, c⟩ ⟨x, y, z⟩
theorem ref_windows' : F_wattleref01_Windows [gD a b c, gD x y z] = some (iD (winP ⟨a, b, c⟩ ⟨x, y, z⟩)) := ref_windows ⟨a, b, c⟩ ⟨x, y, z⟩
theorem ref_span' : F_wattleref01_Span [gD a b c, gD x y z, .int .i64 k] = some (.tup [iD (spanP ⟨a, b, c⟩ ⟨x, y, z⟩ k).1, iD (spanP ⟨a, b, c⟩ ⟨x, y, z⟩ k).2]) := ref_span ⟨a, b, c⟩ ⟨x, y, z⟩ k
theorem ref_cursor' : F_wattleref01_Cursor [gD a b c, gD x y z, .int .i64 k] = some (iD (cursorP ⟨a, b, c⟩ ⟨x, y, z⟩ k)) := ref_cursor ⟨a, b, c⟩ ⟨x, y, z⟩ k
theorem cap_ref' : F_wattleref01_Capacity [gD a b c] = some (iD (Geo.cap ⟨a, b, c⟩)) := cap_geoR ⟨a, b, c⟩
end
end Wf

