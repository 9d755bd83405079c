/-
  Geometries, plainly.
-/
import Derived.Test.YtgekoicndhcghaaX
import Derived.Test.YtgekoicndhcghaaFe
set_option linter.unusedVariables false
set_option linter.unusedSimpArgs false
set_option linter.unnecessarySimpa false
namespace Wf
open Go Go.RowKit Go.Proofs
set_option linter.unusedSimpArgs false
set_option linter.unusedVariables false

theorem fuel_many : ∃ m, fuel = m + 40 := ⟨fuel - 40, by have := fuel_le; omega⟩
def validG (l d c : Int) : Bool := (l == 5 || l == 6) && decide ((if l = 6 then 4 else 3) ≤ d) && decide (d ≤ 8) && (c == 1 || c == 2 || c == 4)
def budgetG (l d c : Int) : Int := if validG l d c then l - 4 else 0
def widthG (l d c : Int) : Int := if validG l d c then d - (l - 4) else 0
def capG (l d c : Int) : Int := widthG l d c * 16
def canG (l d c x y z : Int) : Bool := validG l d c && validG x y z && !(l == x && (d == y && c == z)) && decide (d ≤ y) && decide (l ≤ x) && decide (widthG l d c ≤ widthG x y z)
theorem valid_iff {l d c : Int} : validG l d c = true ↔ ((l = 5 ∧ 3 ≤ d) ∨ (l = 6 ∧ 4 ≤ d)) ∧ d ≤ 8 ∧ (c = 1 ∨ c = 2 ∨ c = 4) := by
  unfold validG
  simp only [Bool.and_eq_true, Bool.or_eq_true, beq_iff_eq, decide_eq_true_eq]
  constructor
  · rintro ⟨⟨⟨h1, h2⟩, h3⟩, h4⟩
    refine ⟨?_, h3, by omega⟩
    split at h2 <;> omega
  · rintro ⟨h1, h3, h4⟩
    refine ⟨⟨⟨by omega, ?_⟩, h3⟩, by omega⟩
    split <;> omega
theorem invalid_iff {l d c : Int} : validG l d c = false ↔ ¬ (((l = 5 ∧ 3 ≤ d) ∨ (l = 6 ∧ 4 ≤ d)) ∧ d ≤ 8 ∧ (c = 1 ∨ c = 2 ∨ c = 4)) := by
  rw [← valid_iff]; simp
theorem width_le (l d c : Int) : 0 ≤ widthG l d c ∧ widthG l d c ≤ 8 := by
  unfold widthG
  split
  · rename_i h; have := valid_iff.1 h; omega
  · omega
/-- A geometry's data. -/
abbrev gD (l d c : Int) : D := .agg [.int .i64 l, .int .i64 d, .int .i64 c]
theorem contains_124 (c : Int) : F_slices_Contains_int_int [.sl .full [.int .i64 1, .int .i64 2, .int .i64 4], .int .i64 c] = some (.bool (c == 1 || c == 2 || c == 4)) := by
  rw [F_slices_Contains_int_int_eq]
  unfold g_slices_Contains_int_int
  rw [F_slices_Index_int_int_eq]
  unfold g_slices_Index_int_int
  obtain ⟨m, hm⟩ := fuel_many
  by_cases h1 : c = 1 <;> by_cases h2 : c = 2 <;> by_cases h4 : c = 4 <;>
    simp [loopN, hm, fixN, brK_eq, h1, h2, h4, wrap_fit] <;> omega
theorem check_geom (l d c : Int) : F_geom_Check [gD l d c] = some (iD (if validG l d c then 0 else 1)) := by
  rw [F_geom_Check_eq]
  unfold g_geom_Check
  have hc := contains_124 c
  unfold validG
  obtain ⟨q, hq⟩ : ∃ q, (c == 1 || c == 2 || c == 4) = q := ⟨_, rfl⟩
  rw [hq] at hc ⊢
  by_cases h5 : l = 5
  · subst h5
    by_cases h3 : d < 3 <;> by_cases h8 : 8 < d <;> cases q <;> simp [lookD, findD, setD, hc, brK_eq, h3, h8] <;> omega
  · by_cases h6 : l = 6
    · subst h6
      by_cases h3 : d < 4 <;> by_cases h8 : 8 < d <;> cases q <;> simp [lookD, findD, setD, hc, brK_eq, h3, h8] <;> omega
    · simp [lookD, findD, setD, hc, brK_eq, h5, h6]
theorem budget_geom (l d c : Int) : F_geom_Budget [gD l d c] = some (iD (budgetG l d c)) := by
  rw [F_geom_Budget_eq]
  unfold g_geom_Budget budgetG
  rw [check_geom]
  cases h : validG l d c
  · simp [brK_eq]
  · have := valid_iff.1 h
    simp [brK_eq]
    exact wrap_fit (by omega) (by omega)
theorem width_geom (l d c : Int) : F_geom_Width [gD l d c] = some (iD (widthG l d c)) := by
  rw [F_geom_Width_eq]
  unfold g_geom_Width widthG
  rw [check_geom, budget_geom]
  unfold budgetG
  cases h : validG l d c
  · simp [brK_eq]
  · have := valid_iff.1 h
    simp [brK_eq]
    exact wrap_fit (by omega) (by omega)
theorem capacity_geom (l d c : Int) : F_geom_Capacity [gD l d c] = some (iD (capG l d c)) := by
  rw [F_geom_Capacity_eq]
  unfold g_geom_Capacity capG
  rw [width_geom]
  have := width_le l d c
  simp
  exact wrap_fit (by omega) (by omega)
theorem check_ref (l d c : Int) : F_wattleref01_Check [gD l d c] = some (.bool (validG l d c)) := by
  rw [F_wattleref01_Check_eq]
  unfold g_wattleref01_Check validG
  by_cases h5 : l = 5
  · subst h5
    by_cases h3 : 3 ≤ d <;> by_cases h8 : d ≤ 8 <;> simp [brK_eq, h3, h8] <;> by_cases h1 : c = 1 <;> by_cases h2 : c = 2 <;> simp [h1, h2] <;> omega
  · by_cases h6 : l = 6
    · subst h6
      by_cases h3 : 4 ≤ d <;> by_cases h8 : d ≤ 8 <;> simp [brK_eq, h3, h8] <;> by_cases h1 : c = 1 <;> by_cases h2 : c = 2 <;> simp [h1, h2] <;> omega
    · simp [brK_eq, h5, h6]
theorem budget_ref (l d c : Int) : F_wattleref01_Budget [gD l d c] = some (iD (budgetG l d c)) := by
  rw [F_wattleref01_Budget_eq]
  unfold g_wattleref01_Budget budgetG
  rw [check_ref]
  cases h : validG l d c
  · simp [brK_eq]
  · have := valid_iff.1 h
    simp [brK_eq]
    exact wrap_fit (by omega) (by omega)
theorem width_ref (l d c : Int) : F_wattleref01_Width [gD l d c] = some (iD (widthG l d c)) := by
  rw [F_wattleref01_Width_eq]
  unfold g_wattleref01_Width widthG
  rw [check_ref, budget_ref]
  unfold budgetG
  cases h : validG l d c
  · simp [brK_eq]
  · have := valid_iff.1 h
    simp [brK_eq]
    exact wrap_fit (by omega) (by omega)

end Wf

/-
  Numbers that a test plays with, plainly.
-/
namespace Wf
open Go Go.RowKit Go.Proofs
set_option linter.unusedSimpArgs false
set_option linter.unusedVariables false

theorem tmod_cases (a n : Int) (h : 1 ≤ n) : (0 ≤ a.tmod n ∧ a % n = a.tmod n) ∨ (a.tmod n < 0 ∧ a % n = a.tmod n + n) := by
  by_cases ha : a < 0
  · have h4 : a.tmod n = - ((-a) % n) := by rw [show a = -(-a) by omega, Int.neg_tmod, Int.tmod_eq_emod_of_nonneg (by omega)]; simp
    have h5 := Int.emod_nonneg (-a) (show n ≠ 0 by omega)
    have h6 := Int.emod_lt_of_pos (-a) (show 0 < n by omega)
    by_cases h7 : (-a) % n = 0
    · left
      refine ⟨by omega, ?_⟩
      have : n ∣ a := by
        have := Int.dvd_of_emod_eq_zero h7
        exact (Int.dvd_neg).1 this
      rw [Int.emod_eq_zero_of_dvd this]; omega
    · right
      refine ⟨by omega, ?_⟩
      rw [h4]
      have : a % n = (n - (-a) % n) % n := by
        rw [Int.sub_emod, Int.emod_emod_of_dvd _ (Int.dvd_refl n), ← Int.sub_emod, Int.sub_neg, Int.add_emod, Int.emod_self]; simp
      rw [this, Int.emod_eq_of_lt (by omega) (by omega)]; omega
  · left
    rw [Int.tmod_eq_emod_of_nonneg (by omega)]
    exact ⟨Int.emod_nonneg a (show n ≠ 0 by omega), rfl⟩
theorem within (a n : Int) (h : 1 ≤ n) (h9 : n < 1000000000) : F_wattlekeep_Within [.int .i64 a, .int .i64 n] = some (iD (a % n)) := by
  rw [F_wattlekeep_Within_eq]
  unfold g_wattlekeep_Within
  have hm := tmod_cases a n h
  have hlt := Int.lt_tmod_of_pos a (show 0 < n by omega)
  have h1 : ¬ n < 1 := by omega
  have h0 : n ≠ 0 := by omega
  rcases hm with ⟨k1, k2⟩ | ⟨k1, k2⟩
  · simp [brK_eq, h1, h0, Int.not_lt.2 k1, k2]
  · simp [brK_eq, h1, h0, k1, k2]
    exact wrap_fit (by omega) (by omega)
def qn (n k : Int) : Int := IntKind.i64.wrap (n.tdiv k)
theorem chunk_of (q : Int) (h0 : 0 ≤ q) (h3 : q < 3) {R : Type} (f : D → Option R) : getK [D.int .i64 1, D.int .i64 2, D.int .i64 4] q.toNat f = f (iD (if q = 0 then 1 else if q = 1 then 2 else 4)) := by
  have : q = 0 ∨ q = 1 ∨ q = 2 := by omega
  rcases this with rfl | rfl | rfl <;> rfl
structure Geo where
  l : Int
  d : Int
  c : Int
  deriving DecidableEq
def Geo.D (g : Geo) : Wf.D := gD g.l g.d g.c
def Geo.ok (g : Geo) : Bool := validG g.l g.d g.c
def geomOf (n : Int) : Geo :=
  let lev := 5 + n % 2
  let ch := if qn n 2 % 3 = 0 then 1 else if qn n 2 % 3 = 1 then 2 else 4
  let dk := if lev = 6 then 4 + qn n 6 % 4 else 3 + qn n 6 % 4
  let s := qn n 24 % 40
  if s = 36 then ⟨n % 9, dk, ch⟩ else if s = 37 then ⟨lev, n % 12 - 1, ch⟩ else if s = 38 then ⟨lev, dk, n % 9 - 1⟩ else if s = 39 then ⟨lev, 8, ch⟩ else ⟨lev, dk, ch⟩
def goodOf (n : Int) : Geo := if (geomOf n).ok then geomOf n else ⟨5, 3, 1⟩
theorem good_valid (n : Int) : (goodOf n).ok = true := by
  unfold goodOf
  split
  · assumption
  · rfl
theorem geom_play (n : Int) : F_wattleplay_Geom [.int .i64 n] = some (geomOf n).D := by
  rw [F_wattleplay_Geom_eq]
  unfold g_wattleplay_Geom
  have w5 : IntKind.i64.wrap (5 + n % 2) = 5 + n % 2 := wrap_fit (by omega) (by omega)
  have w3 : IntKind.i64.wrap (3 + qn n 6 % 4) = 3 + qn n 6 % 4 := wrap_fit (by omega) (by omega)
  have w4 : IntKind.i64.wrap (4 + qn n 6 % 4) = 4 + qn n 6 % 4 := wrap_fit (by omega) (by omega)
  have w12 : IntKind.i64.wrap (n % 12 - 1) = n % 12 - 1 := wrap_fit (by omega) (by omega)
  have w9 : IntKind.i64.wrap (n % 9 - 1) = n % 9 - 1 := wrap_fit (by omega) (by omega)
  have h0 : 0 ≤ qn n 2 % 3 := by omega
  have h3 : qn n 2 % 3 < 3 := by omega
  have e2 : IntKind.i64.wrap (n.tdiv 2) = qn n 2 := rfl
  have e6 : IntKind.i64.wrap (n.tdiv 6) = qn n 6 := rfl
  have e24 : IntKind.i64.wrap (n.tdiv 24) = qn n 24 := rfl
  simp only [within _ _ (show (1:Int) ≤ 2 by decide) (show (2:Int) < 1000000000 by decide), within _ _ (show (1:Int) ≤ 3 by decide) (show (3:Int) < 1000000000 by decide), within _ _ (show (1:Int) ≤ 4 by decide) (show (4:Int) < 1000000000 by decide),
    within _ _ (show (1:Int) ≤ 9 by decide) (show (9:Int) < 1000000000 by decide), within _ _ (show (1:Int) ≤ 12 by decide) (show (12:Int) < 1000000000 by decide), within _ _ (show (1:Int) ≤ 40 by decide) (show (40:Int) < 1000000000 by decide),
    bindK_some_eq, iD, asI_int, letN_eq, w5, w3, w4, w12, w9, e2, e6, e24, sif_pos h0, chunk_of _ h0 h3]
  unfold Geo.D geomOf
  have hl : n % 2 = 0 ∨ n % 2 = 1 := by omega
  by_cases k1 : qn n 24 % 40 = 36 <;> by_cases k2 : qn n 24 % 40 = 37 <;> by_cases k3 : qn n 24 % 40 = 38 <;> by_cases k4 : qn n 24 % 40 = 39 <;> rcases hl with hl | hl <;>
    simp [brK_eq, k1, k2, k3, k4, hl] <;> omega
theorem good_play (n : Int) : F_wattleplay_Good [.int .i64 n] = some (goodOf n).D := by
  rw [F_wattleplay_Good_eq]
  unfold g_wattleplay_Good
  rw [geom_play]
  unfold goodOf
  obtain ⟨l, d, c⟩ := geomOf n
  simp only [bindK_some_eq, Geo.D, asAgg_agg, getCells_int, getCells_nil, check_ref, asB_bool, Geo.ok]
  by_cases h : validG l d c = true
  · simp [brK_eq, h]
  · simp only [Bool.not_eq_true] at h; simp [brK_eq, h]
def Geo.can (x y : Geo) : Bool := canG x.l x.d x.c y.l y.d y.c
theorem can_iff {x y : Geo} : x.can y = true ↔ x.ok = true ∧ y.ok = true ∧ x ≠ y ∧ x.d ≤ y.d ∧ x.l ≤ y.l ∧ widthG x.l x.d x.c ≤ widthG y.l y.d y.c := by
  unfold Geo.can canG Geo.ok
  obtain ⟨l, d, c⟩ := x
  obtain ⟨l', d', c'⟩ := y
  simp only [Bool.and_eq_true, Bool.not_eq_true', Bool.and_eq_false_iff, beq_eq_false_iff_ne, decide_eq_true_eq, ne_eq, Geo.mk.injEq]
  constructor
  · rintro ⟨⟨⟨⟨⟨h1, h2⟩, h3⟩, h4⟩, h5⟩, h6⟩
    exact ⟨h1, h2, by rintro ⟨rfl, rfl, rfl⟩; simp at h3, h4, h5, h6⟩
  · rintro ⟨h1, h2, h3, h4, h5, h6⟩
    refine ⟨⟨⟨⟨⟨h1, h2⟩, ?_⟩, h4⟩, h5⟩, h6⟩
    by_cases e1 : l = l'
    · by_cases e2 : d = d'
      · exact .inr (.inr fun e3 => h3 ⟨e1, e2, e3⟩)
      · exact .inr (.inl e2)
    · exact .inl e1

end Wf

/-
  Places, plainly.
-/
namespace Wf
open Go Go.RowKit Go.Proofs
set_option linter.unusedSimpArgs false
set_option linter.unusedVariables false

def Geo.width (g : Geo) : Int := widthG g.l g.d g.c
def Geo.cap (g : Geo) : Int := capG g.l g.d g.c
def rowsP (x y : Geo) : Int := if x.can y then max x.c y.c else 0
def winP (x y : Geo) : Int := if x.can y then 16 / max x.c y.c else 0
def spanP (x y : Geo) (k : Int) : Int × Int := if k < 0 ∨ winP x y ≤ k then (0, 0) else (k * (rowsP x y * y.width), (k + 1) * (rowsP x y * y.width))
def cursorP (x y : Geo) (k : Int) : Int := if k < 0 ∨ winP x y < k then 0 else min (k * rowsP x y * y.width) x.cap
theorem ok_iff {g : Geo} : g.ok = true ↔ ((g.l = 5 ∧ 3 ≤ g.d) ∨ (g.l = 6 ∧ 4 ≤ g.d)) ∧ g.d ≤ 8 ∧ (g.c = 1 ∨ g.c = 2 ∨ g.c = 4) := valid_iff
theorem width_of {g : Geo} (h : g.ok = true) : g.width = g.d - (g.l - 4) := by exact if_pos h
theorem width_ok {g : Geo} (h : g.ok = true) : 2 ≤ g.width ∧ g.width ≤ 7 := by
  rw [width_of h]; have := ok_iff.1 h; omega
theorem cap_of {g : Geo} : g.cap = g.width * 16 := rfl
theorem rows_of {x y : Geo} (h : x.can y = true) : rowsP x y = max x.c y.c ∧ (rowsP x y = 1 ∨ rowsP x y = 2 ∨ rowsP x y = 4) := by
  have h1 := ok_iff.1 (can_iff.1 h).1
  have h2 := ok_iff.1 (can_iff.1 h).2.1
  unfold rowsP; rw [if_pos h]
  exact ⟨rfl, by omega⟩
theorem win_of {x y : Geo} (h : x.can y = true) : winP x y = 16 / rowsP x y ∧ (winP x y = 4 ∨ winP x y = 8 ∨ winP x y = 16) ∧ winP x y * rowsP x y = 16 := by
  have h1 := rows_of h
  have h2 : winP x y = 16 / rowsP x y := by unfold winP rowsP; rw [if_pos h, if_pos h]
  rw [h2]
  rcases h1.2 with e | e | e <;> rw [e] <;> simp
theorem rows_no {x y : Geo} (h : x.can y = false) : rowsP x y = 0 ∧ winP x y = 0 := by unfold rowsP winP; simp [h]
theorem width_geo (g : Geo) : F_geom_Width [gD g.l g.d g.c] = some (iD g.width) := width_geom ..
theorem cap_geo (g : Geo) : F_geom_Capacity [gD g.l g.d g.c] = some (iD g.cap) := capacity_geom ..
theorem width_geoR (g : Geo) : F_wattleref01_Width [gD g.l g.d g.c] = some (iD g.width) := width_ref ..
/-- What spans' numbers come to. -/
theorem span_fit {x y : Geo} {k : Int} (h : x.can y = true) (h0 : 0 ≤ k) (h1 : k ≤ winP x y) :
    IntKind.i64.wrap (rowsP x y * y.width) = rowsP x y * y.width ∧ IntKind.i64.wrap (k * (rowsP x y * y.width)) = k * (rowsP x y * y.width) ∧
    IntKind.i64.wrap (k + 1) = k + 1 ∧ IntKind.i64.wrap ((k + 1) * (rowsP x y * y.width)) = (k + 1) * (rowsP x y * y.width) ∧
    IntKind.i64.wrap (k * rowsP x y) = k * rowsP x y ∧ IntKind.i64.wrap (k * rowsP x y * y.width) = k * rowsP x y * y.width := by
  obtain ⟨_, h2⟩ := rows_of h
  obtain ⟨_, h4, _⟩ := win_of h
  have h3 := width_ok (can_iff.1 h).2.1
  generalize y.width = w at *
  generalize winP x y = n at *
  have hw : w = 2 ∨ w = 3 ∨ w = 4 ∨ w = 5 ∨ w = 6 ∨ w = 7 := by omega
  rcases h2 with e | e | e <;> rw [e] <;> rcases hw with rfl | rfl | rfl | rfl | rfl | rfl <;>
    refine ⟨wrap_fit (by omega) (by omega), wrap_fit (by omega) (by omega), wrap_fit (by omega) (by omega), wrap_fit (by omega) (by omega), wrap_fit (by omega) (by omega), wrap_fit (by omega) (by omega)⟩
section
variable (a b c x y z k : Int)
end
def fineP (g : Geo) (row : Int) : Bool := g.ok && decide (0 ≤ row) && decide (row < 16)
/-- Where row `row` keeps its first parity. -/
def parA (g : Geo) (row : Int) : Int := g.d - 1 - (row / g.c) % g.d
def parP (g : Geo) (row : Int) : Int × Int := if fineP g row then (parA g row, if g.l = 5 then -1 else (parA g row + 1) % g.d) else (-1, -1)
def diskP (g : Geo) (row k : Int) : Int := if fineP g row ∧ 0 ≤ k ∧ k < g.width then (parA g row + (g.l - 4) + k) % g.d else -1
def rowG (g : Geo) (a : Int) : Int := a / g.c / g.width * g.c + a % g.c
def colOf (g : Geo) (a : Int) : Int := a / g.c % g.width
def ofP (g : Geo) (a : Int) : Int × Int × Bool := if 0 ≤ a ∧ a < g.cap then (diskP g (rowG g a) (colOf g a), rowG g a, true) else (0, 0, false)
def numP (g : Geo) (row k : Int) : Int := (row / g.c * g.width + k) * g.c + row % g.c
def ofD (t : Int × Int × Bool) : D := .tup [iD t.1, iD t.2.1, .bool t.2.2]
theorem fine_iff {g : Geo} {row : Int} : fineP g row = true ↔ g.ok = true ∧ 0 ≤ row ∧ row < 16 := by
  unfold fineP; simp [and_assoc]
theorem ok_d {g : Geo} (h : g.ok = true) : 3 ≤ g.d ∧ g.d ≤ 8 ∧ 1 ≤ g.c ∧ g.c ≤ 4 := by have := ok_iff.1 h; omega
theorem cap_ok {g : Geo} {a : Int} (h0 : 0 ≤ a) (h1 : a < g.cap) : g.ok = true := by
  cases h : g.ok
  · have : g.cap = 0 := by unfold Geo.cap capG widthG; unfold Geo.ok at h; simp [h]
    omega
  · rfl
theorem budget_of {g : Geo} (h : g.ok = true) : budgetG g.l g.d g.c = g.l - 4 := if_pos h
theorem div_c {g : Geo} {a : Int} (h : g.ok = true) (h0 : 0 ≤ a) : 0 ≤ a / g.c ∧ a / g.c ≤ a ∧ 0 ≤ a % g.c ∧ a % g.c < 4 ∧ a % g.c < g.c ∧ a / g.c * g.c + a % g.c = a := by
  obtain ⟨_, _, hc⟩ := ok_iff.1 h
  generalize g.c = c at hc
  rcases hc with rfl | rfl | rfl <;> omega
theorem tdiv_c {g : Geo} {a : Int} (h : g.ok = true) (h0 : 0 ≤ a) : a.tdiv g.c = a / g.c := Int.tdiv_eq_ediv_of_nonneg h0
theorem tmod_n {a n : Int} (h0 : 0 ≤ a) : a.tmod n = a % n := Int.tmod_eq_emod_of_nonneg h0
theorem mod_d {g : Geo} (h : g.ok = true) (n : Int) : 0 ≤ n % g.d ∧ n % g.d < g.d := ⟨Int.emod_nonneg _ (by have := ok_d h; omega), Int.emod_lt_of_pos _ (by have := ok_d h; omega)⟩
theorem par_in {g : Geo} (h : g.ok = true) (row : Int) : 0 ≤ parA g row ∧ parA g row < g.d := by
  have := mod_d h (row / g.c)
  unfold parA; omega
theorem mod_w {g : Geo} (h : g.ok = true) (n : Int) : 0 ≤ n % g.width ∧ n % g.width < g.width := ⟨Int.emod_nonneg _ (by have := width_ok h; omega), Int.emod_lt_of_pos _ (by have := width_ok h; omega)⟩
theorem row_fine {g : Geo} {a : Int} (h0 : 0 ≤ a) (h1 : a < g.cap) : 0 ≤ rowG g a ∧ rowG g a < 16 ∧ 0 ≤ a / g.c / g.width ∧ a / g.c / g.width * g.c < 16 := by
  have hk := cap_ok h0 h1
  have hw := width_ok hk
  have hc := (ok_iff.1 hk).2.2
  rw [cap_of] at h1
  unfold rowG
  generalize g.c = c at *
  generalize g.width = w at *
  have hw : w = 2 ∨ w = 3 ∨ w = 4 ∨ w = 5 ∨ w = 6 ∨ w = 7 := by omega
  rcases hc with rfl | rfl | rfl <;> rcases hw with rfl | rfl | rfl | rfl | rfl | rfl <;> omega
section
variable (g : Geo) (a row k : Int)
theorem in_place : F_place_in [g.D, .int .i64 row] = some (.bool (fineP g row)) := by
  unfold Geo.D
  rw [F_place_in_eq]
  unfold g_place_in
  rw [check_geom]
  unfold fineP Geo.ok
  cases validG g.l g.d g.c <;> simp [brK_eq] <;> (by_cases h : 0 ≤ row <;> simp [h])
theorem fine_ref : F_wattleref01_fine [g.D, .int .i64 row] = some (.bool (fineP g row)) := by
  unfold Geo.D
  rw [F_wattleref01_fine_eq]
  unfold g_wattleref01_fine
  rw [check_ref]
  unfold fineP Geo.ok
  cases validG g.l g.d g.c <;> simp [brK_eq] <;> (by_cases h : 0 ≤ row <;> simp [h])
theorem par_place : F_place_Parity [g.D, .int .i64 row] = some (.tup [iD (parP g row).1, iD (parP g row).2]) := by
  have hi := in_place g row
  unfold Geo.D at *
  rw [F_place_Parity_eq]
  unfold g_place_Parity
  rw [hi]
  unfold parP
  cases h : fineP g row
  · simp [brK_eq]
  · obtain ⟨hk, h0, h1⟩ := fine_iff.1 h
    have hd := ok_d hk
    have hv := div_c hk h0
    have hp := par_in hk row
    have w1 : IntKind.i64.wrap (g.d - 1) = g.d - 1 := wrap_fit (by omega) (by omega)
    have w2 : IntKind.i64.wrap (row.tdiv g.c) = row / g.c := by rw [tdiv_c hk h0]; exact wrap_fit (by omega) (by omega)
    have w3 : IntKind.i64.wrap (g.d - 1 - (row / g.c).tmod g.d) = parA g row := by rw [tmod_n hv.1]; exact wrap_fit (by unfold parA at hp; omega) (by unfold parA at hp; omega)
    have w4 : IntKind.i64.wrap (parA g row + 1) = parA g row + 1 := wrap_fit (by omega) (by omega)
    have t4 : (parA g row + 1).tmod g.d = (parA g row + 1) % g.d := tmod_n (by omega)
    by_cases h5 : g.l = 5
    · simp [brK_eq, show g.c ≠ 0 by omega, show g.d ≠ 0 by omega, w1, w2, w3, h5]
    · simp [brK_eq, show g.c ≠ 0 by omega, show g.d ≠ 0 by omega, w1, w2, w3, h5, w4, t4]
theorem par_ref : F_wattleref01_Parity [g.D, .int .i64 row] = some (.tup [iD (parP g row).1, iD (parP g row).2]) := by
  have hi := fine_ref g row
  unfold Geo.D at *
  rw [F_wattleref01_Parity_eq]
  unfold g_wattleref01_Parity
  rw [hi]
  unfold parP
  cases h : fineP g row
  · simp [brK_eq]
  · obtain ⟨hk, h0, h1⟩ := fine_iff.1 h
    have hd := ok_d hk
    have hv := div_c hk h0
    have hp := par_in hk row
    have w1 : IntKind.i64.wrap (g.d - 1) = g.d - 1 := wrap_fit (by omega) (by omega)
    have w2 : IntKind.i64.wrap (row.tdiv g.c) = row / g.c := by rw [tdiv_c hk h0]; exact wrap_fit (by omega) (by omega)
    have w3 : IntKind.i64.wrap (g.d - 1 - (row / g.c).tmod g.d) = parA g row := by rw [tmod_n hv.1]; exact wrap_fit (by unfold parA at hp; omega) (by unfold parA at hp; omega)
    have w4 : IntKind.i64.wrap (parA g row + 1) = parA g row + 1 := wrap_fit (by omega) (by omega)
    have t4 : (parA g row + 1).tmod g.d = (parA g row + 1) % g.d := tmod_n (by omega)
    by_cases h5 : g.l = 5
    · simp [brK_eq, show g.c ≠ 0 by omega, show g.d ≠ 0 by omega, w1, w2, w3, h5]
    · simp [brK_eq, show g.c ≠ 0 by omega, show g.d ≠ 0 by omega, w1, w2, w3, h5, w4, t4]
theorem disk_place : F_place_Disk [g.D, .int .i64 row, .int .i64 k] = some (iD (diskP g row k)) := by
  have hi := in_place g row
  have hp := par_place g row
  unfold Geo.D at *
  rw [F_place_Disk_eq]
  unfold g_place_Disk
  rw [hi, hp, width_geo, budget_geom]
  unfold diskP
  cases h : fineP g row
  · simp [brK_eq]
  · obtain ⟨hk, h0, h1⟩ := fine_iff.1 h
    have hd := ok_d hk
    have hw := width_ok hk
    have hb := budget_of hk
    have hl := ok_iff.1 hk
    have hpa := par_in hk row
    by_cases k0 : k < 0
    · simp [brK_eq, k0, show ¬ 0 ≤ k by omega]
    · by_cases k1 : g.width ≤ k
      · simp [brK_eq, k0, k1, show ¬ k < g.width by omega]
      · have w1 : IntKind.i64.wrap (parA g row + (g.l - 4)) = parA g row + (g.l - 4) := wrap_fit (by omega) (by omega)
        have w2 : IntKind.i64.wrap (parA g row + (g.l - 4) + k) = parA g row + (g.l - 4) + k := wrap_fit (by omega) (by omega)
        have t2 : (parA g row + (g.l - 4) + k).tmod g.d = (parA g row + (g.l - 4) + k) % g.d := tmod_n (by omega)
        have hp1 : (parP g row).1 = parA g row := by unfold parP; simp [h]
        simp [brK_eq, k0, k1, show 0 ≤ k by omega, show k < g.width by omega, hb, hp1, w1, w2, t2, show g.d ≠ 0 by omega]
theorem disk_ref : F_wattleref01_Disk [g.D, .int .i64 row, .int .i64 k] = some (iD (diskP g row k)) := by
  have hi := fine_ref g row
  have hp := par_ref g row
  unfold Geo.D at *
  rw [F_wattleref01_Disk_eq]
  unfold g_wattleref01_Disk
  rw [hi, hp, width_geoR, budget_ref]
  unfold diskP
  cases h : fineP g row
  · simp [brK_eq]
  · obtain ⟨hk, h0, h1⟩ := fine_iff.1 h
    have hd := ok_d hk
    have hw := width_ok hk
    have hb := budget_of hk
    have hl := ok_iff.1 hk
    have hpa := par_in hk row
    by_cases k0 : k < 0
    · simp [brK_eq, k0, show ¬ 0 ≤ k by omega]
    · by_cases k1 : g.width ≤ k
      · simp [brK_eq, k0, k1, show ¬ k < g.width by omega]
      · have w1 : IntKind.i64.wrap (parA g row + (g.l - 4)) = parA g row + (g.l - 4) := wrap_fit (by omega) (by omega)
        have w2 : IntKind.i64.wrap (parA g row + (g.l - 4) + k) = parA g row + (g.l - 4) + k := wrap_fit (by omega) (by omega)
        have t2 : (parA g row + (g.l - 4) + k).tmod g.d = (parA g row + (g.l - 4) + k) % g.d := tmod_n (by omega)
        have hp1 : (parP g row).1 = parA g row := by unfold parP; simp [h]
        simp [brK_eq, k0, k1, show 0 ≤ k by omega, show k < g.width by omega, hb, hp1, w1, w2, t2, show g.d ≠ 0 by omega]
theorem of_place : F_place_Of [g.D, .int .i64 a] = some (ofD (ofP g a)) := by
  have hdk := fun row k => disk_place g row k
  unfold Geo.D at *
  rw [F_place_Of_eq]
  unfold g_place_Of
  rw [width_geo, cap_geo]
  unfold ofP ofD
  by_cases h0 : a < 0
  · simp [brK_eq, h0, show ¬ 0 ≤ a by omega]
  · by_cases h1 : g.cap ≤ a
    · simp [brK_eq, h0, h1, show ¬ a < g.cap by omega]
    · have h0 : 0 ≤ a := by omega
      have h1 : a < g.cap := by omega
      have hk := cap_ok h0 h1
      have hd := ok_d hk
      have hw := width_ok hk
      have hv := div_c hk h0
      have hr := row_fine h0 h1
      have hca : g.cap = g.width * 16 := rfl
      have hvw : a / g.c / g.width ≤ a / g.c := Int.ediv_le_self _ hv.1
      have w1 : IntKind.i64.wrap (a.tdiv g.c) = a / g.c := by rw [tdiv_c hk h0]; exact wrap_fit (by omega) (by omega)
      have w2 : IntKind.i64.wrap ((a / g.c).tdiv g.width) = a / g.c / g.width := by rw [Int.tdiv_eq_ediv_of_nonneg hv.1]; exact wrap_fit (by omega) (by omega)
      have hm : 0 ≤ a / g.c / g.width * g.c := Int.mul_nonneg hr.2.2.1 (by omega)
      have w3 : IntKind.i64.wrap (a / g.c / g.width * g.c) = a / g.c / g.width * g.c := wrap_fit (by omega) (by omega)
      have w4 : IntKind.i64.wrap (a / g.c / g.width * g.c + a.tmod g.c) = rowG g a := by rw [tmod_n h0]; exact wrap_fit (by omega) (by omega)
      have t5 : (a / g.c).tmod g.width = colOf g a := tmod_n hv.1
      simp [brK_eq, h0, h1, show ¬ a < 0 by omega, show ¬ g.cap ≤ a by omega, w1, w2, w3, w4, t5, show g.c ≠ 0 by omega, show g.width ≠ 0 by omega, hdk]
end
section
variable (l d c a row k : Int)
theorem par_place' : F_place_Parity [gD l d c, .int .i64 row] = some (.tup [iD (parP ⟨l, d, c⟩ row).1, iD (parP ⟨l, d, c⟩ row).2]) := par_place ⟨l, d, c⟩ row
theorem par_ref' : F_wattleref01_Parity [gD l d c, .int .i64 row] = some (.tup [iD (parP ⟨l, d, c⟩ row).1, iD (parP ⟨l, d, c⟩ row).2]) := par_ref ⟨l, d, c⟩ row
theorem disk_place' : F_place_Disk [gD l d c, .int .i64 row, .int .i64 k] = some (iD (diskP ⟨l, d, c⟩ row k)) := disk_place ⟨l, d, c⟩ row k
theorem disk_ref' : F_wattleref01_Disk [gD l d c, .int .i64 row, .int .i64 k] = some (iD (diskP ⟨l, d, c⟩ row k)) := disk_ref ⟨l, d, c⟩ row k
theorem of_place' : F_place_Of [gD l d c, .int .i64 a] = some (.tup [iD (ofP ⟨l, d, c⟩ a).1, iD (ofP ⟨l, d, c⟩ a).2.1, .bool (ofP ⟨l, d, c⟩ a).2.2]) := of_place ⟨l, d, c⟩ a
end
/-- The first `n` numbers of row `row`. -/
def numD (g : Geo) (row : Int) (n : Nat) : List D := (List.range n).map fun (j : Nat) => iD (numP g row (j : Int))
def numsD (g : Geo) (row : Int) : List D := if fineP g row then numD g row g.width.toNat else []
/-- Which of a row's disks holds what. -/
def colBack (g : Geo) (disk row : Int) : Int := (disk - parA g row - (g.l - 4) + 2 * g.d) % g.d
def backP (g : Geo) (disk row : Int) : Int × Int × Bool :=
  if fineP g row ∧ 0 ≤ disk ∧ disk < g.d then
    (if disk = (parP g row).1 then (1, 0, true) else if disk = (parP g row).2 then (2, 0, true)
      else (0, numP g row (colBack g disk row), true))
  else (0, 0, false)
theorem numD_zero (g : Geo) (row : Int) : numD g row 0 = [] := rfl
theorem numD_succ (g : Geo) (row : Int) (n : Nat) : numD g row (n + 1) = numD g row n ++ [iD (numP g row (n : Int))] := by
  unfold numD; rw [List.range_succ, List.map_append]; rfl
theorem numD_len (g : Geo) (row : Int) (n : Nat) : (numD g row n).length = n := by unfold numD; simp
theorem numD_free (g : Geo) (row : Int) (n : Nat) : (numD g row n).all D.free = true := by
  unfold numD; rw [List.all_eq_true]; intro x hx; obtain ⟨j, _, rfl⟩ := List.mem_map.1 hx; rfl
theorem numD_get (g : Geo) (row : Int) (n : Nat) {i : Nat} (h : i < n) : (numD g row n)[i]? = some (iD (numP g row (i : Int))) := by
  unfold numD; simp [h]
theorem num_fit {g : Geo} {row k : Int} (hk : g.ok = true) (h0 : 0 ≤ row) (h1 : row < 16) (k0 : 0 ≤ k) (k1 : k ≤ 8) :
    IntKind.i64.wrap (row.tdiv g.c) = row / g.c ∧ IntKind.i64.wrap (row / g.c * g.width) = row / g.c * g.width ∧ IntKind.i64.wrap (row / g.c * g.width + k) = row / g.c * g.width + k ∧
    IntKind.i64.wrap ((row / g.c * g.width + k) * g.c) = (row / g.c * g.width + k) * g.c ∧ IntKind.i64.wrap ((row / g.c * g.width + k) * g.c + row.tmod g.c) = numP g row k := by
  have hw := width_ok hk
  have hc := (ok_iff.1 hk).2.2
  rw [tdiv_c hk h0, tmod_n h0]
  unfold numP
  generalize g.c = c at *
  generalize g.width = w at *
  have hw : w = 2 ∨ w = 3 ∨ w = 4 ∨ w = 5 ∨ w = 6 ∨ w = 7 := by omega
  rcases hc with rfl | rfl | rfl <;> rcases hw with rfl | rfl | rfl | rfl | rfl | rfl <;>
    exact ⟨wrap_fit (by omega) (by omega), wrap_fit (by omega) (by omega), wrap_fit (by omega) (by omega), wrap_fit (by omega) (by omega), wrap_fit (by omega) (by omega)⟩
theorem num_in {g : Geo} {row k : Int} (hk : g.ok = true) (h0 : 0 ≤ row) (h1 : row < 16) (k0 : 0 ≤ k) (k1 : k < g.width) : 0 ≤ numP g row k ∧ numP g row k < g.cap := by
  have hw := width_ok hk
  have hc := (ok_iff.1 hk).2.2
  rw [cap_of]
  unfold numP
  generalize g.c = c at *
  generalize g.width = w at *
  have hw : w = 2 ∨ w = 3 ∨ w = 4 ∨ w = 5 ∨ w = 6 ∨ w = 7 := by omega
  rcases hc with rfl | rfl | rfl <;> rcases hw with rfl | rfl | rfl | rfl | rfl | rfl <;> omega
section
variable (g : Geo) (row k : Int)
theorem number_place (h : fineP g row = true) (k0 : 0 ≤ k) (k1 : k ≤ 8) : F_place_number [gD g.l g.d g.c, .int .i64 row, .int .i64 k] = some (iD (numP g row k)) := by
  obtain ⟨hk, h0, h1⟩ := fine_iff.1 h
  obtain ⟨w1, w2, w3, w4, w5⟩ := num_fit hk h0 h1 k0 k1
  have hd := ok_d hk
  rw [F_place_number_eq]
  unfold g_place_number
  rw [width_geo]
  simp [show g.c ≠ 0 by omega, w1, w2, w3, w4, w5]
theorem nums_place : F_place_Numbers [g.D, .int .i64 row] = some (.sl .own (numsD g row)) := by
  have hi := in_place g row
  unfold Geo.D at *
  rw [F_place_Numbers_eq]
  unfold g_place_Numbers
  rw [hi, width_geo]
  unfold numsD
  cases h : fineP g row
  · simp [brK_eq]
  · obtain ⟨hk, h0, h1⟩ := fine_iff.1 h
    have hw := width_ok hk
    simp only [bindK_some_eq, asB_bool, brK_eq, iD, asI_int, Bool.not_true, Bool.false_eq_true, if_false, if_true]
    refine loopN_spec (fun a => (g.width - a.1.2.2.2.2.1).toNat) (fun _ => some (D.sl Tag.own (numD g row g.width.toNat))) (fun a => ∃ n : Nat, n ≤ g.width ∧
      a = ((row, (g.l, g.d, g.c, PUnit.unit), numD g row n, g.width, (n : Int), PUnit.unit), PUnit.unit)) ?_ ⟨0, by omega, rfl⟩ ?_
    rotate_left
    · simp; omega
    rintro again _ ⟨n, hn, rfl⟩ ih
    dsimp only
    by_cases hl : (n : Int) < g.width
    · have := ih _ ⟨n + 1, by omega, rfl⟩ (by dsimp only; omega)
      have wn : IntKind.i64.wrap ((n : Int) + 1) = (n : Int) + 1 := wrap_fit (by omega) (by omega)
      rw [numD_succ] at this
      simp [hl, number_place g row n h (by omega) (by omega), numD_len, wn, show n + 1 ≤ 4294967296 by omega]
      simpa using this
    · have hnw : g.width.toNat = n := by omega
      simp only [hl, decide_false, hnw, Bool.false_eq_true, if_false]
      simp [numD_len, numD_free]
theorem nums_ref : F_wattleref01_Numbers [g.D, .int .i64 row] = some (.sl .own (numsD g row)) := by
  have hi := fine_ref g row
  unfold Geo.D at *
  rw [F_wattleref01_Numbers_eq]
  unfold g_wattleref01_Numbers
  rw [hi]
  unfold numsD
  cases h : fineP g row
  · simp [brK_eq]
  · obtain ⟨hk, h0, h1⟩ := fine_iff.1 h
    have hw := width_ok hk
    have hd := ok_d hk
    simp only [bindK_some_eq, asB_bool, brK_eq, iD, asI_int, Bool.not_true, Bool.false_eq_true, if_false, if_true]
    refine loopN_spec (fun a => (g.width - a.1.2.2.2.1).toNat) (fun _ => some (D.sl Tag.own (numD g row g.width.toNat))) (fun a => ∃ n : Nat, n ≤ g.width ∧
      a = ((row, (g.l, g.d, g.c, PUnit.unit), numD g row n, (n : Int), PUnit.unit), PUnit.unit)) ?_ ⟨0, by omega, rfl⟩ ?_
    rotate_left
    · simp; omega
    rintro again _ ⟨n, hn, rfl⟩ ih
    dsimp only
    rw [width_geoR]
    by_cases hl : (n : Int) < g.width
    · have := ih _ ⟨n + 1, by omega, rfl⟩ (by dsimp only; omega)
      have wn : IntKind.i64.wrap ((n : Int) + 1) = (n : Int) + 1 := wrap_fit (by omega) (by omega)
      obtain ⟨w1, w2, w3, w4, w5⟩ := num_fit hk h0 h1 (show 0 ≤ (n : Int) by omega) (by omega)
      rw [numD_succ] at this
      simp [hl, w1, w2, w3, w4, w5, numD_len, wn, show n + 1 ≤ 4294967296 by omega, show g.c ≠ 0 by omega]
      simpa using this
    · have hnw : g.width.toNat = n := by omega
      simp only [hl, decide_false, hnw, Bool.false_eq_true, if_false, bindK_some_eq, iD, asI_int]
      simp [numD_len, numD_free]
end
section
variable (l d c row k : Int)
theorem nums_place' : F_place_Numbers [gD l d c, .int .i64 row] = some (.sl .own (numsD ⟨l, d, c⟩ row)) := nums_place ⟨l, d, c⟩ row
theorem nums_ref' : F_wattleref01_Numbers [gD l d c, .int .i64 row] = some (.sl .own (numsD ⟨l, d, c⟩ row)) := nums_ref ⟨l, d, c⟩ row
end
theorem disk_at {g : Geo} {row k : Int} (h : fineP g row = true) (k0 : 0 ≤ k) (k1 : k < g.width) : diskP g row k = (parA g row + (g.l - 4) + k) % g.d := by
  unfold diskP; rw [if_pos ⟨h, k0, k1⟩]
theorem disk_in {g : Geo} {row k : Int} (h : fineP g row = true) (k0 : 0 ≤ k) (k1 : k < g.width) : 0 ≤ diskP g row k ∧ diskP g row k < g.d := by
  rw [disk_at h k0 k1]; exact mod_d (fine_iff.1 h).1 _
theorem disk_par {g : Geo} {row k : Int} (h : fineP g row = true) (k0 : 0 ≤ k) (k1 : k < g.width) : diskP g row k ≠ (parP g row).1 ∧ diskP g row k ≠ (parP g row).2 := by
  have hk := (fine_iff.1 h).1
  have hd := disk_in h k0 k1
  rw [disk_at h k0 k1] at *
  have hp := par_in hk row
  have hl := ok_iff.1 hk
  rw [width_of hk] at k1
  unfold parP
  rw [if_pos h]
  simp only
  generalize parA g row = p at *
  have hdc : g.d = 3 ∨ g.d = 4 ∨ g.d = 5 ∨ g.d = 6 ∨ g.d = 7 ∨ g.d = 8 := by omega
  generalize g.d = d at *
  generalize g.l = l at *
  have hl5 : l = 5 ∨ l = 6 := by omega
  rcases hl5 with rfl | rfl
  · simp; rcases hdc with rfl | rfl | rfl | rfl | rfl | rfl <;> omega
  · simp; rcases hdc with rfl | rfl | rfl | rfl | rfl | rfl <;> omega
theorem disk_once {g : Geo} {row j k : Int} (h : fineP g row = true) (j0 : 0 ≤ j) (j1 : j < g.width) (k0 : 0 ≤ k) (k1 : k < g.width) (e : diskP g row j = diskP g row k) : j = k := by
  have hk := (fine_iff.1 h).1
  rw [disk_at h k0 k1, disk_at h j0 j1] at e
  have hp := par_in hk row
  have hl := ok_iff.1 hk
  rw [width_of hk] at k1 j1
  generalize parA g row = p at *
  have hdc : g.d = 3 ∨ g.d = 4 ∨ g.d = 5 ∨ g.d = 6 ∨ g.d = 7 ∨ g.d = 8 := by omega
  generalize g.d = d at *
  generalize g.l = l at *
  rcases hdc with rfl | rfl | rfl | rfl | rfl | rfl <;> omega
theorem of_num {g : Geo} {row k : Int} (h : fineP g row = true) (k0 : 0 ≤ k) (k1 : k < g.width) : ofP g (numP g row k) = (diskP g row k, row, true) := by
  obtain ⟨hk, h0, h1⟩ := fine_iff.1 h
  obtain ⟨n0, n1⟩ := num_in hk h0 h1 k0 k1
  have : rowG g (numP g row k) = row ∧ colOf g (numP g row k) = k := by
    have hw := width_ok hk
    have hc := (ok_iff.1 hk).2.2
    unfold rowG colOf numP
    generalize g.c = c at *
    generalize g.width = w at *
    have hw : w = 2 ∨ w = 3 ∨ w = 4 ∨ w = 5 ∨ w = 6 ∨ w = 7 := by omega
    rcases hc with rfl | rfl | rfl <;> rcases hw with rfl | rfl | rfl | rfl | rfl | rfl <;> omega
  unfold ofP
  rw [if_pos ⟨n0, n1⟩, this.1, this.2]
theorem findD_append (m n : Int) (y : D) (es : List (Int × D)) : findD m (es ++ [(n, y)]) = if (findD m es).isSome then findD m es else if m = n then some y else none := by
  induction es with
  | nil => simp [findD]
  | cons e es ih =>
    obtain ⟨a, u⟩ := e
    simp only [List.cons_append, findD]
    by_cases h : m = a
    · simp [h]
    · simp only [h, if_false]; exact ih
theorem setD_new {n : Int} {y : D} {es : List (Int × D)} (h : findD n es = none) : setD n y es = es ++ [(n, y)] := by
  induction es with
  | nil => rfl
  | cons e es ih =>
    obtain ⟨a, u⟩ := e
    simp only [findD] at h
    by_cases h1 : n = a
    · simp [h1] at h
    · simp only [h1, if_false] at h
      simp [setD, h1, ih h]

end Wf

/-
  Bytes, plainly.
-/
namespace Wf
open Go Go.RowKit Go.Proofs
set_option linter.unusedSimpArgs false
set_option linter.unusedVariables false

/-- A list of bytes. -/
def uL (l : List Int) : List D := l.map (D.int .u8)
theorem uL_lent (l : List Int) : D.lentL (uL l) = uL l := by
  induction l with
  | nil => rfl
  | cons n l ih => unfold uL at *; simp [ih]
@[simp] theorem uL_len (l : List Int) : (uL l).length = l.length := by simp [uL]
theorem uL_get {l : List Int} {j : Nat} {n : Int} (h : l[j]? = some n) : (uL l)[j]? = some (.int .u8 n) := by simp [uL, h]
theorem uL_all {p : D → Bool} (h : ∀ n, p (.int .u8 n) = true) (l : List Int) : (uL l).all p = true := by
  simp [uL, List.all_eq_true]; intro n _; exact h n
@[simp] theorem uL_free (l : List Int) : (uL l).all D.free = true := uL_all (fun _ => rfl) l
@[simp] theorem uL_flat (l : List Int) : (uL l).all D.flat = true := uL_all (fun _ => rfl) l
@[simp] theorem uL_flats (l : List Int) : flats (uL l) = true := uL_all (fun _ => rfl) l
@[simp] theorem uL_flatEls (l : List Int) : flatEls (uL l) = true := uL_all (fun _ => rfl) l
@[simp] theorem uL_cells (l : List Int) : cells (uL l) = true := uL_all (fun _ => rfl) l
@[simp] theorem uL_okEls (l : List Int) : okEls 1 (uL l) = true := uL_all (fun _ => rfl) l
@[simp] theorem uL_okElsW (l : List Int) : okElsW 1 (uL l) = true := uL_all (fun _ => rfl) l
@[simp] theorem uL_freeL (l : List Int) : D.freeL (uL l) = true := by rw [freeL_all]; exact uL_free l
@[simp] theorem uL_append (a b : List Int) : uL (a ++ b) = uL a ++ uL b := by simp [uL]
theorem uL_snoc (a : List Int) (n : Int) : uL a ++ [.int .u8 n] = uL (a ++ [n]) := by simp [uL]
theorem uL_take (n : Nat) (a : List Int) : (uL a).take n = uL (a.take n) := by simp [uL, List.map_take]
theorem uL_drop (n : Nat) (a : List Int) : (uL a).drop n = uL (a.drop n) := by simp [uL, List.map_drop]
theorem uL_set (a : List Int) (i : Nat) (n : Int) : (uL a).set i (.int .u8 n) = uL (a.set i n) := by simp [uL, List.map_set]
theorem uL_rep (n : Nat) (k : Int) : List.replicate n (D.int .u8 k) = uL (List.replicate n k) := by simp [uL]
theorem uL_inj {a b : List Int} (h : uL a = uL b) : a = b := by
  unfold uL at h
  exact (List.map_inj_right (by intro x y h; injection h)).1 h

theorem within' (a n : Int) (h : 1 ≤ n) (h9 : n < 1000000000) : F_wattlekeep_Within [.int .i64 a, .int .i64 n] = some (.int .i64 (a % n)) := within a n h h9
/-- The same bytes? -/
theorem same_byte (t t' : Tag) (l m : List Int) (hl : l.length < 1000000000) : F_wattlekeep_Same_byte [.sl t (uL l), .sl t' (uL m)] = some (.bool (decide (l = m))) := by
  rw [F_wattlekeep_Same_byte_eq, uL_lent, uL_lent]
  unfold g_wattlekeep_Same_byte
  by_cases hlen : l.length = m.length
  · simp only [uL_len, hlen, bne_self_eq_false, brK_false]
    refine loopN_spec (fun a => (m.length : Int).toNat - a.1.2.2.1.toNat) (fun _ => some (D.bool (decide (l = m))))
      (fun a => ∃ k : Nat, k ≤ m.length ∧ l.take k = m.take k ∧ a = ((uL l, uL m, (k : Int), PUnit.unit), PUnit.unit)) ?_ ⟨0, by omega, by simp, rfl⟩ (by simp; omega)
    rintro again _ ⟨k, hk, he, rfl⟩ hag
    dsimp only
    rw [uL_len, hlen]
    by_cases hkm : k < m.length
    · have h1 : l[k]? = some l[k] := List.getElem?_eq_getElem (by omega)
      have h2 : m[k]? = some m[k] := List.getElem?_eq_getElem hkm
      have hd : decide ((k : Int) < (m.length : Int)) = true := by simp; omega
      rw [hd, brK_true, sif_pos (by omega), getK_of (by simpa using uL_get h1), asI_int, sif_pos (by omega), getK_of (by simpa using uL_get h2), asI_int]
      by_cases hx : l[k] = m[k]
      · have hb : (l[k] != m[k]) = false := by simp [hx]
        rw [hb, brK_false, letN_eq, wrap_fit (by omega) (by omega)]
        exact hag _ ⟨k + 1, by omega, by rw [List.take_add_one, List.take_add_one, he, h1, h2, hx], rfl⟩ (by simp; omega)
      · have hb : (l[k] != m[k]) = true := by simp [hx]
        rw [hb, brK_true]
        congr 2
        symm
        simp
        intro e
        subst e
        exact hx rfl
    · have hd : decide ((k : Int) < (m.length : Int)) = false := by simp; omega
      rw [hd, brK_false]
      have : l = m := by
        have e1 : l.take k = l := List.take_of_length_le (by omega)
        have e2 : m.take k = m := List.take_of_length_le (by omega)
        rw [← e1, ← e2, he]
      simp [this]
  · have hb : ((l.length : Int) != (m.length : Int)) = true := by simp; omega
    simp only [uL_len, hb, brK_true]
    congr 2
    symm
    simp
    intro e; subst e; exact hlen rfl

/-- A sector: 32 bytes. -/
structure Sec (l : List Int) : Prop where
  len : l.length = 32
  byt : ∀ n ∈ l, 0 ≤ n ∧ n < 256
theorem wrap_byte (n : Int) : 0 ≤ IntKind.u8.wrap n ∧ IntKind.u8.wrap n < 256 := by
  have e : IntKind.u8.wrap n = n % 256 := by simp [IntKind.wrap, IntKind.bits, IntKind.signed]
  rw [e]; omega
theorem zeros_sec : Sec (List.replicate 32 0) := ⟨by simp, fun n h => by rw [(List.mem_replicate.1 h).2]; omega⟩
def byteAt (n : Int) (i : Nat) : Int := IntKind.u8.wrap (IntKind.i64.wrap (n + IntKind.i64.wrap ((i : Int) * bits .or .i64 (IntKind.i64.wrap (n.tdiv 7)) 1)))
/-- The sector of a number. -/
def secN (n : Int) : List Int := if n % 11 = 10 then List.replicate 32 0 else (List.range 32).map (byteAt n)
theorem secN_sec (n : Int) : Sec (secN n) := by
  unfold secN
  split
  · exact zeros_sec
  · refine ⟨by simp, fun x h => ?_⟩
    obtain ⟨i, _, rfl⟩ := List.mem_map.1 h
    exact wrap_byte _
theorem sector_play (n : Int) : F_wattleplay_Sector [.int .i64 n] = some (.sl .own (uL (secN n))) := by
  rw [F_wattleplay_Sector_eq]
  unfold g_wattleplay_Sector
  rw [within' n 11 (by omega) (by omega), bindK_some_eq, asI_int]
  unfold secN
  by_cases h : n % 11 = 10
  · rw [if_pos h]; simp [h]; rfl
  · rw [if_neg h]
    have hb : (n % 11 == 10) = false := by simp [h]
    rw [hb, brK_false]
    have := count_loop (R := D) (α := (Int × List D × Int × Int × PUnit) × PUnit)
      (fun k => ((n, uL ((List.range 32).map fun i => if i < k then byteAt n i else 0), 32, (k : Int), PUnit.unit), PUnit.unit)) 32 (by omega)
      (B := ?B) (r := some (.sl .own (uL ((List.range 32).map (byteAt n))))) ?_ ?_
    · exact this
    · intro again k hk
      dsimp only
      have hd : decide ((k : Int) < 32) = true := by simp; omega
      have hg : ((List.range 32).map fun i => if i < k then byteAt n i else 0)[k]? = some 0 := by simp [hk]
      have hv : byteAt n k = IntKind.u8.wrap (IntKind.i64.wrap (n + IntKind.i64.wrap ((k : Int) * bits .or .i64 (IntKind.i64.wrap (n.tdiv 7)) 1))) := rfl
      rw [hd, brK_true, letN_eq, letN_eq, letN_eq, letN_eq, letN_eq, ← hv, sif_pos (by omega), sif_pos (by simp; omega), getK_of (by simpa using uL_get hg)]
      rw [sif_pos (by rfl), letN_eq, wrap_fit (n := (k : Int) + 1) (by omega) (by omega), sif_pos (by simp)]
      have : (uL ((List.range 32).map fun i => if i < k then byteAt n i else 0)).set (0 + Int.toNat (k : Int)) (.int .u8 (byteAt n k)) = uL ((List.range 32).map fun i => if i < k + 1 then byteAt n i else 0) := by
        rw [uL_set]
        congr 1
        apply List.ext_getElem?
        intro j
        rw [List.getElem?_set]
        by_cases hj : j < 32
        · by_cases hjk : k = j
          · subst hjk; simp [hj]
          · have : (0 + Int.toNat (k : Int)) ≠ j := by simp; exact hjk
            rw [if_neg this]
            simp [hj]
            by_cases h1 : j < k
            · rw [if_pos h1, if_pos (by omega)]
            · rw [if_neg h1, if_neg (by omega)]
        · simp [hj]
          omega
      rw [this]
      rfl
    · intro again
      have e : ((List.range 32).map fun i => if i < 32 then byteAt n i else 0) = (List.range 32).map (byteAt n) := by
        apply List.map_congr_left; intro i hi; rw [if_pos (List.mem_range.1 hi)]
      dsimp only
      rw [e]
      simp
end Wf

/-
  Disks, plainly.
-/
namespace Wf
open Go Go.RowKit Go.Proofs
set_option linter.unusedSimpArgs false
set_option linter.unusedVariables false

structure DS where
  l : List Int
  pend : List (Int × List Int)
  failed : Bool
def wD (w : Int × List Int) : D := .agg (.int .i64 w.1 :: uL w.2)
def DS.cells (s : DS) : List D := uL s.l ++ [.sl .own (s.pend.map wD), .bool s.failed]
structure DS.Ok (s : DS) : Prop where
  len : s.l.length = 1664
  byt : ∀ n ∈ s.l, 0 ≤ n ∧ n < 256
  pend : ∀ w ∈ s.pend, Sec w.2

theorem getCells_w {R : Type} (a : Int) {b : List Int} (h : b.length = 32) (f : LfT [.int .i64, .arr 32] → Option R) : getCells [.int .i64, .arr 32] (.int .i64 a :: uL b) f = f (a, uL b, ()) := by
  have e1 : (uL b).take 32 = uL b := List.take_of_length_le (by simp [h])
  have e2 : (uL b).drop 32 = [] := List.drop_of_length_le (by simp [h])
  simp [getCells, getCells0, Lf.get, h, e1, e2]
theorem getCells_s {R : Type} {b : List Int} (h : b.length = 32) (f : LfT [.arr 32] → Option R) : getCells [.arr 32] (uL b) f = f (uL b, ()) := by
  have e1 : (uL b).take 32 = uL b := List.take_of_length_le (by simp [h])
  have e2 : (uL b).drop 32 = [] := List.drop_of_length_le (by simp [h])
  simp [getCells, getCells0, Lf.get, h, e1, e2]

section
variable {s : DS}
theorem ds_pend (h : s.l.length = 1664) : s.cells[1664]? = some (.sl .own (s.pend.map wD)) := by
  unfold DS.cells
  rw [List.getElem?_append_right (by simp [h])]; simp [h]
theorem ds_failed (h : s.l.length = 1664) : s.cells[1665]? = some (.bool s.failed) := by
  unfold DS.cells
  rw [List.getElem?_append_right (by simp [h])]; simp [h]
theorem ds_len (h : s.l.length = 1664) : s.cells.length = 1666 := by simp [DS.cells, h]
def DS.base (s : DS) (a : Nat) : List Int := (s.l.drop (a * 32)).take 32
theorem base_sec (h : s.Ok) {a : Nat} (ha : a < 52) : Sec (s.base a) := by
  refine ⟨by unfold DS.base; simp [h.len]; omega, fun n hn => h.byt n (List.mem_of_mem_drop (List.mem_of_mem_take hn))⟩
theorem ds_base (h : s.l.length = 1664) {a : Nat} (ha : a < 52) : (s.cells.drop (a * 32)).take 32 = uL (s.base a) := by
  unfold DS.cells DS.base
  rw [List.drop_append_of_le_length (by simp [h]; omega), List.take_append_of_le_length (by simp [h]; omega), uL_drop, uL_take]
def DS.setSec (s : DS) (a : Nat) (b : List Int) : DS := { s with l := s.l.take (a * 32) ++ b ++ s.l.drop (a * 32 + 32) }
theorem ds_set (h : s.l.length = 1664) {a : Nat} (ha : a < 52) (b : List Int) : s.cells.take (a * 32) ++ uL b ++ s.cells.drop (a * 32 + 32) = (s.setSec a b).cells := by
  unfold DS.cells DS.setSec
  rw [List.take_append_of_le_length (by simp [h]; omega), List.drop_append_of_le_length (by simp [h]; omega), uL_take, uL_drop]
  simp [uL]
theorem ds_setPend (h : s.l.length = 1664) (p : List (Int × List Int)) : s.cells.take 1664 ++ [.sl .own (p.map wD)] ++ s.cells.drop 1665 = ({ s with pend := p } : DS).cells := by
  unfold DS.cells
  rw [List.take_append_of_le_length (by simp [h]), List.take_of_length_le (by simp [h]), List.drop_append, List.drop_of_length_le (by simp [h])]
  simp [h]
theorem setSec_len (h : s.l.length = 1664) {a : Nat} (ha : a < 52) {b : List Int} (hb : b.length = 32) : (s.setSec a b).l.length = 1664 := by
  unfold DS.setSec; simp [h, hb]; omega
theorem setSec_ok (h : s.Ok) {a : Nat} (ha : a < 52) {b : List Int} (hb : Sec b) : (s.setSec a b).Ok := by
  refine ⟨setSec_len h.len ha hb.len, fun n hn => ?_, h.pend⟩
  unfold DS.setSec at hn
  simp only [List.mem_append] at hn
  rcases hn with (hn | hn) | hn
  · exact h.byt n (List.mem_of_mem_take hn)
  · exact hb.byt n hn
  · exact h.byt n (List.mem_of_mem_drop hn)
theorem setSec_base (h : s.l.length = 1664) {a : Nat} (ha : a < 52) {b : List Int} (hb : b.length = 32) (c : Nat) (hc : c < 52) : (s.setSec a b).base c = if c = a then b else s.base c := by
  unfold DS.setSec DS.base
  dsimp only
  have l1 : (s.l.take (a * 32)).length = a * 32 := by simp [h]; omega
  split
  · rename_i e; subst e
    rw [List.append_assoc, List.drop_append, List.drop_of_length_le (by omega), l1]
    simp [hb]
  · rename_i e
    apply List.ext_getElem?
    intro j
    by_cases hj : j < 32
    · rw [List.getElem?_take, List.getElem?_take, if_pos hj, if_pos hj, List.getElem?_drop, List.getElem?_drop]
      by_cases hca : c < a
      · rw [List.append_assoc, List.getElem?_append_left (by omega), List.getElem?_take, if_pos (by omega)]
      · rw [List.getElem?_append_right (by simp [h, hb]; omega), List.getElem?_drop]
        congr 1
        simp [h, hb]; omega
    · rw [List.getElem?_take, List.getElem?_take, if_neg hj, if_neg hj]
end

def DS.may (s : DS) (a : Int) : Int := if s.failed then 5 else if a < 0 ∨ 52 ≤ a then 4 else 0
theorem d_may {T : Tb} {i : Nat} {s : DS} (h : T[i]? = some s.cells) (hs : s.Ok) (a : Int) : F_disk_Disk_may [.h 6561 i 0, .int .i64 a] [T] = some (Ans.mk (.int .i64 (s.may a)) [] []) := by
  rw [F_disk_Disk_may_eq]
  unfold g_disk_Disk_may DS.may
  rw [getK_of h, getK_of (ds_failed hs.len), asB_bool]
  cases hf : s.failed
  · by_cases h0 : a < 0
    · simp [brK_eq, h0]
    · by_cases h1 : 52 ≤ a
      · simp [brK_eq, h0, h1]
      · simp [brK_eq, h0, h1]
  · simp [brK_eq]
theorem d_failed {T : Tb} {i : Nat} {s : DS} (h : T[i]? = some s.cells) (hs : s.Ok) : F_disk_Disk_Failed [.h 6561 i 0] [T] = some (Ans.mk (.bool s.failed) [] []) := by
  rw [F_disk_Disk_Failed_eq]
  unfold g_disk_Disk_Failed
  rw [getK_of h, getK_of (ds_failed hs.len), asB_bool]

def look (p : List (Int × List Int)) (a : Int) (b : List Int) : List Int := p.foldl (fun b w => if w.1 = a then w.2 else b) b
theorem look_nil (a : Int) (b : List Int) : look [] a b = b := rfl
theorem look_take {p : List (Int × List Int)} {a : Int} {b : List Int} {k : Nat} {w : Int × List Int} (h : p[k]? = some w) : look (p.take (k + 1)) a b = if w.1 = a then w.2 else look (p.take k) a b := by
  rw [List.take_add_one, h]; simp [look]
theorem look_len {p : List (Int × List Int)} {a : Int} {b : List Int} (hp : ∀ w ∈ p, w.2.length = 32) (hb : b.length = 32) : (look p a b).length = 32 := by
  induction p generalizing b with
  | nil => exact hb
  | cons w p ih =>
    refine ih (fun w hw => hp w (List.mem_cons_of_mem _ hw)) ?_
    dsimp only
    split
    · exact hp w (List.mem_cons_self ..)
    · exact hb
theorem look_sec {p : List (Int × List Int)} {a : Int} {b : List Int} (hp : ∀ w ∈ p, Sec w.2) (hb : Sec b) : Sec (look p a b) := by
  induction p generalizing b with
  | nil => exact hb
  | cons w p ih =>
    refine ih (fun w hw => hp w (List.mem_cons_of_mem _ hw)) ?_
    dsimp only
    split
    · exact hp w (List.mem_cons_self ..)
    · exact hb
def DS.sec (s : DS) (a : Int) : List Int := look s.pend a (s.base a.toNat)
theorem ds_sec {s : DS} (h : s.Ok) {a : Int} (h0 : 0 ≤ a) (h1 : a < 52) : Sec (s.sec a) := look_sec h.pend (base_sec h (by omega))
def DS.read (s : DS) (a : Int) : List Int × Int := if s.may a ≠ 0 then ([], s.may a) else (s.sec a, 0)

theorem lentL_w (b : List Int) : D.lentL (uL b) = uL b := uL_lent b
theorem clone_bytes {b : List Int} (h : b.length ≤ 4294967296) (tg : Tag) : F_slices_Clone_byte_byte [.sl tg (uL b)] = some (.sl .own (uL b)) := by
  cases b with
  | nil => exact F_slices_Clone_byte_byte_nil tg
  | cons n b =>
    show F_slices_Clone_byte_byte [.sl tg (.int .u8 n :: uL b)] = some (.sl .own (.int .u8 n :: uL b))
    rw [F_slices_Clone_byte_byte_eq, uL_lent]
    unfold g_slices_Clone_byte_byte
    have h1 : (D.lent (.int .u8 n) :: uL b) = uL (n :: b) := by simp [uL]
    rw [h1]
    simp only [uL_len, uL_okEls, uL_free, sif_pos, h]
    simp [uL]
theorem w_len (w : Int × List Int) : D.width (wD w) = w.2.length + 1 := by simp [wD, D.width]
theorem w_free (w : Int × List Int) : (wD w).free = true := by
  simp only [wD, D.free, D.freeL, uL_freeL, Bool.and_self]
theorem w_lent (w : Int × List Int) : (wD w).lent = wD w := by
  simp only [wD, D.lent, D.lentL, uL_lent]
theorem wL_lent (p : List (Int × List Int)) : D.lentL (p.map wD) = p.map wD := by
  induction p with
  | nil => rfl
  | cons w p ih => simp [ih, w_lent]
theorem okEls_w {p : List (Int × List Int)} (h : ∀ w ∈ p, Sec w.2) : okEls 33 (p.map wD) = true := by
  simp only [okEls, List.all_map, List.all_eq_true]
  intro w hw
  have := (h w hw).len
  simp [wD, D.width, D.isAgg, D.cell, this]
theorem clone_w {p : List (Int × List Int)} (hp : ∀ w ∈ p, Sec w.2) (h : p.length ≤ 4294967296) (tg : Tag) : F_slices_Clone_disk_write_disk_write [.sl tg (p.map wD)] = some (.sl .own (p.map wD)) := by
  cases p with
  | nil => exact F_slices_Clone_disk_write_disk_write_nil tg
  | cons w p =>
    have hok := okEls_w hp
    rw [List.map_cons] at hok ⊢
    rw [F_slices_Clone_disk_write_disk_write_eq, wL_lent, w_lent]
    unfold g_slices_Clone_disk_write_disk_write
    have hf : (wD w :: p.map wD).all D.free = true := by
      rw [← List.map_cons (f := wD), List.all_map, List.all_eq_true]; intro w _; exact w_free w
    have hl : (wD w :: p.map wD).length ≤ 4294967296 := by simpa using h
    simp only [sif_pos, hl, hok, hf]
end Wf

/-
  What disks do, plainly.
-/
namespace Wf
open Go Go.RowKit Go.Proofs
set_option linter.unusedSimpArgs false
set_option linter.unusedVariables false

theorem wD_get {p : List (Int × List Int)} {k : Nat} {w : Int × List Int} (h : p[k]? = some w) : (p.map wD)[k]? = some (.agg (.int .i64 w.1 :: uL w.2)) := by simp [h, wD]
theorem width_agg (l : List D) : D.width (.agg l) = l.length := rfl

theorem d_read {T : Tb} {i : Nat} {s : DS} (h : T[i]? = some s.cells) (hs : s.Ok) (hn : s.pend.length < 100000) (a : Int) :
    F_disk_Disk_Read [.h 6561 i 0, .int .i64 a] [T] = some (Ans.mk (.tup [.sl .own (uL (s.read a).1), .int .i64 (s.read a).2]) [] []) := by
  rw [F_disk_Disk_Read_eq]
  unfold g_disk_Disk_Read DS.read
  rw [d_may h hs a, bindK_some_eq, nilK_nil, nilK_nil, asI_int]
  by_cases hm : s.may a = 0
  · rw [hm]
    have hb : ((0 : Int) != 0) = false := rfl
    rw [hb, brK_false, if_neg (by simp)]
    have ha : 0 ≤ a ∧ a < 52 := by
      unfold DS.may at hm
      split at hm
      · omega
      · split at hm <;> omega
    have hp := ds_pend (s := s) hs.len
    have hbase := ds_base (s := s) hs.len (a := a.toNat) (by omega)
    have hsec := base_sec hs (a := a.toNat) (by omega)
    rw [sif_pos ha.1, sif_pos (by omega), getK_of h, sif_pos (by rw [ds_len hs.len]; omega), Nat.zero_add, hbase]
    rw [sif_pos (uL_flats _), sif_pos (by simp [hsec.len]), sif_pos (by simp [hsec.len]), getK_of h, getK_of hp, asOwn_own, getK_of h, getK_of hp, asOwn_own, sif_pos (by simp)]
    rw [getCells_s hsec.len, List.length_map]
    refine count_loop (R := Ans) (α := (Int × (List D × PUnit) × (Nat × Nat × Nat) × Int × Int × PUnit) × List (List D) × PUnit)
      (fun k => ((a, (uL (look (s.pend.take k) a (s.base a.toNat)), PUnit.unit), (i, 0, s.pend.length), (s.pend.length : Int), (k : Int), PUnit.unit), T, PUnit.unit)) s.pend.length (by omega) ?_ ?_
    · intro again k hk
      dsimp only
      obtain ⟨w, hw⟩ : ∃ w, s.pend[k]? = some w := ⟨_, List.getElem?_eq_getElem hk⟩
      have hws := hs.pend w (List.mem_of_getElem? hw)
      have hd : decide ((k : Int) < (s.pend.length : Int)) = true := by simp; omega
      have hlk : (look (s.pend.take k) a (s.base a.toNat)).length = 32 := look_len (fun w hw => (hs.pend w (List.mem_of_mem_take hw)).len) hsec.len
      rw [hd, brK_true, getK_of h, getK_of hp, asOwn_own, sif_pos (by omega), sif_pos (by simpa using hk), getK_of h, getK_of hp, asOwn_own, getK_of (by simpa using wD_get hw), asAgg_agg, getCells_w _ hws.len]
      dsimp only
      simp only [List.append_nil, List.cons_append, List.nil_append, width_agg, List.length_cons, uL_len, hws.len, hlk, sif_pos]
      by_cases hwa : w.1 = a
      · have hb : (w.1 == a) = true := by simp [hwa]
        rw [hb, brK_true, List.drop_succ_cons, List.drop_zero]
        have et : (uL w.2).take 32 = uL w.2 := List.take_of_length_le (by simp [hws.len])
        rw [et, sif_pos (by omega), sif_pos (by simp [hws.len]), sif_pos (by simp [hws.len]), sif_pos (by omega), letN_eq, wrap_fit (by omega) (by omega), spl_eq (by simp [hws.len])]
        have e3 : (uL (look (s.pend.take k) a (s.base a.toNat))).take 0 ++ uL w.2 ++ (uL (look (s.pend.take k) a (s.base a.toNat))).drop (0 + 32) = uL w.2 := by
          rw [List.drop_of_length_le (by simp [hlk])]; simp
        rw [e3, getCells_s hws.len, look_take hw, if_pos hwa]
        rfl
      · have hb : (w.1 == a) = false := by simp [hwa]
        rw [hb, brK_false, letN_eq, wrap_fit (by omega) (by omega), getCells_s hlk, look_take hw, if_neg hwa]
        rfl
    · intro again
      have hlk := look_len (p := s.pend) (a := a) (fun w hw => (hs.pend w hw).len) hsec.len
      have hd : decide ((s.pend.length : Int) < (s.pend.length : Int)) = false := by simp
      dsimp only
      rw [hd, brK_false, List.take_length]
      simp only [List.append_nil, uL_len, hlk, Nat.le_refl, sif_pos]
      have ec : cut 0 32 (uL (look s.pend a (s.base a.toNat))) = uL (look s.pend a (s.base a.toNat)) := by
        have := cut_whole (uL (look s.pend a (s.base a.toNat)))
        rw [uL_len, hlk] at this; exact this
      rw [ec, clone_bytes (by rw [hlk]; omega), bindK_some_eq, asOwn_own]
      simp
      rfl
  · have hb : (s.may a != 0) = true := by simp [hm]
    rw [hb, brK_true, if_pos hm]
    rfl
end Wf

/-
  What disks do, plainly: what turns them.
-/
namespace Wf
open Go Go.RowKit Go.Proofs
set_option linter.unusedSimpArgs false
set_option linter.unusedVariables false

def zeroS : List Int := List.replicate 32 0
def putR (s : DS) (a : Int) (b : List Int) : (Int × List Int) × Int := if s.may a ≠ 0 then ((0, zeroS), s.may a) else if b.length ≠ 32 then ((0, zeroS), 1) else ((a, b), 0)
theorem d_put {T : Tb} {i : Nat} {s : DS} (h : T[i]? = some s.cells) (hs : s.Ok) (a : Int) (tg : Tag) (b : List Int) :
    F_disk_Disk_put [.h 6561 i 0, .int .i64 a, .sl tg (uL b)] [T] = some (Ans.mk (.tup [wD (putR s a b).1, .int .i64 (putR s a b).2]) [] []) := by
  rw [F_disk_Disk_put_eq, uL_lent]
  unfold g_disk_Disk_put putR
  rw [d_may h hs a, bindK_some_eq, nilK_nil, nilK_nil, asI_int]
  by_cases hm : s.may a = 0
  · rw [hm]
    have hb : ((0 : Int) != 0) = false := rfl
    rw [hb, brK_false, if_neg (by simp)]
    by_cases hl : b.length = 32
    · have hb2 : (((uL b).length : Int) != 32) = false := by simp [hl]
      rw [hb2, brK_false, if_neg (by simp [hl]), sif_pos (uL_cells _), sif_pos (by simp [hl])]
      have et : (D.int .i64 a :: uL b).take 33 = .int .i64 a :: uL b := List.take_of_length_le (by simp [hl])
      simp only [List.append_nil, List.cons_append, List.nil_append, List.length_cons, uL_len, hl, List.drop_zero, et]
      rw [sif_pos (by omega), getCells_w _ hl]
      dsimp only
      simp only [uL_len, hl, Nat.le_refl, sif_pos, List.take_of_length_le, et]
      rw [getCells_w _ hl]
      dsimp only
      rw [sif_pos (by simp only [D.free, D.freeL, uL_freeL, Bool.and_self])]
      rfl
    · have hb2 : (((uL b).length : Int) != 32) = true := by simp; omega
      rw [hb2, brK_true, if_pos hl]
      rfl
  · have hb : (s.may a != 0) = true := by simp [hm]
    rw [hb, brK_true, if_pos hm]
    rfl

theorem damage1 (w : Int × List Int) (hw : Sec w.2) (c : Int) : F_disk_Disk_Damage_1 [wD w, .at_ (.int .i64 c)] = some (.bool (w.1 == c)) := by
  unfold wD
  rw [F_disk_Disk_Damage_1_eq]
  unfold g_disk_Disk_Damage_1
  rw [show D.lentL (.int .i64 w.1 :: uL w.2) = .int .i64 w.1 :: uL w.2 by simp [uL_lent], getCells_w _ hw.len]
/-- No write there: nothing is found. -/
theorem indexfunc_w {p : List (Int × List Int)} (hp : ∀ w ∈ p, Sec w.2) {c : Int} (hc : ∀ w ∈ p, w.1 ≠ c) (hn : p.length < 100000) (tg : Tag) :
    F_slices_IndexFunc_disk_write_disk_write [.sl tg (p.map wD), .fn 82 [] [.at_ (.int .i64 c)]] = some (.int .i64 (-1)) := by
  rw [F_slices_IndexFunc_disk_write_disk_write__Damage_eq, wL_lent]
  unfold g_slices_IndexFunc_disk_write_disk_write__Damage
  rw [List.length_map]
  refine count_loop (R := D) (α := (List D × Int × Int × Int × PUnit) × PUnit) (fun k => ((p.map wD, c, (p.length : Int), (k : Int), PUnit.unit), PUnit.unit)) p.length hn ?_ ?_
  · intro again k hk
    dsimp only
    obtain ⟨w, hw⟩ : ∃ w, p[k]? = some w := ⟨_, List.getElem?_eq_getElem hk⟩
    have hws := hp w (List.mem_of_getElem? hw)
    have hd : decide ((k : Int) < (p.length : Int)) = true := by simp; omega
    rw [hd, brK_true, sif_pos (by omega), getK_of (by simpa using wD_get hw), asAgg_agg, getCells_w _ hws.len]
    dsimp only
    simp only [List.append_nil, List.cons_append, List.nil_append, width_agg, List.length_cons, uL_len, hws.len, sif_pos]
    rw [getCells_w _ hws.len]
    dsimp only
    rw [uL_len, hws.len, sif_pos (by omega)]
    have := damage1 w hws c
    unfold wD at this
    rw [this, bindK_some_eq, asB_bool]
    have hb : (w.1 == c) = false := by simp [hc w (List.mem_of_getElem? hw)]
    rw [hb, brK_false, letN_eq, wrap_fit (by omega) (by omega)]
    rfl
  · intro again
    have hd : decide ((p.length : Int) < (p.length : Int)) = false := by simp
    dsimp only
    rw [hd, brK_false]
theorem deletefunc_w {p : List (Int × List Int)} (hp : ∀ w ∈ p, Sec w.2) {c : Int} (hc : ∀ w ∈ p, w.1 ≠ c) (hn : p.length < 100000) :
    F_slices_DeleteFunc_disk_write_disk_write [.sl .own (p.map wD), .fn 82 [] [.at_ (.int .i64 c)]] [] = some (Ans.mk (.sl .own (p.map wD)) [] []) := by
  rw [F_slices_DeleteFunc_disk_write_disk_write__Damage_eq]
  unfold g_slices_DeleteFunc_disk_write_disk_write__Damage
  rw [sif_pos (by omega), cut_whole, indexfunc_w hp hc hn, bindK_some_eq, asI_int]
  have hb : ((-1 : Int) == -1) = true := rfl
  have hf : (p.map wD).all D.free = true := by rw [List.all_map, List.all_eq_true]; intro w _; exact w_free w
  rw [hb, brK_true, sif_pos (by rfl), sif_pos hf]

theorem flatEls_w (p : List (Int × List Int)) : flatEls (p.map wD) = true := by
  simp only [flatEls, List.all_map, List.all_eq_true]
  intro w _
  simp [wD, D.flatEl, D.flat, uL]
theorem okElsW_w {p : List (Int × List Int)} (h : ∀ w ∈ p, Sec w.2) : okElsW 33 (p.map wD) = true := by
  simp only [okElsW, List.all_map, List.all_eq_true]
  intro w hw
  have := (h w hw).len
  simp [wD, D.width, this]
def DS.damage (s : DS) (a : Int) (b : List Int) : Int × DS := ((putR s a b).2, if (putR s a b).2 = 0 then s.setSec a.toNat b else s)
theorem putR_ok {s : DS} {a : Int} {b : List Int} (h : (putR s a b).2 = 0) : s.may a = 0 ∧ b.length = 32 ∧ (putR s a b).1 = (a, b) ∧ 0 ≤ a ∧ a < 52 := by
  unfold putR at h ⊢
  by_cases h1 : s.may a = 0
  · rw [if_neg (by simp [h1])] at h ⊢
    by_cases h2 : b.length = 32
    · rw [if_neg (by simp [h2])]
      refine ⟨h1, h2, rfl, ?_⟩
      unfold DS.may at h1
      split at h1
      · omega
      · split at h1 <;> omega
    · rw [if_pos h2] at h; exact absurd h (by decide)
  · rw [if_pos h1] at h; exact absurd h h1
theorem putR_len (s : DS) (a : Int) (b : List Int) : (putR s a b).1.2.length = 32 := by
  unfold putR
  split
  · rfl
  · split
    · rfl
    · rename_i h; simpa using h
theorem d_damage {T : Tb} {i : Nat} {s : DS} (h : T[i]? = some s.cells) (hs : s.Ok) (hn : s.pend.length < 100000) {a : Int} (hc : ∀ w ∈ s.pend, w.1 ≠ a) (tg : Tag) (b : List Int) :
    F_disk_Disk_Damage [.h 6561 i 0, .int .i64 a, .sl tg (uL b)] [T] = some (Ans.mk (.int .i64 (s.damage a b).1) [] [T.set i (s.damage a b).2.cells]) := by
  rw [F_disk_Disk_Damage_eq, uL_lent]
  unfold g_disk_Disk_Damage DS.damage
  have hpl := putR_len s a b
  rw [d_put h hs, bindK_some_eq, nilK_nil, nilK_nil, asTup_tup, getCells_any, getCells_any, getCells_nil]
  dsimp only
  unfold wD
  rw [asAgg_agg, getCells_w _ hpl, asI_int]
  dsimp only
  rw [sif_pos (by simp [hpl])]
  by_cases he : (putR s a b).2 = 0
  · obtain ⟨h1, h2, h3, h4, h5⟩ := putR_ok he
    have hb : ((putR s a b).2 != 0) = false := by simp [he]
    rw [hb, brK_false, if_pos he, he, h3]
    dsimp only
    have et : (uL b).take 32 = uL b := List.take_of_length_le (by simp [h2])
    simp only [List.append_nil, List.cons_append, List.nil_append, List.length_cons, uL_len, h2, List.drop_succ_cons, List.drop_zero, et, uL_flats, Nat.zero_add]
    have hlen := hs.len
    have hset : setCells T i (a.toNat * 32) (uL b) = T.set i (s.setSec a.toNat b).cells := by
      rw [setCells_of h, uL_len, h2, ds_set hlen (by omega)]
    have hlen2 := setSec_len (s := s) hlen (a := a.toNat) (by omega) h2
    have hU := set_here h (s.setSec a.toNat b).cells
    have hp := ds_pend hlen2
    have hpe : (s.setSec a.toNat b).pend = s.pend := rfl
    rw [sif_pos (by first | trivial | omega), sif_pos (by first | trivial | omega), sif_pos h4, sif_pos (by first | trivial | omega), getK_of h, sif_pos (by rw [ds_len hlen]; omega), sif_pos (by first | trivial | omega), sif_pos (by first | trivial | rfl)]
    rw [ds_base hlen (by first | trivial | omega), sif_pos (uL_flats _), letT_eq, hset, getK_of hU, getK_of hp, asOwn_own, getK_of hU, getK_of hp, asOwn_own, sif_pos (by first | trivial | omega), cut_whole, hpe]
    rw [clone_w hs.pend (by first | trivial | omega), bindK_some_eq, asOwn_own, sif_pos (by first | trivial | rfl), sif_pos (flatEls_w _), deletefunc_w hs.pend hc hn, bindK_some_eq, nilK_nil, nilK_nil, asOwn_own, sif_pos (by first | trivial | omega), getK_of hU, sif_pos (by rw [ds_len hlen2]; omega),
      sif_pos (by first | trivial | rfl), sif_pos (flatEls_w _), sif_pos (okElsW_w hs.pend), letT_eq]
    have h6 : setCells (T.set i (s.setSec a.toNat b).cells) i 1664 [.sl .own (s.pend.map wD)] = T.set i (s.setSec a.toNat b).cells := by
      rw [setCells_of hU]
      have := ds_setPend (s := s.setSec a.toNat b) hlen2 s.pend
      rw [show (1664 : Nat) + [D.sl .own (s.pend.map wD)].length = 1665 from rfl, this, List.set_set]
      rfl
    rw [h6]
  · have hb : ((putR s a b).2 != 0) = true := by simp [he]
    rw [hb, brK_true, if_neg he]
    have : T.set i s.cells = T := by
      apply List.ext_getElem?
      intro j
      rw [List.getElem?_set]
      split
      · rename_i e; subst e; rw [h]; simp [lt_of_get h]
      · rfl
    rw [this]
def DS.new : DS := ⟨List.replicate 1664 0, [], false⟩
theorem new_ok : DS.new.Ok := ⟨List.length_replicate .., fun n h => by unfold DS.new at h; rw [(List.mem_replicate.1 h).2]; omega, fun w h => by cases h⟩
theorem new_text (T : Tb) : g_disk_New T = some (Ans.mk (.h 6561 T.length 0) [] [T ++ [List.replicate 1664 (D.int .u8 0) ++ [.sl .own [], .bool false]]]) := by kernel_rfl
theorem d_new (T : Tb) : F_disk_New [] [T] = some (Ans.mk (.h 6561 T.length 0) [] [T ++ [DS.new.cells]]) := by
  rw [F_disk_New_eq]
  have e : DS.new.cells = List.replicate 1664 (D.int .u8 0) ++ [.sl .own [], .bool false] := by
    show uL (List.replicate 1664 0) ++ [.sl .own [], .bool false] = _
    rw [← uL_rep]
  rw [e]
  exact new_text T
end Wf

/-
  Benches, plainly.
-/
namespace Wf
open Go Go.RowKit Go.Proofs
set_option linter.unusedSimpArgs false
set_option linter.unusedVariables false

theorem nodup_get {α : Type} {l : List α} (h : l.Nodup) {i j : Nat} {a : α} (h1 : l[i]? = some a) (h2 : l[j]? = some a) : i = j := by
  obtain ⟨hi, e1⟩ := List.getElem?_eq_some_iff.1 h1
  obtain ⟨hj, e2⟩ := List.getElem?_eq_some_iff.1 h2
  have hp := List.pairwise_iff_getElem.1 h
  rcases Nat.lt_trichotomy i j with hlt | heq | hgt
  · exact absurd (e1.trans e2.symm) (hp i j hi hj hlt)
  · exact heq
  · exact absurd (e2.trans e1.symm) (hp j i hj hi hgt)
structure Ben where
  w : Int
  left : Int
  down : Bool
  ds : List DS
def hD (i : Nat) : D := .h 6561 i 0
structure At (T0 T1 : Tb) (b : Nat) (B : Ben) (idx : List Nat) : Prop where
  row : T0[b]? = some [.int .i64 B.w, .int .i64 B.left, .bool B.down, .sl .own (idx.map hD)]
  len : idx.length = B.ds.length
  nd : idx.Nodup
  disk : ∀ (j i : Nat) (s : DS), idx[j]? = some i → B.ds[j]? = some s → T1[i]? = some s.cells
  ok : ∀ s ∈ B.ds, s.Ok ∧ s.pend.length < 100000
  small : B.ds.length ≤ 8
def Ben.is (B : Ben) (d : Int) : Bool := decide (0 ≤ d ∧ d < B.ds.length)
def Ben.may (B : Ben) (d : Int) : Int := if B.is d = true then (if B.down then 6 else 0) else 1
def Ben.failed (B : Ben) (d : Int) : Bool := B.is d && ((B.ds[d.toNat]?.map DS.failed).getD false)
def Ben.read (B : Ben) (d a : Int) : List Int × Int := if B.may d ≠ 0 then ([], B.may d) else match B.ds[d.toNat]? with
  | some s => s.read a
  | none => ([], 0)
def Ben.damage (B : Ben) (d a : Int) (x : List Int) : Int × Ben := if B.is d = true then (match B.ds[d.toNat]? with
  | some s => ((s.damage a x).1, { B with ds := B.ds.set d.toNat (s.damage a x).2 })
  | none => (1, B)) else (1, B)
def Ben.up (B : Ben) (live : List Bool) (d : Int) : Bool := decide (d < B.ds.length) && ((live[d.toNat]?).getD false && !B.failed d)
section
variable {T0 T1 : Tb} {b : Nat} {B : Ben} {idx : List Nat}
theorem b_len (h : At T0 T1 b B idx) : F_bench_Bench_Len [.h 5312 b 0] [T0] = some (Ans.mk (.int .i64 B.ds.length) [] []) := by
  rw [F_bench_Bench_Len_eq]
  unfold g_bench_Bench_Len
  simp [getK_of h.row, h.len]
theorem b_is (h : At T0 T1 b B idx) (d : Int) : F_bench_Bench_is [.h 5312 b 0, .int .i64 d] [T0] = some (Ans.mk (.bool (B.is d)) [] []) := by
  rw [F_bench_Bench_is_eq]
  unfold g_bench_Bench_is Ben.is
  by_cases h0 : 0 ≤ d
  · simp [getK_of h.row, h0, h.len]
  · simp [h0]
theorem is_iff {d : Int} : B.is d = true ↔ 0 ≤ d ∧ d < B.ds.length := by simp [Ben.is]
theorem is_get (h : At T0 T1 b B idx) {d : Int} (hd : B.is d = true) : ∃ i s, idx[d.toNat]? = some i ∧ B.ds[d.toNat]? = some s ∧ T1[i]? = some s.cells ∧ s.Ok ∧ s.pend.length < 100000 := by
  obtain ⟨h0, h1⟩ := is_iff.1 hd
  have hl := h.len
  have e1 : idx[d.toNat]? = some (idx[d.toNat]'(by omega)) := List.getElem?_eq_getElem (by omega)
  have e2 : B.ds[d.toNat]? = some (B.ds[d.toNat]'(by omega)) := List.getElem?_eq_getElem (by omega)
  exact ⟨_, _, e1, e2, h.disk _ _ _ e1 e2, h.ok _ (List.mem_of_getElem? e2)⟩
theorem b_failed (h : At T0 T1 b B idx) (d : Int) : F_bench_Bench_Failed [.h 5312 b 0, .int .i64 d] [T0, T1] = some (Ans.mk (.bool (B.failed d)) [] []) := by
  rw [F_bench_Bench_Failed_eq]
  unfold g_bench_Bench_Failed Ben.failed
  rw [b_is h d]
  cases hd : B.is d
  · simp
  · obtain ⟨i, s, e1, e2, e3, e4, e5⟩ := is_get h hd
    obtain ⟨h0, h1⟩ := is_iff.1 hd
    have e6 : (idx.map hD)[d.toNat]? = some (.h 6561 i 0) := by simp [e1, hD]
    have hl := h.len
    have e7 : d.toNat < B.ds.length := by omega
    obtain ⟨_, e8⟩ := List.getElem?_eq_some_iff.1 e2
    simp [getK_of h.row, hl, h0, e7, getK_of e6, D.isAgg, D.width, D.cell, d_failed e3 e4, e2, h1, e8]
theorem b_may (h : At T0 T1 b B idx) (d : Int) : F_bench_Bench_may [.h 5312 b 0, .int .i64 d] [T0] = some (Ans.mk (.int .i64 (B.may d)) [] []) := by
  rw [F_bench_Bench_may_eq]
  unfold g_bench_Bench_may Ben.may
  rw [b_is h d]
  cases hd : B.is d
  · simp
  · cases hw : B.down <;> simp [getK_of h.row, hw]
theorem b_read (h : At T0 T1 b B idx) (d a : Int) : F_bench_Bench_Read [.h 5312 b 0, .int .i64 d, .int .i64 a] [T0, T1] = some (Ans.mk (.tup [.sl .own (uL (B.read d a).1), .int .i64 (B.read d a).2]) [] []) := by
  rw [F_bench_Bench_Read_eq]
  unfold g_bench_Bench_Read Ben.read
  rw [b_may h d]
  by_cases hm : B.may d = 0
  · have hd : B.is d = true := by
      unfold Ben.may at hm
      split at hm
      · assumption
      · cases hm
    obtain ⟨i, s, e1, e2, e3, e4, e5⟩ := is_get h hd
    obtain ⟨h0, h1⟩ := is_iff.1 hd
    have e6 : (idx.map hD)[d.toNat]? = some (.h 6561 i 0) := by simp [e1, hD]
    have hl := h.len
    have e7 : d.toNat < B.ds.length := by omega
    obtain ⟨_, e8⟩ := List.getElem?_eq_some_iff.1 e2
    have hu := uL_free (s.read a).1
    simp only [List.all_eq_true] at hu
    simp [hm, getK_of h.row, hl, h0, e7, getK_of e6, D.isAgg, D.width, D.cell, d_read e3 e4 e5, e2, h1, e8]
    simp [sif_pos hu]
  · have hb : (B.may d != 0) = true := by simp [hm]
    simp [hm, hb]
    rfl
theorem up_ok (h : At T0 T1 b B idx) (tg : Tag) (live : List Bool) {d : Int} (h0 : 0 ≤ d) : F_stripe_up [.h 5312 b 0, .sl tg (live.map D.bool), .int .i64 d] [T0, T1] = some (Ans.mk (.bool (B.up live d)) [] []) := by
  have hl : D.lentL (live.map D.bool) = live.map D.bool := by
    induction live with
    | nil => rfl
    | cons x l ih => simp [ih]
  rw [F_stripe_up_eq, hl]
  unfold g_stripe_up Ben.up
  rw [b_len h]
  by_cases h1 : d < B.ds.length
  · by_cases h2 : d < live.length
    · have e : live[d.toNat]? = some (live[d.toNat]'(by omega)) := List.getElem?_eq_getElem (by omega)
      have e' : (live.map D.bool)[d.toNat]? = some (.bool (live[d.toNat]'(by omega))) := by simp [e]
      cases hv : live[d.toNat]'(by omega)
      · rw [hv] at e e'
        simp [h1, h2, h0, getK_of e', e, hv]
      · rw [hv] at e e'
        simp [h1, h2, h0, getK_of e', e, b_failed h d, hv]
    · have e : live[d.toNat]? = none := List.getElem?_eq_none (by omega)
      simp [h1, h2, e]
  · simp [h1]
theorem damage_at (h : At T0 T1 b B idx) {d : Int} {i : Nat} {s s' : DS} (e1 : idx[d.toNat]? = some i) (e2 : B.ds[d.toNat]? = some s) (h3 : T1[i]? = some s.cells) (hs : s'.Ok ∧ s'.pend.length < 100000) :
    At T0 (T1.set i s'.cells) b { B with ds := B.ds.set d.toNat s' } idx := by
  refine ⟨h.row, by simp [h.len], h.nd, fun j k u ej eu => ?_, fun u hu => ?_, by simpa using h.small⟩
  · dsimp only at eu
    rw [List.getElem?_set] at eu ⊢
    by_cases hj : d.toNat = j
    · subst hj
      rw [e1] at ej; cases ej
      rw [if_pos rfl] at eu ⊢
      simp only [lt_of_get e2, lt_of_get h3, if_true, Option.some.injEq] at eu ⊢
      rw [eu]
    · rw [if_neg hj] at eu
      have hne : i ≠ k := by
        intro e
        subst e
        exact hj (nodup_get h.nd e1 ej)
      rw [if_neg hne]
      exact h.disk j k u ej eu
  · rcases List.mem_or_eq_of_mem_set hu with hu | hu
    · exact h.ok u hu
    · subst hu; exact hs
theorem b_damage (h : At T0 T1 b B idx) (d : Int) {a : Int} (hc : ∀ s ∈ B.ds, ∀ w ∈ s.pend, w.1 ≠ a) (tg : Tag) {x : List Int} (hx : Sec x ∨ x.length ≠ 32) :
    ∃ T1', F_bench_Bench_Damage [.h 5312 b 0, .int .i64 d, .int .i64 a, .sl tg (uL x)] [T0, T1] = some (Ans.mk (.int .i64 (B.damage d a x).1) [] [T1']) ∧ At T0 T1' b (B.damage d a x).2 idx := by
  rw [F_bench_Bench_Damage_eq, uL_lent]
  unfold g_bench_Bench_Damage Ben.damage
  rw [b_is h d]
  cases hd : B.is d
  · exact ⟨T1, by simp, by simpa using h⟩
  · obtain ⟨i, s, e1, e2, e3, e4, e5⟩ := is_get h hd
    obtain ⟨h0, h1⟩ := is_iff.1 hd
    have e6 : (idx.map hD)[d.toNat]? = some (.h 6561 i 0) := by simp [e1, hD]
    have hl := h.len
    have e7 : d.toNat < B.ds.length := by omega
    obtain ⟨_, e8⟩ := List.getElem?_eq_some_iff.1 e2
    refine ⟨T1.set i (s.damage a x).2.cells, ?_, ?_⟩
    · simp [getK_of h.row, hl, h0, e7, getK_of e6, D.isAgg, D.width, D.cell, d_damage e3 e4 e5 (hc s (List.mem_of_getElem? e2)), e2, h1, e8]
    · rw [if_pos rfl, e2]
      refine damage_at h e1 e2 e3 ?_
      unfold DS.damage
      dsimp only
      split
      · rename_i he
        obtain ⟨p1, p2, p3, p4, p5⟩ := putR_ok he
        rcases hx with hx | hx
        · exact ⟨setSec_ok e4 (by omega) hx, e5⟩
        · exact absurd p2 hx
      · exact ⟨e4, e5⟩
end
end Wf

/-
  A new bench, plainly.
-/
namespace Wf
open Go Go.RowKit Go.Proofs
set_option linter.unusedSimpArgs false
set_option linter.unusedVariables false

def Ben.new (n : Nat) : Ben := ⟨0, -1, false, List.replicate n .new⟩
def bRow (w left : Int) (down : Bool) (hs : List D) : List D := [.int .i64 w, .int .i64 left, .bool down, .sl .own hs]
theorem rangeH_snoc (m k : Nat) : ((List.range k).map fun j => hD (m + j)) ++ [hD (m + k)] = (List.range (k + 1)).map fun j => hD (m + j) := by simp [List.range_succ]
theorem hD_free (l : List Nat) : (l.map hD).all D.free = true := by rw [List.all_map, List.all_eq_true]; intro i _; rfl
theorem hD_flatEls (l : List Nat) : flatEls (l.map hD) = true := by simp only [flatEls, List.all_map, List.all_eq_true]; intro i _; rfl
theorem hD_okElsW (l : List Nat) : okElsW 1 (l.map hD) = true := by simp only [okElsW, List.all_map, List.all_eq_true]; intro i _; rfl
theorem replicate_snoc {α : Type} (k : Nat) (a : α) : List.replicate k a ++ [a] = List.replicate (k + 1) a := by
  rw [List.replicate_succ']

theorem b_new_ok (T0 T1 : Tb) {n : Int} (h0 : 1 ≤ n) (h1 : n ≤ 8) :
    F_bench_New [.int .i64 n] [T0, T1] = some (Ans.mk (.tup [.h 5312 T0.length 0, .int .i64 0]) []
      [T0 ++ [bRow 0 (-1) false ((List.range n.toNat).map fun j => hD (T1.length + j))], T1 ++ List.replicate n.toNat DS.new.cells]) := by
  rw [F_bench_New_eq]
  unfold g_bench_New
  have d1 : decide (n < 1) = false := by simp; omega
  have d2 : decide (n > 8) = false := by simp; omega
  rw [d1, brK_false, d2, brK_false, letT_eq]
  have hn : n = (n.toNat : Int) := by omega
  let st : Nat → (Nat × Int × Int × PUnit) × List (List D) × List (List D) × PUnit := fun k =>
    ((T0.length, n, (k : Int), PUnit.unit), T0 ++ [bRow 0 (-1) false ((List.range k).map fun j => hD (T1.length + j))], T1 ++ List.replicate k DS.new.cells, PUnit.unit)
  have h00 : st 0 = ((T0.length, n, 0, PUnit.unit), T0 ++ [[D.own0 (D.int IntKind.i64 (0 : Int)), D.own0 (D.int IntKind.i64 (-1 : Int)), D.own0 (D.bool false), D.own0 (D.sl Tag.nil [])]], T1, PUnit.unit) := by
    simp [st, bRow, D.own0]
  rw [← h00]
  refine count_loop st n.toNat (by omega) ?_ ?_
  · intro again k hk
    dsimp only [st]
    have hd : decide ((k : Int) < n) = true := by simp; omega
    have hrow : (T0 ++ [bRow 0 (-1) false ((List.range k).map fun j => hD (T1.length + j))])[T0.length]? = some (bRow 0 (-1) false ((List.range k).map fun j => hD (T1.length + j))) := by simp
    have hnew := d_new (T1 ++ List.replicate k DS.new.cells)
    have hl : (T1 ++ List.replicate k DS.new.cells).length = T1.length + k := by simp
    rw [hl, List.append_assoc, replicate_snoc] at hnew
    rw [hd, brK_true, getK_of hrow]
    unfold bRow at hrow ⊢
    rw [getK_succ, getK_succ, getK_succ, getK_zero, asOwn_own, hnew, bindK_some_eq, nilK_nil, consK_cons, nilK_nil, sif_pos (by rfl), sif_pos (by rfl), getK_of hrow, getK_succ, getK_succ, getK_succ, getK_zero, asOwn_own]
    rw [sif_pos (by simp; omega), sif_pos (by rfl), sif_pos (by rfl), letT_eq, setT_of hrow]
    have hset := set_here hrow (List.set [D.int .i64 0, .int .i64 (-1), .bool false, .sl .own ((List.range k).map fun j => hD (T1.length + j))] 3 .undef)
    have hsn := rangeH_snoc T1.length k
    unfold hD at hsn
    have hH : (List.map (fun j => hD (T1.length + j)) (List.range k)) ++ [D.h 6561 (T1.length + k) 0] = (List.range (k + 1)).map fun j => hD (T1.length + j) := hsn
    dsimp only
    rw [getK_of hset, sif_pos (by simp), hH, sif_pos (by simp)]
    have e1 : ((List.range (k + 1)).map fun j => hD (T1.length + j)) = ((List.range (k + 1)).map fun j => T1.length + j).map hD := by rw [List.map_map]; rfl
    rw [e1, sif_pos (hD_flatEls _), sif_pos (hD_okElsW _), letT_eq, letN_eq, wrap_fit (by omega) (by omega), setCells_of hset, ← e1, List.set_set]
    simp [bRow]
  · intro again
    dsimp only [st]
    have hd : decide (((n.toNat : Nat) : Int) < n) = false := by simp; omega
    rw [hd, brK_false]
theorem b_new_bad (T0 T1 : Tb) {n : Int} (h : n < 1 ∨ 8 < n) : F_bench_New [.int .i64 n] [T0, T1] = some (Ans.mk (.tup [.nilp, .int .i64 1]) [] [T0, T1]) := by
  rw [F_bench_New_eq]
  unfold g_bench_New
  by_cases h0 : n < 1
  · simp [h0]
  · have d2 : decide (n > 8) = true := by simp; omega
    simp [h0, d2]
theorem new_at (T0 T1 : Tb) {n : Nat} (h : n ≤ 8) : At (T0 ++ [bRow 0 (-1) false ((List.range n).map fun j => hD (T1.length + j))]) (T1 ++ List.replicate n DS.new.cells) T0.length (Ben.new n) ((List.range n).map fun j => T1.length + j) := by
  refine ⟨?_, by simp [Ben.new], ?_, fun j i s e1 e2 => ?_, fun s hs => ?_, by unfold Ben.new; simpa using h⟩
  · simp only [List.map_map]; simp [bRow, Ben.new]
  · unfold List.Nodup
    rw [List.pairwise_map]
    exact List.Pairwise.imp (fun h e => h (by omega)) (List.nodup_range (n := n))
  · simp only [List.getElem?_map] at e1
    have hj : j < n := by
      rcases Nat.lt_or_ge j n with h | h
      · exact h
      · rw [List.getElem?_eq_none (by simpa using h)] at e1; cases e1
    rw [List.getElem?_range hj] at e1
    simp at e1
    subst e1
    have : s = DS.new := by
      have := List.mem_of_getElem? e2
      unfold Ben.new at this
      exact (List.mem_replicate.1 this).2
    subst this
    rw [List.getElem?_append_right (by omega)]
    simp [hj]
  · have := (List.mem_replicate.1 hs).2
    subst this
    exact ⟨new_ok, Nat.zero_lt_succ _⟩
end Wf

/-
  Sums of sectors, plainly.
-/
namespace Wf
open Go Go.RowKit Go.Proofs
set_option linter.unusedSimpArgs false
set_option linter.unusedVariables false

abbrev xor8 (a b : Int) : Int := bits .xor .u8 a b
def dbl (a : Int) : Int := if 128 ≤ a then xor8 (IntKind.u8.wrap (a * 2)) 29 else IntKind.u8.wrap (a * 2)
theorem gf_double (a : Int) : F_gf_double [.int .u8 a] = some (.int .u8 (dbl a)) := by
  rw [F_gf_double_eq]
  unfold g_gf_double dbl
  by_cases h : 128 ≤ a
  · simp [h]
  · simp [h]
/-- a times b, in so many rounds. -/
def mulA : Nat → Int → Int → Int → Int
  | 0, _, _, o => o
  | n + 1, a, b, o => mulA n (dbl a) (b / 2) (if bits .and .u8 b 1 = 1 then xor8 o a else o)
theorem mulA_zero (n : Nat) (a o : Int) : mulA n a 0 o = o := by
  induction n generalizing a with
  | zero => rfl
  | succ n ih =>
    show mulA n (dbl a) (0 / 2) (if bits .and .u8 0 1 = 1 then xor8 o a else o) = o
    rw [show (0 : Int) / 2 = 0 from rfl, if_neg (by decide), ih]
def mul8 (a b : Int) : Int := mulA 8 a b 0
theorem gf_mul (a b : Int) (h0 : 0 ≤ b) (h1 : b < 256) : F_gf_Mul [.int .u8 a, .int .u8 b] = some (.int .u8 (mul8 a b)) := by
  rw [F_gf_Mul_eq]
  unfold g_gf_Mul
  refine loopN_spec (fun x => x.1.2.1.toNat) (fun _ => some (D.int .u8 (mul8 a b)))
    (fun x => ∃ (n : Nat) (a' b' o : Int), 0 ≤ b' ∧ b' < 2 ^ n ∧ n ≤ 8 ∧ mulA n a' b' o = mul8 a b ∧ x = ((a', b', o, PUnit.unit), PUnit.unit)) ?_ ⟨8, a, b, 0, h0, h1, Nat.le_refl _, rfl, rfl⟩ (by simp; omega)
  rintro again _ ⟨n, a', b', o, p0, p1, p2, p3, rfl⟩ hag
  dsimp only
  by_cases hb : b' > 0
  · have hd : decide (b' > 0) = true := by simp [hb]
    rw [hd, brK_true, letN_eq]
    cases n with
    | zero => simp at p1; omega
    | succ n =>
      have hdiv : b'.fdiv 2 = b' / 2 := Int.fdiv_eq_ediv_of_nonneg _ (by omega)
      have hlt : b' / 2 < 2 ^ n := by
        have : (2 : Int) ^ (n + 1) = 2 ^ n * 2 := Int.pow_succ ..
        omega
      by_cases hone : bits .and .u8 b' 1 = 1
      · have hbo : (bits .and .u8 b' 1 == 1) = true := by simp [hone]
        rw [hbo, brK_true, letN_eq, gf_double, bindK_some_eq, asI_int, letN_eq, hdiv]
        refine hag _ ⟨n, _, _, _, by omega, hlt, by omega, ?_, rfl⟩ (by simp; omega)
        rw [← p3]
        show _ = mulA n (dbl a') (b' / 2) (if bits .and .u8 b' 1 = 1 then xor8 o a' else o)
        rw [if_pos hone]
      · have hbo : (bits .and .u8 b' 1 == 1) = false := by simp [hone]
        rw [hbo, brK_false, gf_double, bindK_some_eq, asI_int, letN_eq, hdiv]
        refine hag _ ⟨n, _, _, _, by omega, hlt, by omega, ?_, rfl⟩ (by simp; omega)
        rw [← p3]
        show _ = mulA n (dbl a') (b' / 2) (if bits .and .u8 b' 1 = 1 then xor8 o a' else o)
        rw [if_neg hone]
  · have hd : decide (b' > 0) = false := by simp [hb]
    have : b' = 0 := by omega
    subst this
    rw [hd, brK_false, ← p3, mulA_zero]
def addL (a b : List Int) : List Int := if a.length = b.length then List.zipWith xor8 a b else []
theorem zip_take {a b : List Int} {k : Nat} {x y : Int} (h1 : a[k]? = some x) (h2 : b[k]? = some y) : (List.zipWith xor8 a b).take (k + 1) = (List.zipWith xor8 a b).take k ++ [xor8 x y] := by
  rw [List.take_add_one]
  congr 1
  simp [List.getElem?_zipWith, h1, h2]
theorem synd_add (t t' : Tag) (a b : List Int) (ha : a.length < 100000) : F_synd_Add [.sl t (uL a), .sl t' (uL b)] = some (.sl .own (uL (addL a b))) := by
  rw [F_synd_Add_eq, uL_lent, uL_lent]
  unfold g_synd_Add addL
  by_cases hl : a.length = b.length
  · have hb : (((uL a).length : Int) != ((uL b).length : Int)) = false := by simp [hl]
    rw [hb, brK_false, if_pos hl]
    let st : Nat → (List D × List D × List D × Int × Int × PUnit) × PUnit := fun k => ((uL b, uL ((List.zipWith xor8 a b).take k), uL a, (a.length : Int), (k : Int), PUnit.unit), PUnit.unit)
    have hst : st 0 = ((uL b, [], uL a, ((uL a).length : Int), 0, PUnit.unit), PUnit.unit) := by simp [st, uL]
    rw [← hst]
    refine count_loop st a.length ha ?_ ?_
    · intro again k hk
      dsimp only [st]
      have h1 : a[k]? = some a[k] := List.getElem?_eq_getElem hk
      have h2 : b[k]? = some (b[k]'(by omega)) := List.getElem?_eq_getElem (by omega)
      have hd : decide ((k : Int) < (a.length : Int)) = true := by simp; omega
      rw [hd, brK_true, sif_pos (by omega), getK_of (by simpa using uL_get h1), asI_int, sif_pos (by omega), getK_of (by simpa using uL_get h2), asI_int, letN_eq, sif_pos (by simp; omega), sif_pos (by rfl), letN_eq, wrap_fit (by omega) (by omega), sif_pos (by simp)]
      rw [zip_take h1 h2, ← uL_snoc]
      rfl
    · intro again
      dsimp only [st]
      have hd : decide ((a.length : Int) < (a.length : Int)) = false := by simp
      have ht : (List.zipWith xor8 a b).take a.length = List.zipWith xor8 a b := List.take_of_length_le (by simp; omega)
      rw [hd, brK_false, sif_pos (by rfl), sif_pos (uL_free _), ht]
  · have hb : (((uL a).length : Int) != ((uL b).length : Int)) = true := by simp; omega
    rw [hb, brK_true, if_neg hl]
    rfl
theorem synd_scale (t : Tag) (a : List Int) (ha : a.length < 100000) {f : Int} (h0 : 0 ≤ f) (h1 : f < 256) : F_synd_Scale [.sl t (uL a), .int .u8 f] = some (.sl .own (uL (a.map (mul8 · f)))) := by
  rw [F_synd_Scale_eq, uL_lent]
  unfold g_synd_Scale
  let st : Nat → (Int × List D × List D × Int × Int × PUnit) × PUnit := fun k => ((f, uL ((a.map (mul8 · f)).take k), uL a, (a.length : Int), (k : Int), PUnit.unit), PUnit.unit)
  have hst : st 0 = ((f, [], uL a, ((uL a).length : Int), 0, PUnit.unit), PUnit.unit) := by simp [st, uL]
  rw [← hst]
  refine count_loop st a.length ha ?_ ?_
  · intro again k hk
    dsimp only [st]
    have h2 : a[k]? = some a[k] := List.getElem?_eq_getElem hk
    have hd : decide ((k : Int) < (a.length : Int)) = true := by simp; omega
    rw [hd, brK_true, sif_pos (by omega), getK_of (by simpa using uL_get h2), asI_int, gf_mul _ _ h0 h1, bindK_some_eq, asI_int, sif_pos (by simp; omega), sif_pos (by rfl), letN_eq, wrap_fit (by omega) (by omega), sif_pos (by simp)]
    have : (a.map (mul8 · f)).take (k + 1) = (a.map (mul8 · f)).take k ++ [mul8 a[k] f] := by rw [List.take_add_one]; simp [h2]
    rw [this, ← uL_snoc]
    rfl
  · intro again
    dsimp only [st]
    have hd : decide ((a.length : Int) < (a.length : Int)) = false := by simp
    have ht : (a.map (mul8 · f)).take a.length = a.map (mul8 · f) := List.take_of_length_le (by simp)
    rw [hd, brK_false, sif_pos (by rfl), sif_pos (uL_free _), ht]
end Wf

/-
  Sums of parts; what is missing, plainly.
-/
namespace Wf
open Go Go.RowKit Go.Proofs
set_option linter.unusedSimpArgs false
set_option linter.unusedVariables false

theorem xor8_range (a b : Int) : 0 ≤ xor8 a b ∧ xor8 a b < 256 := wrap_byte _
theorem dbl_range (a : Int) : 0 ≤ dbl a ∧ dbl a < 256 := by unfold dbl; split <;> exact wrap_byte _
theorem mulA_range : ∀ (n : Nat) (a b o : Int), (0 ≤ o ∧ o < 256) → 0 ≤ mulA n a b o ∧ mulA n a b o < 256
  | 0, _, _, _, h => h
  | n + 1, a, b, o, h => mulA_range n _ _ _ (by split; exact xor8_range _ _; exact h)
theorem mul8_range (a b : Int) : 0 ≤ mul8 a b ∧ mul8 a b < 256 := mulA_range _ _ _ _ (by omega)

-- lists of slices
abbrev Part := Tag × List Int
def pL (ps : List Part) : List D := ps.map fun x => .sl x.1 (uL x.2)
def lentT (t : Tag) (l : List Int) : Tag := match t, l with
  | .nil, _ => .nil
  | .nn, [] => .nn
  | .nul, [] => .nul
  | _, _ => .lent
theorem lent_sl (t : Tag) (l : List Int) : D.lent (.sl t (uL l)) = .sl (lentT t l) (uL l) := by
  have h := uL_lent l
  cases l with
  | nil => cases t <;> rfl
  | cons n l =>
    have e : uL (n :: l) = .int .u8 n :: uL l := rfl
    rw [e] at h ⊢
    cases t <;> simp only [D.lent, h, lentT] <;> simp [D.lentL, D.lent, uL_lent]
theorem pL_lent (ps : List Part) : D.lentL (pL ps) = pL (ps.map fun x => (lentT x.1 x.2, x.2)) := by
  unfold pL
  rw [lentL_map, List.map_map, List.map_map]
  apply List.map_congr_left
  intro x _
  exact lent_sl x.1 x.2
@[simp] theorem pL_len (ps : List Part) : (pL ps).length = ps.length := by simp [pL]
theorem pL_get {ps : List Part} {k : Nat} {x : Part} (h : ps[k]? = some x) : (pL ps)[k]? = some (.sl x.1 (uL x.2)) := by simp [pL, h]
theorem pL_snoc (ps : List Part) (t : Tag) (l : List Int) : pL ps ++ [.sl t (uL l)] = pL (ps ++ [(t, l)]) := by simp [pL]
theorem pL_set (ps : List Part) (i : Nat) (t : Tag) (l : List Int) : (pL ps).set i (.sl t (uL l)) = pL (ps.set i (t, l)) := by simp [pL, List.map_set]
def Part.free (x : Part) : Bool := x.1 = .fresh || x.1 = .full || x.1 = .nil
theorem pL_free {ps : List Part} (h : ∀ x ∈ ps, x.free = true) : (pL ps).all D.free = true := by
  unfold pL
  rw [List.all_map, List.all_eq_true]
  intro x hx
  have := h x hx
  obtain ⟨t, l⟩ := x
  cases t <;> first | (exact uL_freeL l) | (exact absurd this (by simp [Part.free]))

theorem pow_in (n : Int) : F_gf_Pow [.int .i64 n] = F_gf_Pow [.int .i64 n] := rfl
def pow8 : Nat → Int
  | 0 => 1
  | k + 1 => dbl (pow8 k)
theorem pow8_range (k : Nat) : 0 ≤ pow8 k ∧ pow8 k < 256 := by
  cases k with
  | zero => exact ⟨by decide, by decide⟩
  | succ k => exact dbl_range _
theorem gf_pow (k : Nat) (hk : k < 255) : F_gf_Pow [.int .i64 k] = some (.int .u8 (pow8 k)) := by
  rw [F_gf_Pow_eq]
  unfold g_gf_Pow
  have e1 : Int.tmod (k : Int) 255 = k := by rw [Int.tmod_eq_emod_of_nonneg (by omega), Int.emod_eq_of_lt (by omega) (by omega)]
  have e2 : Int.tmod ((k : Int) + 255) 255 = k := by
    rw [Int.tmod_eq_emod_of_nonneg (by omega), Int.add_emod_right, Int.emod_eq_of_lt (by omega) (by omega)]
  rw [letN_eq, e1, letN_eq, wrap_fit (by omega) (by omega), letN_eq, e2]
  refine count_loop (fun j => ((pow8 j, (k : Int), (j : Int), PUnit.unit), PUnit.unit)) k (by omega) ?_ ?_
  · intro again j hj
    dsimp only
    have hd : decide ((j : Int) < (k : Int)) = true := by simp; omega
    rw [hd, brK_true, gf_double, bindK_some_eq, asI_int, letN_eq, wrap_fit (by omega) (by omega)]
    rfl
  · intro again
    have hd : decide ((k : Int) < (k : Int)) = false := by simp
    dsimp only
    rw [hd, brK_false]

/-- The sum of the first parts, each by its number's factor. -/
def sumK (f : Nat → Int) (n : Nat) (ls : List (List Int)) : Nat → List Int
  | 0 => List.replicate n 0
  | k + 1 => List.zipWith xor8 (sumK f n ls k) ((ls.getD k []).map (mul8 · (f k)))
theorem sumK_len {f : Nat → Int} {n : Nat} {ls : List (List Int)} (h : ∀ l ∈ ls, l.length = n) : ∀ {k : Nat}, k ≤ ls.length → (sumK f n ls k).length = n
  | 0, _ => by simp [sumK]
  | k + 1, hk => by
    have e : ls.getD k [] = ls[k] := by simp [List.getD_eq_getElem?_getD, List.getElem?_eq_getElem (show k < ls.length by omega)]
    simp only [sumK, List.length_zipWith, List.length_map, e, sumK_len h (show k ≤ ls.length by omega), h _ (List.getElem_mem (show k < ls.length by omega))]
    omega
theorem sumK_byt {f : Nat → Int} {n : Nat} {ls : List (List Int)} : ∀ {k : Nat}, ∀ x ∈ sumK f n ls k, 0 ≤ x ∧ x < 256
  | 0, x, hx => by rw [(List.mem_replicate.1 hx).2]; omega
  | k + 1, x, hx => by
    simp only [sumK] at hx
    rw [List.mem_iff_getElem?] at hx
    obtain ⟨j, hj⟩ := hx
    rw [List.getElem?_zipWith] at hj
    split at hj
    · injection hj with hj; subst hj; exact xor8_range _ _
    · cases hj
theorem sumK_sec {f : Nat → Int} {ls : List (List Int)} (h : ∀ l ∈ ls, l.length = 32) {k : Nat} (hk : k ≤ ls.length) : Sec (sumK f 32 ls k) := ⟨sumK_len h hk, sumK_byt⟩
def sumP (n : Nat) (ls : List (List Int)) : List Int := sumK (fun _ => 1) n ls ls.length
def sumQ (n : Nat) (ls : List (List Int)) : List Int := sumK pow8 n ls ls.length
theorem synd_p (tg : Tag) {ps : List Part} {n : Nat} (hn : n < 100000) (h0 : 0 < ps.length) (h1 : ps.length < 255) (h : ∀ x ∈ ps, x.2.length = n) :
    F_synd_P [.sl tg (pL ps)] = some (.sl .own (uL (sumP n (ps.map (·.2))))) := by
  rw [F_synd_P_eq, pL_lent]
  unfold g_synd_P
  have hsum : ∀ {qs : List Part}, 0 < qs.length → qs.length < 255 → (∀ x ∈ qs, x.2.length = n) → ∀ tg, F_synd_sum [.sl tg (pL qs), .fn 104 [] []] = some (.sl .own (uL (sumP n (qs.map (·.2))))) := by
    intro qs h0 h1 h tg
    rw [F_synd_sum__P_eq, pL_lent]
    have hl' : ∀ x ∈ (qs.map fun x => (lentT x.1 x.2, x.2)), x.2.length = n := by
      intro x hx; obtain ⟨y, hy, rfl⟩ := List.mem_map.1 hx; exact h y hy
    have hm : (qs.map fun x => (lentT x.1 x.2, x.2)).map (·.2) = qs.map (·.2) := by rw [List.map_map]; rfl
    rw [← hm]
    have hlen : (qs.map fun x => (lentT x.1 x.2, x.2)).length = qs.length := by simp
    rw [← hlen] at h0 h1
    generalize (qs.map fun x => (lentT x.1 x.2, x.2)) = rs at *
    clear hm hlen h qs
    unfold g_synd_sum__P
    have hb : (((pL rs).length : Int) == 0) = false := by simp; intro e; rw [e] at h0; simp at h0
    obtain ⟨x0, hx0⟩ : ∃ x, rs[0]? = some x := ⟨_, List.getElem?_eq_getElem h0⟩
    have hx0l := hl' x0 (List.mem_of_getElem? hx0)
    rw [hb, brK_false, getK_of (pL_get hx0), asSl_sl, sif_pos (by rfl), uL_len, hx0l, sif_pos (by omega), sif_pos (by omega), sif_pos (by simp), Int.toNat_natCast, uL_rep]
    have hls : ∀ l ∈ rs.map (·.2), l.length = n := by intro l hl; obtain ⟨y, hy, rfl⟩ := List.mem_map.1 hl; exact hl' y hy
    let st : Nat → (List D × List D × Int × Int × PUnit) × PUnit := fun k => ((uL (sumK (fun _ => 1) n (rs.map (·.2)) k), pL rs, ((pL rs).length : Int), (k : Int), PUnit.unit), PUnit.unit)
    have hst : st 0 = ((uL (List.replicate n 0), pL rs, ((pL rs).length : Int), 0, PUnit.unit), PUnit.unit) := rfl
    rw [← hst]
    refine count_loop st rs.length (by omega) ?_ ?_
    · intro again k hk
      dsimp only [st]
      obtain ⟨x, hx⟩ : ∃ x, rs[k]? = some x := ⟨_, List.getElem?_eq_getElem hk⟩
      have hxl := hl' x (List.mem_of_getElem? hx)
      have hd : decide ((k : Int) < ((pL rs).length : Int)) = true := by simp; omega
      have hsl := sumK_len (f := fun _ => 1) hls (k := k) (by simp; omega)
      rw [hd, brK_true, sif_pos (by omega), getK_of (by simpa using pL_get hx), asSl_sl, sif_pos (by omega)]
      have hb2 : (((uL x.2).length : Int) != ((uL (sumK (fun _ => 1) n (rs.map (·.2)) k)).length : Int)) = false := by simp [hxl, hsl]
      have hone : F_synd_P_1 [.int .i64 (k : Int)] = some (.int .u8 1) := by rw [F_synd_P_1_eq]; rfl
      rw [hb2, brK_false, hone, bindK_some_eq, asI_int, synd_scale _ _ (by omega) (by omega) (by omega), bindK_some_eq, asOwn_own, sif_pos (by omega), sif_pos (by omega), cut_whole, cut_whole, synd_add _ _ _ _ (by omega), bindK_some_eq, asOwn_own, letN_eq,
        wrap_fit (by omega) (by omega), sif_pos (by rfl)]
      have he : addL (sumK (fun _ => 1) n (rs.map (·.2)) k) (x.2.map (mul8 · 1)) = sumK (fun _ => 1) n (rs.map (·.2)) (k + 1) := by
        unfold addL
        rw [if_pos (by simp [hsl, hxl])]
        have : (rs.map (·.2)).getD k [] = x.2 := by simp [List.getD_eq_getElem?_getD, hx]
        simp only [sumK, this]
      rw [he]
      rfl
    · intro again
      dsimp only [st]
      have hd : decide ((rs.length : Int) < ((pL rs).length : Int)) = false := by simp
      rw [hd, brK_false, sif_pos (by rfl), sif_pos (uL_free _)]
      simp [sumP]
  rw [hsum (by simpa using h0) (by simpa using h1) (by intro x hx; obtain ⟨y, hy, rfl⟩ := List.mem_map.1 hx; exact h y hy), bindK_some_eq, asOwn_own, sif_pos (by rfl), sif_pos (uL_free _), List.map_map]
  rfl
end Wf

/-
  What is missing, and filled up, plainly.
-/
namespace Wf
open Go Go.RowKit Go.Proofs
set_option linter.unusedSimpArgs false
set_option linter.unusedVariables false

theorem intL_free (l : List Int) : (intL l).all D.free = true := by simp [intL, D.free]
theorem intL_snoc (l : List Int) (n : Int) : intL l ++ [.int .i64 n] = intL (l ++ [n]) := by simp [intL]
def missK (ls : List (List Int)) (k : Nat) : List Int := ((List.range k).filter fun i => (ls.getD i []).isEmpty).map Int.ofNat
def miss (ls : List (List Int)) : List Int := missK ls ls.length
theorem missK_succ (ls : List (List Int)) (k : Nat) : missK ls (k + 1) = missK ls k ++ if (ls.getD k []).isEmpty then [(k : Int)] else [] := by
  unfold missK
  rw [List.range_succ, List.filter_append, List.map_append]
  congr 1
  by_cases h : (ls.getD k []).isEmpty = true
  · rw [if_pos h, List.filter_cons_of_pos (p := fun i => (ls.getD i []).isEmpty) h]; rfl
  · rw [if_neg h, List.filter_cons_of_neg (p := fun i => (ls.getD i []).isEmpty) h]; rfl
theorem missK_len (ls : List (List Int)) (k : Nat) : (missK ls k).length ≤ k := by
  unfold missK
  rw [List.length_map]
  exact Nat.le_trans (List.length_filter_le _ _) (by simp)
theorem erase_missing (tg : Tag) (ps : List Part) (hn : ps.length < 100000) : F_erase_Missing [.sl tg (pL ps)] = some (.sl .own (intL (miss (ps.map (·.2))))) := by
  rw [F_erase_Missing_eq, pL_lent]
  have hm : (ps.map fun x => (lentT x.1 x.2, x.2)).map (·.2) = ps.map (·.2) := by rw [List.map_map]; rfl
  have hlen : (ps.map fun x => (lentT x.1 x.2, x.2)).length = ps.length := by simp
  rw [← hm]
  rw [← hlen] at hn
  generalize (ps.map fun x => (lentT x.1 x.2, x.2)) = rs at *
  unfold g_erase_Missing
  let st : Nat → (List D × List D × Int × Int × PUnit) × PUnit := fun k => ((intL (missK (rs.map (·.2)) k), pL rs, ((pL rs).length : Int), (k : Int), PUnit.unit), PUnit.unit)
  have hst : st 0 = (([], pL rs, ((pL rs).length : Int), 0, PUnit.unit), PUnit.unit) := rfl
  rw [← hst]
  refine count_loop st rs.length (by omega) ?_ ?_
  · intro again k hk
    dsimp only [st]
    obtain ⟨x, hx⟩ : ∃ x, rs[k]? = some x := ⟨_, List.getElem?_eq_getElem hk⟩
    have hd : decide ((k : Int) < ((pL rs).length : Int)) = true := by simp; omega
    have hk2 := missK_len (rs.map (·.2)) k
    have hgd : (rs.map (·.2)).getD k [] = x.2 := by simp [List.getD_eq_getElem?_getD, hx]
    rw [hd, brK_true, sif_pos (by omega), getK_of (by simpa using pL_get hx), asSl_sl, missK_succ, hgd]
    by_cases he : x.2 = []
    · have hb : (((uL x.2).length : Int) == 0) = true := by simp [he]
      rw [hb, brK_true, sif_pos (by rw [intL_len]; omega), sif_pos (by rfl), letN_eq, wrap_fit (by omega) (by omega), sif_pos (by simp), intL_snoc, he]
      rfl
    · have hb : (((uL x.2).length : Int) == 0) = false := by simp; omega
      have hb2 : x.2.isEmpty = false := by simp [he]
      rw [hb, brK_false, letN_eq, wrap_fit (by omega) (by omega), sif_pos (by rfl), hb2]
      simp
  · intro again
    dsimp only [st]
    have hd : decide ((rs.length : Int) < ((pL rs).length : Int)) = false := by simp
    rw [hd, brK_false, sif_pos (by rfl), sif_pos (intL_free _)]
    simp [miss]

def fitS (n : Int) (l : List Int) : Bool := l.isEmpty || decide ((l.length : Int) = n)
theorem fits1 (t : Tag) (l : List Int) (n : Int) : F_erase_fits_1 [.sl t (uL l), .at_ (.int .i64 n)] = some (.bool (!fitS n l)) := by
  rw [F_erase_fits_1_eq, uL_lent]
  unfold g_erase_fits_1 fitS
  cases l with
  | nil => simp
  | cons a l =>
    have hd : decide (((uL (a :: l)).length : Int) > 0) = true := by simp
    rw [hd, brK_true]
    simp [bne]
    rfl
theorem indexfunc_fits (tg : Tag) (ps : List Part) (hn : ps.length < 100000) (n : Int) :
    ∃ r, F_slices_IndexFunc_byte_byte [.sl tg (pL ps), .fn 98 [] [.at_ (.int .i64 n)]] = some r ∧ ∃ i : Int, r = .int .i64 i ∧ decide (i ≥ 0) = !(ps.all fun x => fitS n x.2) := by
  rw [F_slices_IndexFunc_byte_byte__fits_eq, pL_lent]
  have hm : (ps.all fun x => fitS n x.2) = ((ps.map fun x => (lentT x.1 x.2, x.2)).all fun x => fitS n x.2) := by rw [List.all_map]; rfl
  have hlen : (ps.map fun x => (lentT x.1 x.2, x.2)).length = ps.length := by simp
  rw [hm]
  rw [← hlen] at hn
  generalize (ps.map fun x => (lentT x.1 x.2, x.2)) = rs at *
  unfold g_slices_IndexFunc_byte_byte__fits
  refine loopN_ex (fun a => (rs.length : Nat) - a.1.2.2.2.1.toNat) (fun r => ∃ i : Int, r = D.int .i64 i ∧ decide (i ≥ 0) = !(rs.all fun x => fitS n x.2))
    (fun a => ∃ k : Nat, k ≤ rs.length ∧ ((rs.take k).all fun x => fitS n x.2) = true ∧ a = ((pL rs, n, (rs.length : Int), (k : Int), PUnit.unit), PUnit.unit)) ?_ ⟨0, by omega, by simp, by rw [pL_len]; rfl⟩ (by simp; omega)
  rintro again _ ⟨k, hk, he, rfl⟩ hag
  dsimp only
  by_cases hkm : k < rs.length
  · obtain ⟨x, hx⟩ : ∃ x, rs[k]? = some x := ⟨_, List.getElem?_eq_getElem hkm⟩
    have hd : decide ((k : Int) < (rs.length : Int)) = true := by simp; omega
    rw [hd, brK_true, sif_pos (by omega), getK_of (by simpa using pL_get hx), asSl_sl, fits1, bindK_some_eq, asB_bool]
    cases hf : fitS n x.2
    · refine ⟨_, rfl, _, rfl, ?_⟩
      have : (rs.all fun x => fitS n x.2) = false := by
        rw [List.all_eq_false]
        exact ⟨x, List.mem_of_getElem? hx, by simp [hf]⟩
      rw [this]
      simp
    · simp only [Bool.not_true, brK_false, letN_eq]
      rw [wrap_fit (by omega) (by omega)]
      refine hag _ ⟨k + 1, by omega, ?_, rfl⟩ (by simp; omega)
      rw [List.take_add_one, hx, List.all_append, he]
      simp [hf]
  · have hd : decide ((k : Int) < (rs.length : Int)) = false := by simp; omega
    rw [hd, brK_false]
    refine ⟨_, rfl, _, rfl, ?_⟩
    rw [List.take_of_length_le (by omega)] at he
    rw [he]
    rfl
theorem erase_fits (tg : Tag) (ps : List Part) (hn : ps.length < 100000) (n : Int) : F_erase_fits [.int .i64 n, .sl tg (pL ps)] = some (.bool (ps.all fun x => fitS n x.2)) := by
  rw [F_erase_fits_eq, pL_lent]
  have hm : (ps.all fun x => fitS n x.2) = ((ps.map fun x => (lentT x.1 x.2, x.2)).all fun x => fitS n x.2) := by rw [List.all_map]; rfl
  have hlen : (ps.map fun x => (lentT x.1 x.2, x.2)).length = ps.length := by simp
  rw [hm]
  rw [← hlen] at hn
  generalize (ps.map fun x => (lentT x.1 x.2, x.2)) = rs at *
  unfold g_erase_fits
  have : F_slices_ContainsFunc_byte_byte [.sl .lent (pL rs), .fn 98 [] [.at_ (.int .i64 n)]] = some (.bool (!(rs.all fun x => fitS n x.2))) := by
    rw [F_slices_ContainsFunc_byte_byte__fits_eq, pL_lent]
    have hm : (rs.all fun x => fitS n x.2) = ((rs.map fun x => (lentT x.1 x.2, x.2)).all fun x => fitS n x.2) := by rw [List.all_map]; rfl
    have hlen : (rs.map fun x => (lentT x.1 x.2, x.2)).length = rs.length := by simp
    rw [hm]
    rw [← hlen] at hn
    generalize (rs.map fun x => (lentT x.1 x.2, x.2)) = qs at *
    unfold g_slices_ContainsFunc_byte_byte__fits
    obtain ⟨r, h1, i, rfl, h2⟩ := indexfunc_fits .lent qs hn n
    rw [h1, bindK_some_eq, asI_int, h2]
  rw [this, bindK_some_eq, asB_bool, Bool.not_not]

def fillS (n : Nat) (l : List Int) : List Int := l.take n ++ (List.replicate n 0).drop (l.take n).length
theorem fillS_len (n : Nat) (l : List Int) : (fillS n l).length = n := by simp [fillS]; omega
theorem fillS_whole {n : Nat} {l : List Int} (h : l.length = n) : fillS n l = l := by unfold fillS; rw [List.take_of_length_le (by omega), List.drop_of_length_le (by simp [h])]; simp
theorem fillS_nil (n : Nat) : fillS n [] = List.replicate n 0 := by simp [fillS]
theorem fillS_byt {n : Nat} {l : List Int} (h : ∀ x ∈ l, 0 ≤ x ∧ x < 256) : ∀ x ∈ fillS n l, 0 ≤ x ∧ x < 256 := by
  intro x hx
  unfold fillS at hx
  rcases List.mem_append.1 hx with hx | hx
  · exact h x (List.mem_of_mem_take hx)
  · rw [(List.mem_replicate.1 (List.mem_of_mem_drop hx)).2]; omega
theorem cut_all {l : List D} {n : Nat} (h : l.length = n) : cut 0 n l = l := by subst h; exact cut_whole l
theorem erase_filled (n : Nat) (hn0 : n < 100000) (tg : Tag) (ps : List Part) (hn : ps.length < 100000) : F_erase_filled [.int .i64 n, .sl tg (pL ps)] = some (.sl .own (pL (ps.map fun x => (Tag.fresh, fillS n x.2)))) := by
  rw [F_erase_filled_eq, pL_lent]
  have hm : (ps.map fun x => (Tag.fresh, fillS n x.2)) = ((ps.map fun x => (lentT x.1 x.2, x.2)).map fun x => (Tag.fresh, fillS n x.2)) := by rw [List.map_map]; rfl
  have hlen : (ps.map fun x => (lentT x.1 x.2, x.2)).length = ps.length := by simp
  rw [hm]
  rw [← hlen] at hn
  generalize (ps.map fun x => (lentT x.1 x.2, x.2)) = rs at *
  unfold g_erase_filled
  let st : Nat → (Int × List D × List D × Int × Int × PUnit) × PUnit := fun k => (((n : Int), pL ((rs.take k).map fun x => (Tag.fresh, fillS n x.2)), pL rs, ((pL rs).length : Int), (k : Int), PUnit.unit), PUnit.unit)
  have hst : st 0 = (((n : Int), [], pL rs, ((pL rs).length : Int), 0, PUnit.unit), PUnit.unit) := rfl
  rw [← hst]
  refine count_loop st rs.length (by omega) ?_ ?_
  · intro again k hk
    dsimp only [st]
    obtain ⟨x, hx⟩ : ∃ x, rs[k]? = some x := ⟨_, List.getElem?_eq_getElem hk⟩
    have hd : decide ((k : Int) < ((pL rs).length : Int)) = true := by simp; omega
    have hfill : ([] ++ List.take (Int.toNat (n : Int)) (uL x.2) ++ List.drop ((0 : Nat) + List.length (List.take (Int.toNat (n : Int)) (uL x.2))) (List.replicate (Int.toNat (n : Int)) (D.int IntKind.u8 (0 : Int)))) = uL (fillS n x.2) := by
      rw [Int.toNat_natCast, uL_take, uL_rep, uL_drop, Nat.zero_add, uL_len, List.nil_append, ← uL_append]; rfl
    rw [hd, brK_true, sif_pos (by omega), getK_of (by simpa using pL_get hx), asSl_sl, sif_pos (by omega), sif_pos (by rfl), sif_pos (by omega), sif_pos (by omega), sif_pos (by simp), sif_pos (uL_cells _), hfill, sif_pos (by simp [fillS_len]), sif_pos (by simp; omega), sif_pos (by rfl),
      letN_eq, wrap_fit (by omega) (by omega), sif_pos (by simp), cut_all (by simp [fillS_len]), pL_snoc]
    have : (rs.take (k + 1)).map (fun x => (Tag.fresh, fillS n x.2)) = (rs.take k).map (fun x => (Tag.fresh, fillS n x.2)) ++ [(Tag.fresh, fillS n x.2)] := by rw [List.take_add_one, hx]; simp
    rw [this]
    rfl
  · intro again
    dsimp only [st]
    have hd : decide ((rs.length : Int) < ((pL rs).length : Int)) = false := by simp
    rw [hd, brK_false, sif_pos (by rfl), List.take_length, sif_pos (pL_free (by intro x hx; obtain ⟨y, hy, rfl⟩ := List.mem_map.1 hx; rfl))]
end Wf

/-
  What is missing is made up for by P, plainly.
-/
namespace Wf
open Go Go.RowKit Go.Proofs
set_option linter.unusedSimpArgs false
set_option linter.unusedVariables false

def fP (ls : List (List Int)) : List Part := ls.map fun l => (Tag.fresh, l)
@[simp] theorem fP_len (ls : List (List Int)) : (fP ls).length = ls.length := by simp [fP]
theorem fP_snd (ls : List (List Int)) : (fP ls).map (·.2) = ls := by
  unfold fP
  rw [List.map_map]
  exact List.map_id ls
theorem fP_free (ls : List (List Int)) : (pL (fP ls)).all D.free = true := pL_free (by intro x hx; obtain ⟨y, _, rfl⟩ := List.mem_map.1 hx; rfl)
theorem fP_set (ls : List (List Int)) (i : Nat) (l : List Int) : (fP ls).set i (Tag.fresh, l) = fP (ls.set i l) := by simp [fP, List.map_set]
theorem fP_get {ls : List (List Int)} {k : Nat} {l : List Int} (h : ls[k]? = some l) : (fP ls)[k]? = some (Tag.fresh, l) := by simp [fP, h]
def fillL (ls : List (List Int)) : List (List Int) := ls.map (fillS 32)
theorem fillL_fP (ps : List Part) : (ps.map fun x => (Tag.fresh, fillS 32 x.2)) = fP (fillL (ps.map (·.2))) := by simp [fP, fillL]
def solveP (p : List Int) (ls : List (List Int)) : List (List Int) := match miss ls with
  | [g] => (fillL ls).set g.toNat (addL p (sumP 32 (fillL ls)))
  | _ => fillL ls
theorem wrap_len (a b : Nat) (h : a + b < 100000) : IntKind.i64.wrap ((a : Int) + (b : Int)) = (a : Int) + (b : Int) := wrap_fit (by omega) (by omega)
theorem miss_mem {ls : List (List Int)} {g : Int} (h : g ∈ miss ls) : 0 ≤ g ∧ g.toNat < ls.length ∧ ls.getD g.toNat [] = [] := by
  unfold miss missK at h
  obtain ⟨i, hi, rfl⟩ := List.mem_map.1 h
  obtain ⟨h1, h2⟩ := List.mem_filter.1 hi
  exact ⟨Int.natCast_nonneg i, List.mem_range.1 h1, by simpa using h2⟩

theorem solve_p (tp tq tg : Tag) {p q : List Int} {ps : List Part} (h0 : 1 ≤ ps.length) (h8 : ps.length ≤ 8) (hf : ∀ x ∈ ps, x.2 = [] ∨ x.2.length = 32) (hp : p = [] ∨ p.length = 32) (hq : q = [] ∨ q.length = 32)
    (h1 : (miss (ps.map (·.2))).length + (miss [p, q]).length ≤ 2) (h2 : miss (ps.map (·.2)) = [] ∨ ∃ g, miss (ps.map (·.2)) = [g] ∧ p.length = 32) :
    F_erase_Solve [.int .i64 32, .sl tp (uL p), .sl tq (uL q), .sl tg (pL ps)] = some (.tup [.sl .own (pL (fP (solveP p (ps.map (·.2))))), .bool true]) := by
  rw [F_erase_Solve_eq, uL_lent, uL_lent, pL_lent]
  have hm : (ps.map fun x => (lentT x.1 x.2, x.2)).map (·.2) = ps.map (·.2) := by rw [List.map_map]; rfl
  have hlen : (ps.map fun x => (lentT x.1 x.2, x.2)).length = ps.length := by simp
  have hf' : ∀ x ∈ (ps.map fun x => (lentT x.1 x.2, x.2)), x.2 = [] ∨ x.2.length = 32 := by intro x hx; obtain ⟨y, hy, rfl⟩ := List.mem_map.1 hx; exact hf y hy
  rw [← hm] at h1 h2 ⊢
  rw [← hlen] at h0 h8
  generalize (ps.map fun x => (lentT x.1 x.2, x.2)) = rs at *
  clear hf hlen hm ps
  unfold g_erase_Solve
  have hfits : (rs.all fun x => fitS 32 x.2) = true := by
    rw [List.all_eq_true]
    intro x hx
    rcases hf' x hx with e | e
    · simp [fitS, e]
    · simp [fitS, e]
  have hpq : ([(Tag.lent, p), (Tag.lent, q)] : List Part).all (fun x => fitS 32 x.2) = true := by
    rcases hp with e | e <;> rcases hq with e' | e' <;> simp [fitS, e, e']
  have e1 : F_erase_fits [.int .i64 32, .sl .full [.sl .lent (uL p), .sl .lent (uL q)]] = some (.bool true) := by
    have := erase_fits .full [(Tag.lent, p), (Tag.lent, q)] (by simp) 32
    rw [hpq] at this
    exact this
  have e2 : F_erase_Missing [.sl .full [.sl .lent (uL p), .sl .lent (uL q)]] = some (.sl .own (intL (miss [p, q]))) := erase_missing .full [(Tag.lent, p), (Tag.lent, q)] (by simp)
  have d1 : decide ((32 : Int) < 1) = false := rfl
  have d2 : decide (((pL rs).length : Int) < 1) = false := by simp; omega
  have d3 : decide (((pL rs).length : Int) > 8) = false := by simp; omega
  rw [erase_missing _ _ (by omega), bindK_some_eq, asOwn_own, d1, brK_false, d2, brK_false, d3, brK_false, erase_fits _ _ (by omega), bindK_some_eq, asB_bool, hfits, Bool.not_true, brK_false, e1, bindK_some_eq, asB_bool, Bool.not_true, brK_false, sif_pos (by omega), e2, bindK_some_eq, asOwn_own, sif_pos (by omega), letN_eq,
    intL_len, intL_len, wrap_len _ _ (Nat.lt_of_le_of_lt h1 (by omega))]
  have d4 : decide (((miss (rs.map (·.2))).length : Int) + ((miss [p, q]).length : Int) > 2) = false := by
    have h1' : (((miss (rs.map (·.2))).length : Nat) : Int) + ((miss [p, q]).length : Int) ≤ 2 := by exact_mod_cast h1
    simp only [decide_eq_false_iff_not]
    omega
  have hfill := erase_filled 32 (by omega) .lent rs (by omega)
  rw [fillL_fP] at hfill
  have hls : ∀ l ∈ fillL (rs.map (·.2)), l.length = 32 := by intro l hl; unfold fillL at hl; obtain ⟨y, _, rfl⟩ := List.mem_map.1 hl; exact fillS_len 32 y
  have hfl : (fillL (rs.map (·.2))).length = rs.length := by simp [fillL]
  rw [d4, brK_false, show (D.int .i64 32) = D.int .i64 ((32 : Nat) : Int) from rfl, hfill, bindK_some_eq, asOwn_own, sif_pos (by omega)]
  rcases h2 with h2 | ⟨g, h2, hpl⟩
  · rw [h2]
    have b1 : (((([] : List Int).length : Nat) : Int) == 2) = false := rfl
    have b2 : (((([] : List Int).length : Nat) : Int) == 1) = false := rfl
    rw [b1, brK_false, sif_pos (by omega), b2, brK_false, sif_pos (by omega), brK_false, sif_pos (by rfl), sif_pos (fP_free _)]
    unfold solveP
    rw [h2]
  · have hg := miss_mem (ls := rs.map (·.2)) (g := g) (by rw [h2]; exact List.mem_cons_self ..)
    rw [h2]
    have b1 : ((([g].length : Nat) : Int) == 2) = false := rfl
    have b2 : ((([g].length : Nat) : Int) == 1) = true := rfl
    have b3 : decide (((uL p).length : Int) > 0) = true := by simp [hpl]
    have hP := synd_p (n := 32) .lent (ps := fP (fillL (rs.map (·.2)))) (by omega) (by simp [fillL]; omega) (by simp [fillL]; omega) (by intro x hx; obtain ⟨l, hl, rfl⟩ := List.mem_map.1 hx; exact hls l hl)
    rw [fP_snd] at hP
    have hgl : g.toNat < (fillL (rs.map (·.2))).length := by have := hg.2.1; simp [fillL] at this ⊢; exact this
    obtain ⟨lg, hlg⟩ : ∃ l, (fillL (rs.map (·.2)))[g.toNat]? = some l := ⟨_, List.getElem?_eq_getElem hgl⟩
    rw [b1, brK_false, sif_pos (by omega), b2, brK_true, b3, brK_true, sif_pos (by simp), show intL [g] = [.int .i64 g] from rfl, getK_zero, asI_int, sif_pos (by omega), cut_whole, hP, bindK_some_eq, asOwn_own, sif_pos (by omega), cut_whole, synd_add _ _ _ _ (by omega), bindK_some_eq, asOwn_own,
      sif_pos hg.1, sif_pos (by simpa using hgl), sif_pos (by omega), getK_of (by simpa using pL_get (fP_get hlg)), sif_pos (by omega), sif_pos (by rfl), cut_whole, Nat.zero_add, pL_set, fP_set, sif_pos (by simp), sif_pos (fP_free _)]
    unfold solveP
    rw [h2]
end Wf

/-
  Rows' data, plainly.
-/
namespace Wf
open Go Go.RowKit Go.Proofs
set_option linter.unusedSimpArgs false
set_option linter.unusedVariables false

theorem row_in' (g : Geo) (row : Int) : F_row_in [.agg [.int .i64 g.l, .int .i64 g.d, .int .i64 g.c], .int .i64 row] = some (.bool (fineP g row)) := by
  rw [F_row_in_eq]
  unfold g_row_in
  rw [show D.agg [.int .i64 g.l, .int .i64 g.d, .int .i64 g.c] = gD g.l g.d g.c from rfl, check_geom, bindK_some_eq]
  show asI IntKind.i64 (.int .i64 _) _ = _
  rw [asI_int]
  unfold fineP
  cases h : g.ok
  · have : validG g.l g.d g.c = false := h
    simp [this]
  · have : validG g.l g.d g.c = true := h
    by_cases h0 : 0 ≤ row
    · simp [this, h0]
    · simp [this, h0]
def rowParts (g : Geo) (row : Int) (rs : List Part) (k : Nat) : List Part := (List.range k).map fun (j : Nat) => rs.getD (diskP g row (j : Int)).toNat (.nil, [])
def rowData (g : Geo) (row : Int) (ls : List (List Int)) : List (List Int) := (List.range g.width.toNat).map fun (j : Nat) => ls.getD (diskP g row (j : Int)).toNat []
theorem rowParts_snd (g : Geo) (row : Int) (rs : List Part) : (rowParts g row rs g.width.toNat).map (·.2) = rowData g row (rs.map (·.2)) := by
  unfold rowParts rowData
  rw [List.map_map]
  apply List.map_congr_left
  intro j _
  simp [List.getD_eq_getElem?_getD]
  cases rs[(diskP g row (j : Int)).toNat]? <;> rfl
theorem rowParts_succ (g : Geo) (row : Int) (rs : List Part) {k : Nat} {x : Part} (h : rs[(diskP g row (k : Int)).toNat]? = some x) : rowParts g row rs (k + 1) = rowParts g row rs k ++ [x] := by
  unfold rowParts
  rw [List.range_succ, List.map_append]
  simp [List.getD_eq_getElem?_getD, h]
theorem par_place2 (g : Geo) (row : Int) : F_place_Parity [.agg [.int .i64 g.l, .int .i64 g.d, .int .i64 g.c], .int .i64 row] = some (.tup [.int .i64 (parP g row).1, .int .i64 (parP g row).2]) := par_place g row
theorem disk_place2 (g : Geo) (row k : Int) : F_place_Disk [.agg [.int .i64 g.l, .int .i64 g.d, .int .i64 g.c], .int .i64 row, .int .i64 k] = some (.int .i64 (diskP g row k)) := disk_place g row k
theorem width_geo2 (g : Geo) : F_geom_Width [.agg [.int .i64 g.l, .int .i64 g.d, .int .i64 g.c]] = some (.int .i64 g.width) := width_geo g
/-- The second parity's sector: none in level 5. -/
def qOf (g : Geo) (row : Int) (ls : List (List Int)) : List Int := if (parP g row).2 < 0 then [] else ls.getD (parP g row).2.toNat []
def pOf (g : Geo) (row : Int) (ls : List (List Int)) : List Int := ls.getD (parP g row).1.toNat []
theorem par_in2 {g : Geo} {row : Int} (h : fineP g row = true) : 0 ≤ (parP g row).1 ∧ (parP g row).1 < g.d ∧ ((parP g row).2 = -1 ∨ 0 ≤ (parP g row).2 ∧ (parP g row).2 < g.d) := by
  have hk := (fine_iff.1 h).1
  have hp := par_in hk row
  have hm := mod_d hk (parA g row + 1)
  unfold parP
  rw [if_pos h]
  dsimp only
  split
  · exact ⟨hp.1, hp.2, .inl rfl⟩
  · exact ⟨hp.1, hp.2, .inr hm⟩

theorem row_take {g : Geo} {row : Int} (h : fineP g row = true) (tg : Tag) {ps : List Part} (hl : (ps.length : Int) = g.d) {out : List (List Int)}
    (hs : ∀ (tp tq : Tag) (rs : List Part), (rs.length : Int) = g.width → rs.map (·.2) = rowData g row (ps.map (·.2)) →
      F_erase_Solve [.int .i64 32, .sl tp (uL (pOf g row (ps.map (·.2)))), .sl tq (uL (qOf g row (ps.map (·.2)))), .sl .lent (pL rs)] = some (.tup [.sl .own (pL (fP out)), .bool true])) :
    F_row_Take [.agg [.int .i64 g.l, .int .i64 g.d, .int .i64 g.c], .int .i64 row, .sl tg (pL ps)] = some (.tup [.sl .own (pL (fP out)), .bool true]) := by
  rw [F_row_Take_eq, pL_lent]
  have hm : (ps.map fun x => (lentT x.1 x.2, x.2)).map (·.2) = ps.map (·.2) := by rw [List.map_map]; rfl
  have hlen : (ps.map fun x => (lentT x.1 x.2, x.2)).length = ps.length := by simp
  rw [← hm] at hs
  rw [← hlen] at hl
  generalize (ps.map fun x => (lentT x.1 x.2, x.2)) = rs at *
  clear hm hlen ps
  unfold g_row_Take
  have hk := (fine_iff.1 h).1
  have hw := width_ok hk
  have hb : ((((pL rs).length : Nat) : Int) != g.d) = false := by simp [hl]
  rw [row_in', bindK_some_eq, asB_bool, h, Bool.not_true, brK_false, hb, brK_false, width_geo2, bindK_some_eq, asI_int]
  let st : Nat → (Int × List D × (Int × Int × Int × PUnit) × List D × Int × Int × PUnit) × PUnit := fun k => ((row, pL rs, (g.l, g.d, g.c, PUnit.unit), pL (rowParts g row rs k), g.width, (k : Int), PUnit.unit), PUnit.unit)
  have hst : st 0 = ((row, pL rs, (g.l, g.d, g.c, PUnit.unit), [], g.width, 0, PUnit.unit), PUnit.unit) := rfl
  rw [← hst]
  refine count_loop st g.width.toNat (by omega) ?_ ?_
  · intro again k hk'
    dsimp only [st]
    have hd : decide ((k : Int) < g.width) = true := by simp; omega
    have hdi := disk_in h (k := (k : Int)) (by omega) (by omega)
    obtain ⟨x, hx⟩ : ∃ x, rs[(diskP g row (k : Int)).toNat]? = some x := ⟨_, List.getElem?_eq_getElem (by omega)⟩
    have hpl : (rowParts g row rs k).length = k := by simp [rowParts]
    rw [hd, brK_true, disk_place2, bindK_some_eq, asI_int, sif_pos hdi.1, getK_of (pL_get hx), asSl_sl, sif_pos (by rw [pL_len, hpl]; omega), sif_pos (by rfl), letN_eq, wrap_fit (by omega) (by omega), sif_pos (by simp), pL_snoc, rowParts_succ g row rs hx]
    rfl
  · intro again
    dsimp only [st]
    have hd : decide (((g.width.toNat : Nat) : Int) < g.width) = false := by simp; omega
    obtain ⟨p0, p1, p2⟩ := par_in2 h
    obtain ⟨xp, hxp⟩ : ∃ x, rs[(parP g row).1.toNat]? = some x := ⟨_, List.getElem?_eq_getElem (by omega)⟩
    have hpo : pOf g row (rs.map (·.2)) = xp.2 := by unfold pOf; simp [List.getD_eq_getElem?_getD, hxp]
    have hrl : ((rowParts g row rs g.width.toNat).length : Int) = g.width := by simp [rowParts]; omega
    have hsolve := fun tp tq => hs tp tq (rowParts g row rs g.width.toNat) hrl (rowParts_snd g row rs)
    rw [hpo] at hsolve
    rw [hd, brK_false, par_place2, bindK_some_eq, asTup_tup, getCells_any, getCells_any, getCells_nil]
    dsimp only
    rw [asI_int, asI_int]
    rcases p2 with p2 | ⟨q0, q1⟩
    · have hqo : qOf g row (rs.map (·.2)) = [] := by unfold qOf; rw [if_pos (by omega)]
      have hd2 : decide ((parP g row).2 < 0) = true := by simp; omega
      rw [hqo] at hsolve
      have hsv := hsolve xp.1 .nil
      rw [show uL [] = ([] : List D) from rfl] at hsv
      rw [hd2, brK_true, sif_pos p0, getK_of (pL_get hxp), asSl_sl, sif_pos (by omega), cut_whole, hsv, bindK_some_eq, asTup_tup, getCells_any, getCells_any, getCells_nil]
      dsimp only
      rw [asOwn_own, asB_bool, sif_pos (by rfl), sif_pos (fP_free _)]
    · obtain ⟨xq, hxq⟩ : ∃ x, rs[(parP g row).2.toNat]? = some x := ⟨_, List.getElem?_eq_getElem (by omega)⟩
      have hqo : qOf g row (rs.map (·.2)) = xq.2 := by unfold qOf; rw [if_neg (by omega)]; simp [List.getD_eq_getElem?_getD, hxq]
      have hd2 : decide ((parP g row).2 < 0) = false := by simp; omega
      rw [hqo] at hsolve
      rw [hd2, brK_false, sif_pos p0, getK_of (pL_get hxp), asSl_sl, sif_pos q0, getK_of (pL_get hxq), asSl_sl, sif_pos (by omega), cut_whole, hsolve, bindK_some_eq, asTup_tup, getCells_any, getCells_any, getCells_nil]
      dsimp only
      rw [asOwn_own, asB_bool, sif_pos (by rfl), sif_pos (fP_free _)]
end Wf

/-
  Rows are read, plainly.
-/
namespace Wf
open Go Go.RowKit Go.Proofs
set_option linter.unusedSimpArgs false
set_option linter.unusedVariables false

def Ben.secAt (B : Ben) (d a : Int) : List Int := match B.ds[d.toNat]? with
  | some s => s.sec a
  | none => []
section
variable {T0 T1 : Tb} {b : Nat} {B : Ben} {idx : List Nat}
theorem up_get (h : At T0 T1 b B idx) {live : List Bool} {d : Int} (h0 : 0 ≤ d) (hu : B.up live d = true) : B.is d = true ∧ ∃ s, B.ds[d.toNat]? = some s ∧ s.failed = false ∧ s.Ok := by
  unfold Ben.up at hu
  simp only [Bool.and_eq_true, decide_eq_true_eq, Bool.not_eq_true'] at hu
  obtain ⟨h1, _, h3⟩ := hu
  have hd : B.is d = true := is_iff.2 ⟨h0, h1⟩
  obtain ⟨i, s, _, e2, _, e4, _⟩ := is_get h hd
  refine ⟨hd, s, e2, ?_, e4⟩
  unfold Ben.failed at h3
  rw [hd, e2] at h3
  simpa using h3
theorem read_up (h : At T0 T1 b B idx) (hdn : B.down = false) {live : List Bool} {d a : Int} (h0 : 0 ≤ d) (hu : B.up live d = true) (a0 : 0 ≤ a) (a1 : a < 52) : B.read d a = (B.secAt d a, 0) ∧ Sec (B.secAt d a) := by
  obtain ⟨hd, s, e2, hf, hok⟩ := up_get h h0 hu
  unfold Ben.read Ben.may Ben.secAt
  rw [hd, hdn, e2]
  have hm : s.may a = 0 := by unfold DS.may; rw [hf, if_neg (by simp), if_neg (by omega)]
  constructor
  · simp [DS.read, hm]
  · exact ds_sec hok a0 a1
/-- The sectors of a row, by disks. -/
def Ben.secs (B : Ben) (live : List Bool) (r : Int) (n : Nat) : List (List Int) := (List.range n).map fun (d : Nat) => if B.up live d then B.secAt d (36 + r) else []
def Ben.secP (B : Ben) (live : List Bool) (r : Int) (n k : Nat) : List Part := (List.range n).map fun (d : Nat) => if d < k then (if B.up live d then (Tag.fresh, B.secAt d (36 + r)) else (Tag.nil, [])) else (Tag.nil, [])
theorem secP_snd (live : List Bool) (r : Int) (n : Nat) : (B.secP live r n n).map (·.2) = B.secs live r n := by
  unfold Ben.secP Ben.secs
  rw [List.map_map]
  apply List.map_congr_left
  intro d hd
  have := List.mem_range.1 hd
  simp only [Function.comp_apply, if_pos this]
  split <;> rfl
theorem secP_len (live : List Bool) (r : Int) (n k : Nat) : (B.secP live r n k).length = n := by simp [Ben.secP]
theorem secP_step (live : List Bool) (r : Int) {n k : Nat} (hk : k < n) (hu : B.up live k = true) : (B.secP live r n k).set k (Tag.fresh, B.secAt k (36 + r)) = B.secP live r n (k + 1) := by
  apply List.ext_getElem?
  intro j
  rw [List.getElem?_set]
  unfold Ben.secP
  by_cases hj : j < n
  · by_cases hjk : k = j
    · subst hjk; simp [hj, hu]
    · rw [if_neg hjk]
      simp only [List.getElem?_map, List.getElem?_range hj, Option.map_some]
      by_cases h1 : j < k
      · simp only [if_pos h1, if_pos (show j < k + 1 by omega)]
      · simp only [if_neg h1, if_neg (show ¬ j < k + 1 by omega)]
  · have h1 : k ≠ j := by omega
    rw [if_neg h1, List.getElem?_eq_none (by simp; omega), List.getElem?_eq_none (by simp; omega)]
theorem secP_skip (live : List Bool) (r : Int) {n k : Nat} (hk : k < n) (hu : B.up live k = false) : B.secP live r n k = B.secP live r n (k + 1) := by
  unfold Ben.secP
  apply List.map_congr_left
  intro j hj
  by_cases h1 : j < k
  · simp only [if_pos h1, if_pos (show j < k + 1 by omega)]
  · by_cases hjk : j = k
    · subst hjk; simp [hu]
    · simp only [if_neg h1, if_neg (show ¬ j < k + 1 by omega)]
theorem secP_zero (live : List Bool) (r : Int) (n : Nat) : pL (B.secP live r n 0) = List.replicate n (D.sl .nil []) := by
  unfold Ben.secP pL
  rw [List.map_map]
  apply List.ext_getElem?
  intro j
  by_cases hj : j < n
  · simp [hj, uL]
  · rw [List.getElem?_eq_none (by simp; omega), List.getElem?_eq_none (by simp; omega)]

theorem stripe_read (h : At T0 T1 b B idx) (hdn : B.down = false) {g : Geo} {r : Int} (hr : fineP g r = true) (tg : Tag) (live : List Bool) {out : List (List Int)}
    (ht : ∀ (ps : List Part), (ps.length : Int) = g.d → ps.map (·.2) = B.secs live r g.d.toNat → F_row_Take [.agg [.int .i64 g.l, .int .i64 g.d, .int .i64 g.c], .int .i64 r, .sl .lent (pL ps)] = some (.tup [.sl .own (pL (fP out)), .bool true])) :
    F_stripe_Read [.h 5312 b 0, .sl tg (live.map D.bool), .agg [.int .i64 g.l, .int .i64 g.d, .int .i64 g.c], .int .i64 r] [T0, T1] = some (Ans.mk (.tup [.sl .own (pL (fP out)), .int .i64 0]) [] []) := by
  have hlv : D.lentL (live.map D.bool) = live.map D.bool := by
    clear ht
    induction live with
    | nil => rfl
    | cons x l ih => simp [ih]
  rw [F_stripe_Read_eq, hlv]
  unfold g_stripe_Read
  obtain ⟨hk, r0, r1⟩ := fine_iff.1 hr
  have hv : validG g.l g.d g.c = true := hk
  have hdd := ok_d hk
  have d1 : decide (r < 0) = false := by simp; omega
  have d2 : decide (r ≥ 16) = false := by simp; omega
  rw [show D.agg [.int .i64 g.l, .int .i64 g.d, .int .i64 g.c] = gD g.l g.d g.c from rfl, check_geom, bindK_some_eq, hv, if_pos rfl]
  show asI IntKind.i64 (.int .i64 0) _ = _
  have b0 : ((0 : Int) != 0) = false := rfl
  rw [asI_int, b0, brK_false, d1, brK_false, d2, brK_false, sif_pos (by omega), sif_pos (by rfl), sif_pos (by omega), sif_pos (by omega), sif_pos (by simp), sif_pos (by simp)]
  let st : Nat → (Nat × List D × Int × (Int × Int × Int × PUnit) × List D × Int × Int × PUnit) × List (List D) × List (List D) × PUnit := fun k =>
    ((b, live.map D.bool, r, (g.l, g.d, g.c, PUnit.unit), pL (B.secP live r g.d.toNat k), ((g.d.toNat : Nat) : Int), (k : Int), PUnit.unit), T0, T1, PUnit.unit)
  have hst : st 0 = ((b, live.map D.bool, r, (g.l, g.d, g.c, PUnit.unit), List.replicate g.d.toNat (D.sl .nil []), ((g.d.toNat : Nat) : Int), 0, PUnit.unit), T0, T1, PUnit.unit) := by
    simp only [st, secP_zero]; rfl
  rw [← hst]
  refine count_loop st g.d.toNat (by omega) ?_ ?_
  · intro again k hk'
    dsimp only [st]
    have hd : decide ((k : Int) < ((g.d.toNat : Nat) : Int)) = true := by simp; omega
    rw [hd, brK_true, up_ok h .lent live (by omega), bindK_some_eq, nilK_nil, nilK_nil, asB_bool]
    cases hu : B.up live (k : Int)
    · rw [Bool.not_false, brK_true, letN_eq, wrap_fit (by omega) (by omega), sif_pos (by rfl), secP_skip live r hk' hu]
      rfl
    · obtain ⟨hrd, hsec⟩ := read_up h hdn (a := 36 + r) (by omega) hu (by omega) (by omega)
      have hg : (B.secP live r g.d.toNat k)[k]? = some (Tag.nil, []) := by unfold Ben.secP; simp [hk']
      rw [Bool.not_true, brK_false, letN_eq, wrap_fit (n := 36 + r) (by omega) (by omega), b_read h, hrd, bindK_some_eq, nilK_nil, nilK_nil, asTup_tup, getCells_any, getCells_any, getCells_nil]
      dsimp only
      rw [asOwn_own, asI_int, b0, brK_false, sif_pos (by omega), sif_pos (by rw [pL_len, secP_len]; omega), sif_pos (by omega), getK_of (by simpa using pL_get hg), sif_pos (by omega), sif_pos (by rfl), letN_eq, wrap_fit (n := (k : Int) + 1) (by omega) (by omega), cut_whole, sif_pos (by simp), Nat.zero_add, pL_set,
        show (Int.toNat (k : Int)) = k from rfl, secP_step live r hk' hu]
      rfl
  · intro again
    dsimp only [st]
    have hd : decide (((g.d.toNat : Nat) : Int) < ((g.d.toNat : Nat) : Int)) = false := by simp
    have := ht (B.secP live r g.d.toNat g.d.toNat) (by rw [secP_len]; omega) (secP_snd live r _)
    rw [hd, brK_false, sif_pos (by omega), cut_whole, this, bindK_some_eq, asTup_tup, getCells_any, getCells_any, getCells_nil]
    dsimp only
    rw [asOwn_own, asB_bool, Bool.not_true, brK_false, sif_pos (by rfl), sif_pos (fP_free _)]
end
end Wf

/-
  One sector is read, plainly.
-/
namespace Wf
open Go Go.RowKit Go.Proofs
set_option linter.unusedSimpArgs false
set_option linter.unusedVariables false

theorem of_place2 (g : Geo) (n : Int) : F_place_Of [.agg [.int .i64 g.l, .int .i64 g.d, .int .i64 g.c], .int .i64 n] = some (.tup [.int .i64 (ofP g n).1, .int .i64 (ofP g n).2.1, .bool (ofP g n).2.2]) := of_place g n
theorem nums_place2 (g : Geo) (r : Int) : F_place_Numbers [.agg [.int .i64 g.l, .int .i64 g.d, .int .i64 g.c], .int .i64 r] = some (.sl .own (numsD g r)) := nums_place g r
theorem num_inj {g : Geo} {r j k : Int} (h : fineP g r = true) (j0 : 0 ≤ j) (j1 : j < g.width) (k0 : 0 ≤ k) (k1 : k < g.width) (e : numP g r j = numP g r k) : j = k := by
  have h1 := of_num h j0 j1
  have h2 := of_num h k0 k1
  rw [e, h2] at h1
  injection h1 with h1 _
  exact disk_once h j0 j1 k0 k1 h1.symm
section
variable {T0 T1 : Tb} {b : Nat} {B : Ben} {idx : List Nat}
theorem live_lent (live : List Bool) : D.lentL (live.map D.bool) = live.map D.bool := by
  induction live with
  | nil => rfl
  | cons x l ih => simp [ih]
theorem one_up (h : At T0 T1 b B idx) (hdn : B.down = false) {g : Geo} {n d r : Int} (ho : ofP g n = (d, r, true)) (d0 : 0 ≤ d) (r0 : 0 ≤ r) (r1 : r < 16) (tg : Tag) (live : List Bool) (hu : B.up live d = true) :
    F_stripe_One [.h 5312 b 0, .sl tg (live.map D.bool), .agg [.int .i64 g.l, .int .i64 g.d, .int .i64 g.c], .int .i64 n] [T0, T1] = some (Ans.mk (.tup [.sl .fresh (uL (B.secAt d (36 + r))), .int .i64 0]) [] []) := by
  rw [F_stripe_One_eq, live_lent]
  unfold g_stripe_One
  obtain ⟨hrd, hsec⟩ := read_up h hdn (a := 36 + r) d0 hu (by omega) (by omega)
  rw [of_place2, bindK_some_eq, asTup_tup, getCells_any, getCells_any, getCells_any, getCells_nil, ho]
  dsimp only
  rw [asI_int, asI_int, asB_bool, Bool.not_true, brK_false, up_ok h .lent live d0, bindK_some_eq, nilK_nil, nilK_nil, asB_bool, hu, brK_true, letN_eq, wrap_fit (by omega) (by omega), b_read h, hrd, bindK_some_eq, nilK_nil, nilK_nil, asTup_tup, getCells_any, getCells_any, getCells_nil]
  dsimp only
  rw [asOwn_own, asI_int, sif_pos (by omega), cut_whole, sif_pos (by simp only [D.free, uL_freeL])]
theorem one_lost (h : At T0 T1 b B idx) {g : Geo} {r : Int} (hr : fineP g r = true) {k : Nat} (hk : (k : Int) < g.width) (tg : Tag) (live : List Bool) (hu : B.up live (diskP g r k) = false) {out : List (List Int)} {x : List Int} (hx : out[k]? = some x)
    (hread : F_stripe_Read [.h 5312 b 0, .sl .lent (live.map D.bool), .agg [.int .i64 g.l, .int .i64 g.d, .int .i64 g.c], .int .i64 r] [T0, T1] = some (Ans.mk (.tup [.sl .own (pL (fP out)), .int .i64 0]) [] [])) :
    F_stripe_One [.h 5312 b 0, .sl tg (live.map D.bool), .agg [.int .i64 g.l, .int .i64 g.d, .int .i64 g.c], .int .i64 (numP g r k)] [T0, T1] = some (Ans.mk (.tup [.sl .fresh (uL x), .int .i64 0]) [] []) := by
  rw [F_stripe_One_eq, live_lent]
  unfold g_stripe_One
  have hdi := disk_in hr (k := (k : Int)) (by omega) hk
  rw [of_place2, bindK_some_eq, asTup_tup, getCells_any, getCells_any, getCells_any, getCells_nil, of_num hr (by omega) hk]
  dsimp only
  have b0 : ((0 : Int) != 0) = false := rfl
  have hw := width_ok (fine_iff.1 hr).1
  rw [asI_int, asI_int, asB_bool, Bool.not_true, brK_false, up_ok h .lent live hdi.1, bindK_some_eq, nilK_nil, nilK_nil, asB_bool, hu, brK_false, hread, bindK_some_eq, nilK_nil, nilK_nil, asTup_tup, getCells_any, getCells_any, getCells_nil]
  dsimp only
  have hnd : numsD g r = numD g r g.width.toNat := by unfold numsD; rw [if_pos hr]
  rw [asOwn_own, asI_int, b0, brK_false, nums_place2, bindK_some_eq, asOwn_own, sif_pos (by omega), sif_pos (by rfl), sif_pos (by rfl), hnd, numD_len]
  let st : Nat → (Int × List D × List D × Int × Int × PUnit) × List (List D) × List (List D) × PUnit := fun j => ((numP g r k, pL (fP out), numD g r g.width.toNat, ((g.width.toNat : Nat) : Int), (j : Int), PUnit.unit), T0, T1, PUnit.unit)
  show loopN _ (st 0) = _
  refine count_loop st k (by omega) ?_ ?_
  · intro again j hj
    dsimp only [st]
    have hd : decide ((j : Int) < ((g.width.toNat : Nat) : Int)) = true := by simp; omega
    have hne : (numP g r j == numP g r k) = false := by
      simp
      intro e
      have := num_inj hr (by omega) (by omega) (by omega) hk e
      omega
    rw [hd, brK_true, sif_pos (by omega), sif_pos (by rw [numD_len]; omega), getK_of (by simpa using numD_get g r g.width.toNat (i := j) (by omega)), asI_int, hne, brK_false, letN_eq, wrap_fit (by omega) (by omega), sif_pos (by rfl), sif_pos (by rfl)]
    rfl
  · intro again
    dsimp only [st]
    have hd : decide ((k : Int) < ((g.width.toNat : Nat) : Int)) = true := by simp; omega
    have hne : (numP g r k == numP g r k) = true := by simp
    have hlt := lt_of_get hx
    rw [hd, brK_true, sif_pos (by omega), sif_pos (by rw [numD_len]; omega), getK_of (by simpa using numD_get g r g.width.toNat (i := k) (by omega)), asI_int, hne, brK_true, sif_pos (by omega), sif_pos (by rw [pL_len, fP_len]; omega), getK_of (by simpa using pL_get (fP_get hx)), asSl_sl,
      sif_pos (by simp only [D.free, uL_freeL])]
end
end Wf

/-
  The document's sums, plainly.
-/
namespace Wf
open Go Go.RowKit Go.Proofs
set_option linter.unusedSimpArgs false
set_option linter.unusedVariables false

def refStep (b : Int) (k : Nat) (s : Int × Int) : Int × Int :=
  (if IntKind.i64.wrap (s.1 * 2) > 255 then bits .xor .i64 (IntKind.i64.wrap (s.1 * 2)) 285 else IntKind.i64.wrap (s.1 * 2),
   if bits .and .u8 (b.fdiv (2 ^ min k 8)) 1 = 1 then bits .xor .i64 s.2 s.1 else s.2)
def refIter (a b : Int) : Nat → Int × Int
  | 0 => (IntKind.i64.wrap a, 0)
  | k + 1 => refStep b k (refIter a b k)
def refMul (a b : Int) : Int := IntKind.u8.wrap (refIter a b 8).2
theorem wrap_u64 {n : Int} (h0 : 0 ≤ n) (h1 : n < 18446744073709551616) : IntKind.u64.wrap n = n := by
  have e : IntKind.u64.wrap n = n % 18446744073709551616 := by simp [IntKind.wrap, IntKind.bits, IntKind.signed]
  rw [e]; omega
theorem ref_mul (a b : Int) : F_wattleref01_Mul [.int .u8 a, .int .u8 b] = some (.int .u8 (refMul a b)) := by
  rw [F_wattleref01_Mul_eq]
  unfold g_wattleref01_Mul
  rw [letN_eq]
  refine count_loop (fun k => ((b, (refIter a b k).1, (refIter a b k).2, (k : Int), PUnit.unit), PUnit.unit)) 8 (by omega) ?_ ?_
  · intro again k hk
    dsimp only
    have hd : decide ((k : Int) < 8) = true := by simp; omega
    rw [hd, brK_true, letN_eq, wrap_u64 (by omega) (by omega), sif_pos (by omega), letN_eq, letN_eq, Int.toNat_natCast]
    have hs : refIter a b (k + 1) = refStep b k (refIter a b k) := rfl
    have hk1 : IntKind.i64.wrap ((k : Int) + 1) = ((k + 1 : Nat) : Int) := by rw [wrap_fit (by omega) (by omega)]; rfl
    rw [hs]
    unfold refStep
    by_cases hb : bits .and .u8 (b.fdiv (2 ^ min k 8)) 1 = 1
    · have hb' : (bits .and .u8 (b.fdiv (2 ^ min k 8)) 1 == 1) = true := by simp [hb]
      rw [hb', brK_true, letN_eq, letN_eq, if_pos hb]
      by_cases hx : IntKind.i64.wrap ((refIter a b k).1 * 2) > 255
      · have hx' : decide (IntKind.i64.wrap ((refIter a b k).1 * 2) > 255) = true := by simp [hx]
        rw [hx', brK_true, letN_eq, letN_eq, hk1, if_pos hx]
      · have hx' : decide (IntKind.i64.wrap ((refIter a b k).1 * 2) > 255) = false := by simp; omega
        rw [hx', brK_false, letN_eq, hk1, if_neg hx]
    · have hb' : (bits .and .u8 (b.fdiv (2 ^ min k 8)) 1 == 1) = false := by simp [hb]
      rw [hb', brK_false, letN_eq, if_neg hb]
      by_cases hx : IntKind.i64.wrap ((refIter a b k).1 * 2) > 255
      · have hx' : decide (IntKind.i64.wrap ((refIter a b k).1 * 2) > 255) = true := by simp [hx]
        rw [hx', brK_true, letN_eq, letN_eq, hk1, if_pos hx]
      · have hx' : decide (IntKind.i64.wrap ((refIter a b k).1 * 2) > 255) = false := by simp; omega
        rw [hx', brK_false, letN_eq, hk1, if_neg hx]
  · intro again
    dsimp only
    have hd : decide (((8 : Nat) : Int) < 8) = false := by simp
    rw [hd, brK_false, letN_eq]
    rfl
def refPow : Nat → Int
  | 0 => 1
  | k + 1 => refMul (refPow k) 2
theorem ref_pow (k : Nat) (hk : k < 255) : F_wattleref01_Pow [.int .i64 k] = some (.int .u8 (refPow k)) := by
  rw [F_wattleref01_Pow_eq]
  unfold g_wattleref01_Pow
  have e1 : Int.tmod (k : Int) 255 = k := by rw [Int.tmod_eq_emod_of_nonneg (by omega), Int.emod_eq_of_lt (by omega) (by omega)]
  have hd : decide ((k : Int) < 0) = false := by simp
  rw [letN_eq, e1, hd, brK_false]
  let st : Nat → (Int × Int × PUnit) × PUnit := fun j => (((k : Int) - (j : Int), refPow j, PUnit.unit), PUnit.unit)
  have hst : st 0 = (((k : Int), 1, PUnit.unit), PUnit.unit) := by simp [st, refPow]
  rw [← hst]
  refine count_loop st k (by omega) ?_ ?_
  · intro again j hj
    dsimp only [st]
    have hd : decide ((k : Int) - (j : Int) > 0) = true := by simp; omega
    rw [hd, brK_true, ref_mul, bindK_some_eq, asI_int, letN_eq, wrap_fit (by omega) (by omega)]
    have : (k : Int) - (j : Int) - 1 = (k : Int) - ((j + 1 : Nat) : Int) := by omega
    rw [this]
    rfl
  · intro again
    dsimp only [st]
    have hd : decide ((k : Int) - (k : Int) > 0) = false := by simp
    rw [hd, brK_false]

def mixL (f : Int → Int → Int) (acc p : List Int) (j : Nat) : List Int := (List.zipWith f acc p).take j ++ acc.drop j
theorem mixL_len {f : Int → Int → Int} {acc p : List Int} (h : p.length = acc.length) {j : Nat} (hj : j ≤ acc.length) : (mixL f acc p j).length = acc.length := by
  unfold mixL; simp [h]; omega
theorem mixL_get {f : Int → Int → Int} {acc p : List Int} (h : p.length = acc.length) {j : Nat} (hj : j < acc.length) : (mixL f acc p j)[j]? = some acc[j] := by
  unfold mixL
  rw [List.getElem?_append_right (by simp; omega)]
  simp [h]
  rw [show j - min j acc.length = 0 by omega]
  simp [hj]
theorem mixL_set {f : Int → Int → Int} {acc p : List Int} (h : p.length = acc.length) {j : Nat} (hj : j < acc.length) : (mixL f acc p j).set j (f acc[j] (p[j]'(by omega))) = mixL f acc p (j + 1) := by
  unfold mixL
  have hl : ((List.zipWith f acc p).take j).length = j := by simp [h]; omega
  rw [List.set_append_right _ _ (by omega), hl, Nat.sub_self, List.take_add_one, List.drop_eq_getElem_cons hj, List.set_cons_zero]
  simp [List.getElem?_zipWith, hj, h]
theorem mixL_end {f : Int → Int → Int} {acc p : List Int} (h : p.length = acc.length) : mixL f acc p acc.length = List.zipWith f acc p := by
  unfold mixL
  rw [List.drop_of_length_le (Nat.le_refl _), List.append_nil, List.take_of_length_le (by simp; omega)]
theorem mixL_zero (f : Int → Int → Int) (acc p : List Int) : mixL f acc p 0 = acc := by simp [mixL]

def sumR (F : Nat → Int → Int) (n : Nat) (ls : List (List Int)) : Nat → List Int
  | 0 => List.replicate n 0
  | k + 1 => List.zipWith (fun a x => xor8 a (F k x)) (sumR F n ls k) (ls.getD k [])
theorem sumR_len {F : Nat → Int → Int} {n : Nat} {ls : List (List Int)} (h : ∀ l ∈ ls, l.length = n) : ∀ {k : Nat}, k ≤ ls.length → (sumR F n ls k).length = n
  | 0, _ => by simp [sumR]
  | k + 1, hk => by
    have e : ls.getD k [] = ls[k] := by simp [List.getD_eq_getElem?_getD, List.getElem?_eq_getElem (show k < ls.length by omega)]
    simp only [sumR, List.length_zipWith, e, sumR_len h (show k ≤ ls.length by omega), h _ (List.getElem_mem (show k < ls.length by omega))]
    omega
theorem sumR_byt {F : Nat → Int → Int} {n : Nat} {ls : List (List Int)} : ∀ {k : Nat}, ∀ x ∈ sumR F n ls k, 0 ≤ x ∧ x < 256
  | 0, x, hx => by rw [(List.mem_replicate.1 hx).2]; omega
  | k + 1, x, hx => by
    simp only [sumR] at hx
    rw [List.mem_iff_getElem?] at hx
    obtain ⟨j, hj⟩ := hx
    rw [List.getElem?_zipWith] at hj
    split at hj
    · injection hj with hj; subst hj; exact xor8_range _ _
    · cases hj
def refP (n : Nat) (ls : List (List Int)) : List Int := sumR (fun _ x => x) n ls ls.length
def refQ (n : Nat) (ls : List (List Int)) : List Int := sumR (fun k x => refMul x (refPow k)) n ls ls.length
theorem refP_sec {ls : List (List Int)} (h : ∀ l ∈ ls, l.length = 32) : Sec (refP 32 ls) := ⟨sumR_len h (Nat.le_refl _), sumR_byt⟩
theorem refQ_sec {ls : List (List Int)} (h : ∀ l ∈ ls, l.length = 32) : Sec (refQ 32 ls) := ⟨sumR_len h (Nat.le_refl _), sumR_byt⟩

theorem ref_alike (tg : Tag) {ps : List Part} {n : Nat} (h0 : 0 < ps.length) (h1 : ps.length < 100000) (h : ∀ x ∈ ps, x.2.length = n) : F_wattleref01_alike [.sl tg (pL ps)] = some (.bool true) := by
  rw [F_wattleref01_alike_eq, pL_lent]
  have hlen : (ps.map fun x => (lentT x.1 x.2, x.2)).length = ps.length := by simp
  have hl' : ∀ x ∈ (ps.map fun x => (lentT x.1 x.2, x.2)), x.2.length = n := by intro x hx; obtain ⟨y, hy, rfl⟩ := List.mem_map.1 hx; exact h y hy
  rw [← hlen] at h0 h1
  generalize (ps.map fun x => (lentT x.1 x.2, x.2)) = rs at *
  unfold g_wattleref01_alike
  obtain ⟨x0, hx0⟩ : ∃ x, rs[0]? = some x := ⟨_, List.getElem?_eq_getElem h0⟩
  refine count_loop (fun k => ((pL rs, pL rs, ((pL rs).length : Int), (k : Int), PUnit.unit), PUnit.unit)) rs.length h1 ?_ ?_
  · intro again k hk
    dsimp only
    obtain ⟨x, hx⟩ : ∃ x, rs[k]? = some x := ⟨_, List.getElem?_eq_getElem hk⟩
    have hd : decide ((k : Int) < ((pL rs).length : Int)) = true := by simp; omega
    have hb : (((uL x.2).length : Int) != ((uL x0.2).length : Int)) = false := by simp [hl' x (List.mem_of_getElem? hx), hl' x0 (List.mem_of_getElem? hx0)]
    rw [hd, brK_true, sif_pos (by omega), getK_of (by simpa using pL_get hx), asSl_sl, getK_of (pL_get hx0), asSl_sl, hb, brK_false, letN_eq, wrap_fit (by omega) (by omega)]
    rfl
  · intro again
    have hd : decide ((rs.length : Int) < ((pL rs).length : Int)) = false := by simp
    have hd2 : decide (((pL rs).length : Int) > 0) = true := by simp; omega
    dsimp only
    rw [hd, brK_false, hd2]
theorem ref_p (tg : Tag) {ps : List Part} {n : Nat} (hn : n < 100000) (h0 : 0 < ps.length) (h1 : ps.length < 100000) (h : ∀ x ∈ ps, x.2.length = n) : F_wattleref01_P [.sl tg (pL ps)] = some (.sl .own (uL (refP n (ps.map (·.2))))) := by
  rw [F_wattleref01_P_eq, pL_lent]
  have hlen : (ps.map fun x => (lentT x.1 x.2, x.2)).length = ps.length := by simp
  have hm : (ps.map fun x => (lentT x.1 x.2, x.2)).map (·.2) = ps.map (·.2) := by rw [List.map_map]; rfl
  have hl' : ∀ x ∈ (ps.map fun x => (lentT x.1 x.2, x.2)), x.2.length = n := by intro x hx; obtain ⟨y, hy, rfl⟩ := List.mem_map.1 hx; exact h y hy
  rw [← hlen] at h0 h1
  rw [← hm]
  generalize (ps.map fun x => (lentT x.1 x.2, x.2)) = rs at *
  clear hm hlen h ps
  unfold g_wattleref01_P
  obtain ⟨x0, hx0⟩ : ∃ x, rs[0]? = some x := ⟨_, List.getElem?_eq_getElem h0⟩
  have hls : ∀ l ∈ rs.map (·.2), l.length = n := by intro l hl; obtain ⟨y, hy, rfl⟩ := List.mem_map.1 hl; exact hl' y hy
  rw [ref_alike .lent h0 h1 hl', bindK_some_eq, asB_bool, Bool.not_true, brK_false, getK_of (pL_get hx0), asSl_sl, sif_pos (by rfl), uL_len, hl' x0 (List.mem_of_getElem? hx0), sif_pos (by omega), sif_pos (by omega), sif_pos (by simp), Int.toNat_natCast, uL_rep]
  let st : Nat → (List D × List D × Int × Int × PUnit) × PUnit := fun k => ((uL (sumR (fun _ x => x) n (rs.map (·.2)) k), pL rs, ((pL rs).length : Int), (k : Int), PUnit.unit), PUnit.unit)
  have hst : st 0 = ((uL (List.replicate n 0), pL rs, ((pL rs).length : Int), 0, PUnit.unit), PUnit.unit) := rfl
  rw [← hst]
  refine count_loop st rs.length h1 ?_ ?_
  · intro again k hk
    dsimp only [st]
    obtain ⟨x, hx⟩ : ∃ x, rs[k]? = some x := ⟨_, List.getElem?_eq_getElem hk⟩
    have hxl := hl' x (List.mem_of_getElem? hx)
    have hd : decide ((k : Int) < ((pL rs).length : Int)) = true := by simp; omega
    have hsl := sumR_len (F := fun _ x => x) hls (k := k) (by simp; omega)
    have hxe : x.2.length = (sumR (fun _ x => x) n (rs.map (·.2)) k).length := by omega
    rw [hd, brK_true, sif_pos (by omega), getK_of (by simpa using pL_get hx), asSl_sl, sif_pos (by rfl)]
    let s2 : Nat → (List D × List D × Int × Int × (Tag × List D) × Int × Int × PUnit) × PUnit := fun j => ((uL (mixL (fun a x => xor8 a x) (sumR (fun _ x => x) n (rs.map (·.2)) k) x.2 j), pL rs, ((pL rs).length : Int), (k : Int), (x.1, uL x.2), ((uL x.2).length : Int), (j : Int), PUnit.unit), PUnit.unit)
    have hs2 : s2 0 = ((uL (sumR (fun _ x => x) n (rs.map (·.2)) k), pL rs, ((pL rs).length : Int), (k : Int), (x.1, uL x.2), ((uL x.2).length : Int), 0, PUnit.unit), PUnit.unit) := by simp only [s2, mixL_zero]; rfl
    rw [← hs2]
    refine count_loop s2 x.2.length (by omega) ?_ ?_
    · intro again2 j hj
      dsimp only [s2]
      have hd : decide ((j : Int) < ((uL x.2).length : Int)) = true := by simp; omega
      have g1 : x.2[j]? = some x.2[j] := List.getElem?_eq_getElem hj
      have g2 := mixL_get (f := fun a x => xor8 a x) hxe (j := j) (by omega)
      have ml := mixL_len (f := fun a x => xor8 a x) hxe (j := j) (by omega)
      have ms := mixL_set (f := fun a x => xor8 a x) hxe (j := j) (by omega)
      rw [hd, brK_true, sif_pos (by omega), getK_of (by simpa using uL_get g1), asI_int, sif_pos (by omega), sif_pos (by rw [uL_len, ml]; omega), getK_of (by simpa using uL_get g2), asI_int, letN_eq, sif_pos (by omega), sif_pos (by rw [uL_len, ml]; omega), getK_of (by simpa using uL_get g2), sif_pos (by rfl), letN_eq,
        wrap_fit (by omega) (by omega), sif_pos (by simp), Nat.zero_add, uL_set, show Int.toNat (j : Int) = j from rfl, ms]
      rfl
    · intro again2
      dsimp only [s2]
      have hd : decide ((x.2.length : Int) < ((uL x.2).length : Int)) = false := by simp
      have me : mixL (fun a x => xor8 a x) (sumR (fun _ x => x) n (rs.map (·.2)) k) x.2 x.2.length = sumR (fun _ x => x) n (rs.map (·.2)) (k + 1) := by
        rw [hxe, mixL_end hxe]
        have : (rs.map (·.2)).getD k [] = x.2 := by simp [List.getD_eq_getElem?_getD, hx]
        simp only [sumR, this]
      rw [hd, brK_false, letN_eq, wrap_fit (by omega) (by omega), sif_pos (by rfl), me]
      rfl
  · intro again
    dsimp only [st]
    have hd : decide ((rs.length : Int) < ((pL rs).length : Int)) = false := by simp
    rw [hd, brK_false, sif_pos (by rfl), sif_pos (uL_free _)]
    simp [refP]
theorem ref_q (tg : Tag) {ps : List Part} {n : Nat} (hn : n < 100000) (h0 : 0 < ps.length) (h1 : ps.length < 255) (h : ∀ x ∈ ps, x.2.length = n) : F_wattleref01_Q [.sl tg (pL ps)] = some (.sl .own (uL (refQ n (ps.map (·.2))))) := by
  rw [F_wattleref01_Q_eq, pL_lent]
  have hlen : (ps.map fun x => (lentT x.1 x.2, x.2)).length = ps.length := by simp
  have hm : (ps.map fun x => (lentT x.1 x.2, x.2)).map (·.2) = ps.map (·.2) := by rw [List.map_map]; rfl
  have hl' : ∀ x ∈ (ps.map fun x => (lentT x.1 x.2, x.2)), x.2.length = n := by intro x hx; obtain ⟨y, hy, rfl⟩ := List.mem_map.1 hx; exact h y hy
  rw [← hlen] at h0 h1
  rw [← hm]
  generalize (ps.map fun x => (lentT x.1 x.2, x.2)) = rs at *
  clear hm hlen h ps
  unfold g_wattleref01_Q
  obtain ⟨x0, hx0⟩ : ∃ x, rs[0]? = some x := ⟨_, List.getElem?_eq_getElem h0⟩
  have hls : ∀ l ∈ rs.map (·.2), l.length = n := by intro l hl; obtain ⟨y, hy, rfl⟩ := List.mem_map.1 hl; exact hl' y hy
  rw [ref_alike .lent h0 (by omega) hl', bindK_some_eq, asB_bool, Bool.not_true, brK_false, getK_of (pL_get hx0), asSl_sl, sif_pos (by rfl), uL_len, hl' x0 (List.mem_of_getElem? hx0), sif_pos (by omega), sif_pos (by omega), sif_pos (by simp), Int.toNat_natCast, uL_rep]
  let st : Nat → (List D × List D × Int × Int × PUnit) × PUnit := fun k => ((uL (sumR (fun k x => refMul x (refPow k)) n (rs.map (·.2)) k), pL rs, ((pL rs).length : Int), (k : Int), PUnit.unit), PUnit.unit)
  have hst : st 0 = ((uL (List.replicate n 0), pL rs, ((pL rs).length : Int), 0, PUnit.unit), PUnit.unit) := rfl
  rw [← hst]
  refine count_loop st rs.length (by omega) ?_ ?_
  · intro again k hk
    dsimp only [st]
    obtain ⟨x, hx⟩ : ∃ x, rs[k]? = some x := ⟨_, List.getElem?_eq_getElem hk⟩
    have hxl := hl' x (List.mem_of_getElem? hx)
    have hd : decide ((k : Int) < ((pL rs).length : Int)) = true := by simp; omega
    have hsl := sumR_len (F := fun k x => refMul x (refPow k)) hls (k := k) (by simp; omega)
    have hxe : x.2.length = (sumR (fun k x => refMul x (refPow k)) n (rs.map (·.2)) k).length := by omega
    rw [hd, brK_true, sif_pos (by omega), getK_of (by simpa using pL_get hx), asSl_sl, ref_pow k (by omega), bindK_some_eq, asI_int, sif_pos (by rfl)]
    let s2 : Nat → (List D × Int × List D × Int × Int × (Tag × List D) × Int × Int × PUnit) × PUnit := fun j => ((uL (mixL (fun a x => xor8 a (refMul x (refPow k))) (sumR (fun k x => refMul x (refPow k)) n (rs.map (·.2)) k) x.2 j), refPow k, pL rs, ((pL rs).length : Int), (k : Int), (x.1, uL x.2), ((uL x.2).length : Int), (j : Int), PUnit.unit), PUnit.unit)
    have hs2 : s2 0 = ((uL (sumR (fun k x => refMul x (refPow k)) n (rs.map (·.2)) k), refPow k, pL rs, ((pL rs).length : Int), (k : Int), (x.1, uL x.2), ((uL x.2).length : Int), 0, PUnit.unit), PUnit.unit) := by simp only [s2, mixL_zero]; rfl
    rw [← hs2]
    refine count_loop s2 x.2.length (by omega) ?_ ?_
    · intro again2 j hj
      dsimp only [s2]
      have hd : decide ((j : Int) < ((uL x.2).length : Int)) = true := by simp; omega
      have g1 : x.2[j]? = some x.2[j] := List.getElem?_eq_getElem hj
      have g2 := mixL_get (f := fun a x => xor8 a (refMul x (refPow k))) hxe (j := j) (by omega)
      have ml := mixL_len (f := fun a x => xor8 a (refMul x (refPow k))) hxe (j := j) (by omega)
      have ms := mixL_set (f := fun a x => xor8 a (refMul x (refPow k))) hxe (j := j) (by omega)
      rw [hd, brK_true, sif_pos (by omega), getK_of (by simpa using uL_get g1), asI_int, sif_pos (by omega), sif_pos (by rw [uL_len, ml]; omega), getK_of (by simpa using uL_get g2), asI_int, ref_mul, bindK_some_eq, asI_int, letN_eq, sif_pos (by omega), sif_pos (by rw [uL_len, ml]; omega), getK_of (by simpa using uL_get g2), sif_pos (by rfl), letN_eq,
        wrap_fit (by omega) (by omega), sif_pos (by simp), Nat.zero_add, uL_set, show Int.toNat (j : Int) = j from rfl, ms]
      rfl
    · intro again2
      dsimp only [s2]
      have hd : decide ((x.2.length : Int) < ((uL x.2).length : Int)) = false := by simp
      have me : mixL (fun a x => xor8 a (refMul x (refPow k))) (sumR (fun k x => refMul x (refPow k)) n (rs.map (·.2)) k) x.2 x.2.length = sumR (fun k x => refMul x (refPow k)) n (rs.map (·.2)) (k + 1) := by
        rw [hxe, mixL_end hxe]
        have : (rs.map (·.2)).getD k [] = x.2 := by simp [List.getD_eq_getElem?_getD, hx]
        simp only [sumR, this]
      rw [hd, brK_false, letN_eq, wrap_fit (by omega) (by omega), sif_pos (by rfl), me]
      rfl
  · intro again
    dsimp only [st]
    have hd : decide ((rs.length : Int) < ((pL rs).length : Int)) = false := by simp
    rw [hd, brK_false, sif_pos (by rfl), sif_pos (uL_free _)]
    simp [refQ]
end Wf

/-
  Rows are made, plainly.
-/
namespace Wf
open Go Go.RowKit Go.Proofs
set_option linter.unusedSimpArgs false
set_option linter.unusedVariables false

/-- So many sectors of numbers. -/
def secL (l : List Int) (n : Nat) : List (List Int) := (List.range n).map fun (i : Nat) => secN (l.getD i (3 * (i : Int)))
theorem secL_sec (l : List Int) (n : Nat) : ∀ x ∈ secL l n, Sec x := by
  intro x hx; obtain ⟨i, _, rfl⟩ := List.mem_map.1 hx; exact secN_sec _
@[simp] theorem secL_len (l : List Int) (n : Nat) : (secL l n).length = n := by simp [secL]
theorem fP_snoc (ls : List (List Int)) (l : List Int) : pL (fP ls) ++ [.sl .fresh (uL l)] = pL (fP (ls ++ [l])) := by simp [pL, fP]
theorem sectors_play (tg : Tag) (l : List Int) {n : Nat} (hn : n < 100000) : F_wattleplay_Sectors [.sl tg (intL l), .int .i64 n] = some (.sl .own (pL (fP (secL l n)))) := by
  rw [F_wattleplay_Sectors_eq, intL_lent]
  unfold g_wattleplay_Sectors
  let st : Nat → (List D × Int × List D × Int × PUnit) × PUnit := fun k => ((intL l, (n : Int), pL (fP (secL l k)), (k : Int), PUnit.unit), PUnit.unit)
  show loopN _ (st 0) = _
  refine count_loop st n hn ?_ ?_
  · intro again k hk
    dsimp only [st]
    have hd : decide ((k : Int) < (n : Int)) = true := by simp; omega
    have hs : secL l (k + 1) = secL l k ++ [secN (l.getD k (3 * (k : Int)))] := by unfold secL; rw [List.range_succ, List.map_append]; rfl
    rw [hd, brK_true, letN_eq, intL_len, hs, ← fP_snoc]
    by_cases hkl : k < l.length
    · have hd2 : decide ((k : Int) < (l.length : Int)) = true := by simp; omega
      have hg : l.getD k (3 * (k : Int)) = l[k] := by simp [List.getD_eq_getElem?_getD, hkl]
      rw [hd2, brK_true, sif_pos (by omega), getK_of (by simpa using intL_get hkl), asI_int, sector_play, bindK_some_eq, asOwn_own, sif_pos (by omega), sif_pos (by simp; omega), sif_pos (by rfl), letN_eq, wrap_fit (n := (k : Int) + 1) (by omega) (by omega), cut_whole, sif_pos (by simp), hg]
      rfl
    · have hd2 : decide ((k : Int) < (l.length : Int)) = false := by simp; omega
      have hg : l.getD k (3 * (k : Int)) = 3 * (k : Int) := by simp [List.getD_eq_getElem?_getD, List.getElem?_eq_none (show l.length ≤ k by omega)]
      rw [hd2, brK_false, wrap_fit (n := 3 * (k : Int)) (by omega) (by omega), sector_play, bindK_some_eq, asOwn_own, sif_pos (by omega), sif_pos (by simp; omega), sif_pos (by rfl), letN_eq, wrap_fit (n := (k : Int) + 1) (by omega) (by omega), cut_whole, sif_pos (by simp), hg]
      rfl
  · intro again
    dsimp only [st]
    have hd : decide ((n : Int) < (n : Int)) = false := by simp
    rw [hd, brK_false, sif_pos (by rfl), sif_pos (fP_free _)]

def fillP (g : Geo) (row : Int) (ls : List (List Int)) : Nat → List Part
  | 0 => List.replicate g.d.toNat (Tag.nil, [])
  | k + 1 => (fillP g row ls k).set (diskP g row (k : Int)).toNat (Tag.fresh, ls.getD k [])
def fillF (g : Geo) (row : Int) (ls : List (List Int)) : List Part :=
  let a := (fillP g row ls g.width.toNat).set (parP g row).1.toNat (Tag.fresh, refP 32 ls)
  if (parP g row).2 < 0 then a else a.set (parP g row).2.toNat (Tag.fresh, refQ 32 ls)
theorem fillP_len (g : Geo) (row : Int) (ls : List (List Int)) (k : Nat) : (fillP g row ls k).length = g.d.toNat := by
  induction k with
  | zero => simp [fillP]
  | succ k ih => simp [fillP, ih]
theorem fillF_len (g : Geo) (row : Int) (ls : List (List Int)) : (fillF g row ls).length = g.d.toNat := by
  unfold fillF
  dsimp only
  split <;> simp [fillP_len]
theorem fillP_free (g : Geo) (row : Int) (ls : List (List Int)) (k : Nat) : ∀ x ∈ fillP g row ls k, Part.free x = true := by
  induction k with
  | zero => intro x hx; rw [(List.mem_replicate.1 hx).2]; rfl
  | succ k ih =>
    intro x hx
    rcases List.mem_or_eq_of_mem_set hx with hx | hx
    · exact ih x hx
    · rw [hx]; rfl
theorem set_free {ps : List Part} (h : ∀ x ∈ ps, Part.free x = true) (i : Nat) (l : List Int) : ∀ x ∈ ps.set i (Tag.fresh, l), Part.free x = true := by
  intro x hx
  rcases List.mem_or_eq_of_mem_set hx with hx | hx
  · exact h x hx
  · rw [hx]; rfl
theorem disk_ref2 (g : Geo) (row k : Int) : F_wattleref01_Disk [.agg [.int .i64 g.l, .int .i64 g.d, .int .i64 g.c], .int .i64 row, .int .i64 k] = some (.int .i64 (diskP g row k)) := disk_ref g row k
theorem par_ref2 (g : Geo) (row : Int) : F_wattleref01_Parity [.agg [.int .i64 g.l, .int .i64 g.d, .int .i64 g.c], .int .i64 row] = some (.tup [.int .i64 (parP g row).1, .int .i64 (parP g row).2]) := par_ref g row
theorem fine_ref2 (g : Geo) (row : Int) : F_wattleref01_fine [.agg [.int .i64 g.l, .int .i64 g.d, .int .i64 g.c], .int .i64 row] = some (.bool (fineP g row)) := fine_ref g row
theorem width_ref2 (g : Geo) : F_wattleref01_Width [.agg [.int .i64 g.l, .int .i64 g.d, .int .i64 g.c]] = some (.int .i64 g.width) := width_geoR g
theorem isAgg_sl (t : Tag) (l : List D) : D.isAgg (.sl t l) = false := rfl
theorem nilParts (n : Nat) : pL (List.replicate n (Tag.nil, [])) = List.replicate n (D.sl .nil []) := by simp [pL, uL]
theorem ref_fill {g : Geo} {row : Int} (h : fineP g row = true) (tg : Tag) {ps : List Part} (hl : (ps.length : Int) = g.width) (hs : ∀ x ∈ ps, Sec x.2) :
    F_wattleref01_Fill [.agg [.int .i64 g.l, .int .i64 g.d, .int .i64 g.c], .int .i64 row, .sl tg (pL ps)] = some (.tup [.sl .own (pL (fillF g row (ps.map (·.2)))), .bool true]) := by
  rw [F_wattleref01_Fill_eq, pL_lent]
  have hlen : (ps.map fun x => (lentT x.1 x.2, x.2)).length = ps.length := by simp
  have hm : (ps.map fun x => (lentT x.1 x.2, x.2)).map (·.2) = ps.map (·.2) := by rw [List.map_map]; rfl
  have hl' : ∀ x ∈ (ps.map fun x => (lentT x.1 x.2, x.2)), Sec x.2 := by intro x hx; obtain ⟨y, hy, rfl⟩ := List.mem_map.1 hx; exact hs y hy
  rw [← hlen] at hl
  rw [← hm]
  generalize (ps.map fun x => (lentT x.1 x.2, x.2)) = rs at *
  clear hm hlen hs ps
  unfold g_wattleref01_Fill
  obtain ⟨hk, r0, r1⟩ := fine_iff.1 h
  have hw := width_ok hk
  have hdd := ok_d hk
  have hb : ((((pL rs).length : Nat) : Int) != g.width) = false := by simp [hl]
  rw [fine_ref2, bindK_some_eq, asB_bool, h, Bool.not_true, brK_false, width_ref2, bindK_some_eq, asI_int, hb, brK_false, sif_pos (by omega), sif_pos (by rfl), sif_pos (by omega), sif_pos (by omega), sif_pos (by simp)]
  let st : Nat → (Int × List D × (Int × Int × Int × PUnit) × List D × List D × Int × Int × PUnit) × PUnit := fun k => ((row, pL rs, (g.l, g.d, g.c, PUnit.unit), pL (fillP g row (rs.map (·.2)) k), pL rs, ((pL rs).length : Int), (k : Int), PUnit.unit), PUnit.unit)
  have hst : st 0 = ((row, pL rs, (g.l, g.d, g.c, PUnit.unit), List.replicate g.d.toNat (D.sl .nil []), pL rs, ((pL rs).length : Int), 0, PUnit.unit), PUnit.unit) := by
    simp only [st, fillP, nilParts]; rfl
  rw [← hst]
  have hrl : rs.length = g.width.toNat := by omega
  refine count_loop st rs.length (by omega) ?_ ?_
  · intro again k hk'
    dsimp only [st]
    obtain ⟨x, hx⟩ : ∃ x, rs[k]? = some x := ⟨_, List.getElem?_eq_getElem hk'⟩
    have hxs := hl' x (List.mem_of_getElem? hx)
    have hd : decide ((k : Int) < ((pL rs).length : Int)) = true := by simp; omega
    have hb2 : (((uL x.2).length : Int) != 32) = false := by simp [hxs.len]
    have hdi := disk_in h (k := (k : Int)) (by omega) (by omega)
    have hfl := fillP_len g row (rs.map (·.2)) k
    obtain ⟨y, hy⟩ : ∃ y, (fillP g row (rs.map (·.2)) k)[(diskP g row (k : Int)).toNat]? = some y := ⟨_, List.getElem?_eq_getElem (by omega)⟩
    have hgd : (rs.map (·.2)).getD k [] = x.2 := by simp [List.getD_eq_getElem?_getD, hx]
    rw [hd, brK_true, sif_pos (by omega), getK_of (by simpa using pL_get hx), asSl_sl, hb2, brK_false, disk_ref2, bindK_some_eq, asI_int, sif_pos (by rw [uL_len, hxs.len]; omega), sif_pos (uL_okEls _), sif_pos hdi.1, sif_pos (by rw [pL_len, hfl]; omega), sif_pos (by omega), getK_of (by simpa using pL_get hy), sif_pos (by omega),
      sif_pos (isAgg_sl _ _), letN_eq, wrap_fit (by omega) (by omega), cut_whole, sif_pos (by simp), Nat.zero_add, pL_set]
    simp only [fillP, hgd]
    rfl
  · intro again
    dsimp only [st]
    have hd : decide ((rs.length : Int) < ((pL rs).length : Int)) = false := by simp
    obtain ⟨p0, p1, p2⟩ := par_in2 h
    have hfl := fillP_len g row (rs.map (·.2)) rs.length
    obtain ⟨y, hy⟩ : ∃ y, (fillP g row (rs.map (·.2)) rs.length)[(parP g row).1.toNat]? = some y := ⟨_, List.getElem?_eq_getElem (by omega)⟩
    have hrp := ref_p (n := 32) .lent (ps := rs) (by omega) (by omega) (by omega) (fun x hx => (hl' x hx).len)
    have hrq := ref_q (n := 32) .lent (ps := rs) (by omega) (by omega) (by omega) (fun x hx => (hl' x hx).len)
    have hff : fillF g row (rs.map (·.2)) = if (parP g row).2 < 0 then (fillP g row (rs.map (·.2)) rs.length).set (parP g row).1.toNat (Tag.fresh, refP 32 (rs.map (·.2))) else ((fillP g row (rs.map (·.2)) rs.length).set (parP g row).1.toNat (Tag.fresh, refP 32 (rs.map (·.2)))).set (parP g row).2.toNat (Tag.fresh, refQ 32 (rs.map (·.2))) := by
      unfold fillF; rw [hrl]
    have hfree := set_free (fillP_free g row (rs.map (·.2)) rs.length) (parP g row).1.toNat (refP 32 (rs.map (·.2)))
    rw [hd, brK_false, par_ref2, bindK_some_eq, asTup_tup, getCells_any, getCells_any, getCells_nil]
    dsimp only
    rw [asI_int, asI_int, hrp, bindK_some_eq, asOwn_own, sif_pos p0, sif_pos (by rw [pL_len, hfl]; omega), sif_pos (by omega), getK_of (by simpa using pL_get hy), sif_pos (by omega), sif_pos (isAgg_sl _ _), hff]
    rcases p2 with p2 | ⟨q0, q1⟩
    · have hd2 : decide ((parP g row).2 ≥ 0) = false := by simp; omega
      rw [hd2, brK_false, if_pos (by omega), cut_whole, Nat.zero_add, pL_set, sif_pos (by simp), sif_pos (pL_free hfree)]
    · have hd2 : decide ((parP g row).2 ≥ 0) = true := by simp; omega
      obtain ⟨z, hz⟩ : ∃ z, ((fillP g row (rs.map (·.2)) rs.length).set (parP g row).1.toNat (Tag.fresh, refP 32 (rs.map (·.2))))[(parP g row).2.toNat]? = some z := ⟨_, List.getElem?_eq_getElem (by simp [hfl]; omega)⟩
      rw [hd2, brK_true, if_neg (by omega), hrq, bindK_some_eq, asOwn_own, sif_pos q0, sif_pos (by rw [pL_len, hfl]; omega), sif_pos (by omega), cut_whole, Nat.zero_add, pL_set, getK_of (by simpa using pL_get hz), sif_pos (by omega), sif_pos (isAgg_sl _ _), cut_whole, Nat.zero_add, pL_set, sif_pos (by simp), sif_pos (pL_free (set_free hfree _ _))]
end Wf

/-
  A filled bench, plainly.
-/
namespace Wf
open Go Go.RowKit Go.Proofs
set_option linter.unusedSimpArgs false
set_option linter.unusedVariables false

structure Ben.Clean (B : Ben) (n : Nat) : Prop where
  len : B.ds.length = n
  up : B.down = false
  ds : ∀ s ∈ B.ds, s.failed = false ∧ s.pend = [] ∧ s.Ok
theorem new_clean (n : Nat) : (Ben.new n).Clean n := ⟨by simp [Ben.new], rfl, fun s hs => by
  unfold Ben.new at hs
  rw [(List.mem_replicate.1 hs).2]
  exact ⟨rfl, rfl, new_ok⟩⟩
theorem clean_damage {B : Ben} {n : Nat} (h : B.Clean n) (d a : Int) {x : List Int} (hx : Sec x ∨ x.length ≠ 32) : (B.damage d a x).2.Clean n := by
  unfold Ben.damage
  split
  · split
    · rename_i s e
      obtain ⟨h1, h2, h3⟩ := h.ds s (List.mem_of_getElem? e)
      refine ⟨by simp [h.len], h.up, fun u hu => ?_⟩
      rcases List.mem_or_eq_of_mem_set hu with hu | hu
      · exact h.ds u hu
      · subst hu
        unfold DS.damage
        dsimp only
        split
        · rename_i he
          obtain ⟨p1, p2, p3, p4, p5⟩ := putR_ok he
          rcases hx with hx | hx
          · exact ⟨h1, h2, setSec_ok h3 (by omega) hx⟩
          · exact absurd p2 hx
        · exact ⟨h1, h2, h3⟩
    · exact h
  · exact h
/-- So many disks' sectors are set. -/
def Ben.damages (B : Ben) (a : Int) (xs : List (List Int)) : Nat → Ben
  | 0 => B
  | k + 1 => ((B.damages a xs k).damage (k : Int) a (xs.getD k [])).2
theorem clean_damages {B : Ben} {n : Nat} (h : B.Clean n) (a : Int) {xs : List (List Int)} (hx : ∀ x ∈ xs, Sec x ∨ x.length ≠ 32) : ∀ k, (B.damages a xs k).Clean n
  | 0 => h
  | k + 1 => clean_damage (clean_damages h a hx k) _ _ (by
    rw [List.getD_eq_getElem?_getD]
    cases e : xs[k]? with
    | none => exact .inr (by simp)
    | some x => exact hx x (List.mem_of_getElem? e))
def rowL (g : Geo) (l : List Int) (r : Nat) : List (List Int) := secL (l.drop (min r l.length)) g.width.toNat
def rowS (g : Geo) (l : List Int) (r : Nat) : List (List Int) := (fillF g (r : Int) (rowL g l r)).map (·.2)
def Ben.fills (g : Geo) (l : List Int) (n : Nat) : Nat → Ben
  | 0 => .new n
  | r + 1 => (Ben.fills g l n r).damages (36 + (r : Int)) (rowS g l r) (min g.d.toNat n)
theorem rowL_sec (g : Geo) (l : List Int) (r : Nat) : ∀ x ∈ rowL g l r, Sec x := secL_sec _ _
theorem fillP_sec (g : Geo) (row : Int) {ls : List (List Int)} (h : ∀ x ∈ ls, Sec x) (k : Nat) (hk : k ≤ ls.length) : ∀ x ∈ fillP g row ls k, Sec x.2 ∨ x.2.length ≠ 32 := by
  induction k with
  | zero => intro x hx; rw [(List.mem_replicate.1 hx).2]; exact .inr (by simp)
  | succ k ih =>
    intro x hx
    rcases List.mem_or_eq_of_mem_set hx with hx | hx
    · exact ih (by omega) x hx
    · rw [hx]
      have : ls.getD k [] = ls[k]'(by omega) := by simp [List.getD_eq_getElem?_getD, List.getElem?_eq_getElem (show k < ls.length by omega)]
      exact .inl (by dsimp only; rw [this]; exact h _ (List.getElem_mem _))
theorem set_sec {ps : List Part} (h : ∀ x ∈ ps, Sec x.2 ∨ x.2.length ≠ 32) (i : Nat) {l : List Int} (hl : Sec l) : ∀ x ∈ ps.set i (Tag.fresh, l), Sec x.2 ∨ x.2.length ≠ 32 := by
  intro x hx
  rcases List.mem_or_eq_of_mem_set hx with hx | hx
  · exact h x hx
  · rw [hx]; exact .inl hl
theorem fillF_sec (g : Geo) (row : Int) {ls : List (List Int)} (h : ∀ x ∈ ls, Sec x) (hl : g.width.toNat ≤ ls.length) : ∀ x ∈ fillF g row ls, Sec x.2 ∨ x.2.length ≠ 32 := by
  have h32 : ∀ l ∈ ls, l.length = 32 := fun l hl => (h l hl).len
  have h1 := set_sec (fillP_sec g row h g.width.toNat hl) (parP g row).1.toNat (refP_sec h32)
  unfold fillF
  dsimp only
  split
  · exact h1
  · exact set_sec h1 _ (refQ_sec h32)
theorem rowS_sec (g : Geo) (l : List Int) (r : Nat) : ∀ x ∈ rowS g l r, Sec x ∨ x.length ≠ 32 := by
  intro x hx
  obtain ⟨y, hy, rfl⟩ := List.mem_map.1 hx
  exact fillF_sec g r (rowL_sec g l r) (by simp [rowL]) y hy
theorem fills_clean (g : Geo) (l : List Int) (n : Nat) : ∀ r, (Ben.fills g l n r).Clean n
  | 0 => new_clean n
  | r + 1 => clean_damages (fills_clean g l n r) _ (rowS_sec g l r) _

theorem intL_drop (l : List Int) (n : Nat) : (intL l).drop n = intL (l.drop n) := by simp [intL, List.map_drop]
theorem intL_rowOk (l : List Int) : rowOk 1 (intL l) = true := by simp [rowOk, intL, D.cell, D.width]
theorem cutI_drop (l : List Int) (r : Nat) : cutI (min (r : Int) (l.length : Int)) (l.length : Int) (intL l) = intL (l.drop (min r l.length)) := by
  unfold cutI
  have : (min (r : Int) (l.length : Int)).toNat = min r l.length := by omega
  rw [this, intL_drop, List.take_of_length_le (by rw [intL_len]; simp; omega)]

theorem filled {g : Geo} (hk : g.ok = true) {n : Nat} (n0 : 1 ≤ n) (n8 : n ≤ 8) (tg : Tag) (l : List Int) (T0 T1 : Tb) :
    ∃ T0' T1', F_wattlelaw14_Filled [.agg [.int .i64 g.l, .int .i64 g.d, .int .i64 g.c], .int .i64 n, .sl tg (intL l)] [T0, T1] = some (Ans.mk (.h 5312 T0.length 0) [] [T0', T1']) ∧ At T0' T1' T0.length (Ben.fills g l n 16) ((List.range n).map fun j => T1.length + j) := by
  rw [F_wattlelaw14_Filled_eq, intL_lent]
  unfold g_wattlelaw14_Filled
  have hb0 : ((0 : Int) != 0) = false := rfl
  rw [b_new_ok T0 T1 (by omega) (by omega), bindK_some_eq, nilK_nil, consK_cons, consK_cons, nilK_nil, asTup_tup, getCells_any, getCells_any, getCells_nil]
  dsimp only
  rw [sif_pos (by rfl), asI_int, hb0, brK_false, asNil_h, brK_false, Int.toNat_natCast]
  generalize hidx : ((List.range n).map fun j => T1.length + j) = idx
  have hat := new_at T0 T1 (n := n) n8
  rw [hidx] at hat
  have hw := width_ok hk
  have hdd := ok_d hk
  let Q : Ans → Prop := fun r => ∃ T0' T1', r = Ans.mk (.h 5312 T0.length 0) [] [T0', T1'] ∧ At T0' T1' T0.length (Ben.fills g l n 16) idx
  have main : ∀ {x : Option Ans}, (∃ r, x = some r ∧ Q r) → ∃ T0' T1', x = some (Ans.mk (.h 5312 T0.length 0) [] [T0', T1']) ∧ At T0' T1' T0.length (Ben.fills g l n 16) idx := by
    rintro x ⟨r, rfl, T0', T1', rfl, h⟩
    exact ⟨T0', T1', rfl, h⟩
  refine main ?_
  refine loopN_ex (fun a => (16 : Nat) - a.1.2.2.2.2.1.toNat) Q
    (fun a => ∃ (r : Nat) (U V : Tb), r ≤ 16 ∧ At U V T0.length (Ben.fills g l n r) idx ∧ a = (((n : Int), intL l, (g.l, g.d, g.c, PUnit.unit), .h 5312 T0.length 0, (r : Int), PUnit.unit), U, V, PUnit.unit)) ?_ ⟨0, _, _, by omega, hat, rfl⟩ (by simp)
  rintro again _ ⟨r, U, V, hr, hA, rfl⟩ hag
  dsimp only
  by_cases hr16 : r < 16
  · have hd : decide ((r : Int) < 16) = true := by simp; omega
    have hfine : fineP g (r : Int) = true := fine_iff.2 ⟨hk, by omega, by omega⟩
    have hwn : ((g.width.toNat : Nat) : Int) = g.width := by omega
    rw [hd, brK_true, letN_eq, intL_len, sif_pos (by omega), sif_pos (by omega), sif_pos (by omega), sif_pos (by rfl), sif_pos (intL_rowOk l), width_ref2, bindK_some_eq, asI_int, cutI_drop, ← hwn, sectors_play _ _ (by omega), bindK_some_eq, asOwn_own, sif_pos (by omega), cut_whole]
    have hfill := ref_fill hfine .lent (ps := fP (rowL g l r)) (by simp [rowL]; omega) (by intro x hx; obtain ⟨y, hy, rfl⟩ := List.mem_map.1 hx; exact rowL_sec g l r y hy)
    rw [fP_snd] at hfill
    unfold rowL at hfill
    rw [hfill, bindK_some_eq, asTup_tup, getCells_any, getCells_any, getCells_nil]
    dsimp only
    rw [asOwn_own, asB_bool, sif_pos (by rfl)]
    have hxs : secL (l.drop (min r l.length)) g.width.toNat = rowL g l r := rfl
    rw [hxs]
    have hlen := fillF_len g (r : Int) (rowL g l r)
    refine loopN_ex (fun a => (8 : Nat) - a.1.2.2.2.2.2.2.2.1.toNat) Q
      (fun a => ∃ (k : Nat) (U V : Tb), k ≤ min g.d.toNat n ∧ At U V T0.length ((Ben.fills g l n r).damages (36 + (r : Int)) (rowS g l r) k) idx ∧
        a = (((n : Int), intL l, (g.l, g.d, g.c, PUnit.unit), .h 5312 T0.length 0, (r : Int), pL (fillF g (r : Int) (rowL g l r)), true, (k : Int), PUnit.unit), U, V, PUnit.unit)) ?_ ⟨0, U, V, by omega, hA, rfl⟩ (by simp)
    rintro again2 _ ⟨k, U2, V2, hk2, hA2, rfl⟩ hag2
    dsimp only
    rw [brK_true, sif_pos (by omega)]
    have hdone : k = min g.d.toNat n → ∃ r', again (((n : Int), intL l, (g.l, g.d, g.c, PUnit.unit), .h 5312 T0.length 0, ((r + 1 : Nat) : Int), PUnit.unit), U2, V2, PUnit.unit) = some r' ∧ Q r' := by
      intro e
      refine hag _ ⟨r + 1, U2, V2, by omega, ?_, rfl⟩ (by simp; omega)
      show At U2 V2 T0.length ((Ben.fills g l n r).damages (36 + (r : Int)) (rowS g l r) (min g.d.toNat n)) idx
      rw [← e]; exact hA2
    by_cases h1 : k < g.d.toNat
    · have hd1 : decide ((k : Int) < ((pL (fillF g (r : Int) (rowL g l r))).length : Int)) = true := by simp [hlen]; omega
      by_cases h2 : k < n
      · have hd2 : decide ((k : Int) < (n : Int)) = true := by simp; omega
        obtain ⟨x, hx⟩ : ∃ x, (fillF g (r : Int) (rowL g l r))[k]? = some x := ⟨_, List.getElem?_eq_getElem (by omega)⟩
        have hxs2 := fillF_sec g (r : Int) (rowL_sec g l r) (by simp [rowL]) x (List.mem_of_getElem? hx)
        have hcl := clean_damages (fills_clean g l n r) (36 + (r : Int)) (rowS_sec g l r) k
        obtain ⟨V3, e1, e2⟩ := b_damage hA2 (k : Int) (a := 36 + (r : Int)) (fun s hs w hw => by rw [(hcl.ds s hs).2.1] at hw; cases hw) x.1 (x := x.2) hxs2
        rw [hd1, brK_true, hd2, brK_true, letN_eq, wrap_fit (n := 36 + (r : Int)) (by omega) (by omega), sif_pos (by omega), sif_pos (by rw [pL_len, hlen]; omega), getK_of (by simpa using pL_get hx), asSl_sl, e1, bindK_some_eq, nilK_nil, consK_cons, nilK_nil, asI_int, letN_eq, wrap_fit (n := (k : Int) + 1) (by omega) (by omega), sif_pos (by rfl)]
        refine hag2 _ ⟨k + 1, U2, V3, by omega, ?_, rfl⟩ (by simp; omega)
        have hgd : (rowS g l r).getD k [] = x.2 := by unfold rowS; simp [List.getD_eq_getElem?_getD, hx]
        show At U2 V3 T0.length (((Ben.fills g l n r).damages (36 + (r : Int)) (rowS g l r) k).damage (k : Int) (36 + (r : Int)) ((rowS g l r).getD k [])).2 idx
        rw [hgd]; exact e2
      · have hd2 : decide ((k : Int) < (n : Int)) = false := by simp; omega
        rw [hd1, brK_true, hd2, brK_false, letN_eq, wrap_fit (by omega) (by omega)]
        exact hdone (by omega)
    · have hd1 : decide ((k : Int) < ((pL (fillF g (r : Int) (rowL g l r))).length : Int)) = false := by simp [hlen]; omega
      rw [hd1, brK_false, letN_eq, wrap_fit (by omega) (by omega)]
      exact hdone (by omega)
  · have hd : decide ((r : Int) < 16) = false := by simp; omega
    have : r = 16 := by omega
    subst this
    rw [hd, brK_false, sif_pos (by rfl)]
    exact ⟨_, rfl, U, V, rfl, hA⟩
end Wf

/-
  Reading with at most one disk lost, plainly.
-/
namespace Wf
open Go Go.RowKit Go.Proofs
set_option linter.unusedSimpArgs false
set_option linter.unusedVariables false

theorem missK_nil {ls : List (List Int)} : ∀ {n : Nat}, (∀ i, i < n → ls.getD i [] ≠ []) → missK ls n = []
  | 0, _ => rfl
  | n + 1, h => by
    rw [missK_succ, missK_nil (fun i hi => h i (by omega)), if_neg (by simpa using h n (by omega))]; rfl
theorem missK_one {ls : List (List Int)} {k0 : Nat} (h0 : ls.getD k0 [] = []) : ∀ {n : Nat}, k0 < n → (∀ i, i < n → i ≠ k0 → ls.getD i [] ≠ []) → missK ls n = [(k0 : Int)]
  | 0, h, _ => absurd h (Nat.not_lt_zero _)
  | n + 1, h, hn => by
    rw [missK_succ]
    by_cases e : n = k0
    · subst e
      rw [missK_nil (fun i hi => hn i (by omega) (by omega)), if_pos (by rw [h0]; rfl)]; rfl
    · rw [missK_one h0 (by omega) (fun i hi hne => hn i (by omega) hne), if_neg (by simpa using hn n (by omega) e)]; rfl
theorem miss_pq (p q : List Int) : (miss [p, q]).length = (if p = [] then 1 else 0) + (if q = [] then 1 else 0) := by
  cases p <;> cases q <;> rfl

/-- Of the disks at most one is not live. -/
structure One1 (g : Geo) (live : List Bool) : Prop where
  len : live.length = g.d.toNat
  one : ∀ i j : Nat, live[i]? = some false → live[j]? = some false → i = j
section
variable {T0 T1 : Tb} {b : Nat} {B : Ben} {idx : List Nat} {g : Geo} {live : List Bool} {r : Int}
theorem up_live (hB : B.Clean g.d.toNat) (hk : g.ok = true) {d : Int} (d0 : 0 ≤ d) (d1 : d < g.d) : B.up live d = (live[d.toNat]?).getD false := by
  unfold Ben.up Ben.failed
  have hdd := ok_d hk
  have hl := hB.len
  have hi : B.is d = true := is_iff.2 ⟨d0, by omega⟩
  have hd : decide (d < (B.ds.length : Int)) = true := by simp; omega
  rw [hd, hi]
  have hf : (B.ds[d.toNat]?.map DS.failed).getD false = false := by
    have e2 : B.ds[d.toNat]? = some (B.ds[d.toNat]'(by omega)) := List.getElem?_eq_getElem (by omega)
    rw [e2]
    exact (hB.ds _ (List.getElem_mem _)).1
  rw [hf]
  simp
theorem secs_get (hk : g.ok = true) {d : Int} (d0 : 0 ≤ d) (d1 : d < g.d) : (B.secs live r g.d.toNat).getD d.toNat [] = if B.up live d then B.secAt d (36 + r) else [] := by
  have hdd := ok_d hk
  unfold Ben.secs
  rw [List.getD_eq_getElem?_getD, List.getElem?_map, List.getElem?_range (by omega)]
  simp only [Option.map_some, Option.getD_some]
  rw [show ((d.toNat : Nat) : Int) = d by omega]
theorem secAt_sec (h : At T0 T1 b B idx) (hB : B.Clean g.d.toNat) (hk : g.ok = true) {d : Int} (d0 : 0 ≤ d) (d1 : d < g.d) (r0 : 0 ≤ r) (r1 : r < 16) : Sec (B.secAt d (36 + r)) := by
  have hdd := ok_d hk
  have hl := hB.len
  have e2 : B.ds[d.toNat]? = some (B.ds[d.toNat]'(by omega)) := List.getElem?_eq_getElem (by omega)
  unfold Ben.secAt
  rw [e2]
  exact ds_sec (hB.ds _ (List.getElem_mem _)).2.2 (by omega) (by omega)
theorem sec_ne {x : List Int} (h : Sec x) : x ≠ [] := by intro e; have := h.len; rw [e] at this; cases this
theorem data_get (hr : fineP g r = true) {k : Nat} (hk : (k : Int) < g.width) : (rowData g r (B.secs live r g.d.toNat)).getD k [] = if B.up live (diskP g r k) then B.secAt (diskP g r k) (36 + r) else [] := by
  have hdi := disk_in hr (k := (k : Int)) (by omega) hk
  rw [← secs_get (fine_iff.1 hr).1 hdi.1 hdi.2]
  unfold rowData
  rw [List.getD_eq_getElem?_getD, List.getElem?_map, List.getElem?_range (by omega)]
  rfl
theorem data_len : (rowData g r (B.secs live r g.d.toNat)).length = g.width.toNat := by simp [rowData]
/-- What a row is read as. -/
def outP (B : Ben) (g : Geo) (live : List Bool) (r : Int) : List (List Int) := solveP (pOf g r (B.secs live r g.d.toNat)) (rowData g r (B.secs live r g.d.toNat))
theorem pq_sec (h : At T0 T1 b B idx) (hB : B.Clean g.d.toNat) (hr : fineP g r = true) :
    (pOf g r (B.secs live r g.d.toNat) = if B.up live (parP g r).1 then B.secAt (parP g r).1 (36 + r) else []) ∧
    (qOf g r (B.secs live r g.d.toNat) = if (parP g r).2 < 0 then [] else if B.up live (parP g r).2 then B.secAt (parP g r).2 (36 + r) else []) := by
  obtain ⟨hk, r0, r1⟩ := fine_iff.1 hr
  obtain ⟨p0, p1, p2⟩ := par_in2 hr
  constructor
  · unfold pOf
    exact secs_get hk p0 p1
  · unfold qOf
    rcases p2 with p2 | ⟨q0, q1⟩
    · rw [if_pos (by omega), if_pos (by omega)]
    · rw [if_neg (by omega), if_neg (by omega)]
      exact secs_get hk q0 q1
theorem up_false (hB : B.Clean g.d.toNat) (hk : g.ok = true) (hlv : One1 g live) {d : Int} (d0 : 0 ≤ d) (d1 : d < g.d) (hu : ¬ B.up live d = true) : live[d.toNat]? = some false := by
  rw [up_live hB hk d0 d1] at hu
  have hdd := ok_d hk
  have hl := hlv.len
  have e : live[d.toNat]? = some (live[d.toNat]'(by omega)) := List.getElem?_eq_getElem (by omega)
  rw [e] at hu ⊢
  simpa using hu
/-- At most one is lost: what is missing. -/
theorem miss_data (h : At T0 T1 b B idx) (hB : B.Clean g.d.toNat) (hr : fineP g r = true) (hlv : One1 g live) :
    (miss (rowData g r (B.secs live r g.d.toNat)) = [] ∧ ∀ k : Nat, (k : Int) < g.width → B.up live (diskP g r k) = true) ∨
    ∃ k0 : Nat, (k0 : Int) < g.width ∧ miss (rowData g r (B.secs live r g.d.toNat)) = [(k0 : Int)] ∧ B.up live (diskP g r k0) = false ∧ ∀ d : Int, 0 ≤ d → d < g.d → d ≠ diskP g r k0 → B.up live d = true := by
  obtain ⟨hk, r0, r1⟩ := fine_iff.1 hr
  have hw := width_ok hk
  by_cases hall : ∀ k : Nat, (k : Int) < g.width → B.up live (diskP g r k) = true
  · left
    refine ⟨?_, hall⟩
    unfold miss
    rw [data_len]
    refine missK_nil fun i hi => ?_
    rw [data_get hr (by omega), if_pos (hall i (by omega))]
    have hdi := disk_in hr (k := (i : Int)) (by omega) (by omega)
    exact sec_ne (secAt_sec h hB hk hdi.1 hdi.2 r0 r1)
  · right
    obtain ⟨k0, hk0⟩ := Classical.not_forall.1 hall
    obtain ⟨hk1, hu⟩ := Classical.not_imp.1 hk0
    have hdi0 := disk_in hr (k := (k0 : Int)) (by omega) hk1
    have hl0 := up_false hB hk hlv hdi0.1 hdi0.2 hu
    have hothers : ∀ d : Int, 0 ≤ d → d < g.d → d ≠ diskP g r k0 → B.up live d = true := by
      intro d d0 d1 hne
      refine Classical.byContradiction fun hnu => ?_
      have hl1 := up_false hB hk hlv d0 d1 hnu
      have := hlv.one _ _ hl1 hl0
      omega
    refine ⟨k0, hk1, ?_, by simpa using hu, hothers⟩
    unfold miss
    rw [data_len]
    refine missK_one ?_ (by omega) fun i hi hne => ?_
    · rw [data_get hr hk1, if_neg hu]
    · have hdi := disk_in hr (k := (i : Int)) (by omega) (by omega)
      rw [data_get hr (by omega), if_pos (hothers _ hdi.1 hdi.2 fun e => hne (by
        have := disk_once hr (j := (i : Int)) (k := (k0 : Int)) (by omega) (by omega) (by omega) hk1 e
        omega))]
      exact sec_ne (secAt_sec h hB hk hdi.1 hdi.2 r0 r1)
theorem zip_len {a b : List Int} (ha : a.length = 32) (hb : b.length = 32) : (addL a b).length = 32 := by unfold addL; rw [if_pos (by omega)]; simp [ha, hb]
theorem fill_get {ls : List (List Int)} {k : Nat} (hk : k < ls.length) : (fillL ls)[k]? = some (fillS 32 (ls.getD k [])) := by
  unfold fillL
  rw [List.getElem?_map, List.getElem?_eq_getElem hk]
  simp [List.getD_eq_getElem?_getD, List.getElem?_eq_getElem hk]
theorem out_get (h : At T0 T1 b B idx) (hB : B.Clean g.d.toNat) (hr : fineP g r = true) (hlv : One1 g live) {k : Nat} (hk : (k : Int) < g.width) :
    ∃ x, (outP B g live r)[k]? = some x ∧ x.length = 32 ∧ (B.up live (diskP g r k) = true → x = B.secAt (diskP g r k) (36 + r)) := by
  obtain ⟨hok, r0, r1⟩ := fine_iff.1 hr
  have hw := width_ok hok
  have hlen := data_len (g := g) (r := r) (B := B) (live := live)
  have hdi := disk_in hr (k := (k : Int)) (by omega) hk
  have hs := secAt_sec h hB hok hdi.1 hdi.2 r0 r1
  have hfg := fill_get (ls := rowData g r (B.secs live r g.d.toNat)) (k := k) (by omega)
  have hup : B.up live (diskP g r k) = true → fillS 32 ((rowData g r (B.secs live r g.d.toNat)).getD k []) = B.secAt (diskP g r k) (36 + r) := by
    intro hu
    rw [data_get hr hk, if_pos hu, fillS_whole hs.len]
  rcases miss_data h hB hr hlv with ⟨hm, hall⟩ | ⟨k0, hk0, hm, hu0, hoth⟩
  · refine ⟨_, ?_, fillS_len 32 ((rowData g r (B.secs live r g.d.toNat)).getD k []), hup⟩
    unfold outP solveP
    rw [hm]
    exact hfg
  · unfold outP solveP
    rw [hm]
    dsimp only
    rw [List.getElem?_set, show Int.toNat (k0 : Int) = k0 from rfl]
    by_cases e : k0 = k
    · subst e
      rw [if_pos rfl, if_pos (by simp [fillL]; omega)]
      have hp := (pq_sec (live := live) h hB hr).1
      obtain ⟨p0, p1, p2⟩ := par_in2 hr
      have hne := disk_par hr (k := (k0 : Int)) (by omega) hk0
      rw [if_pos (hoth _ p0 p1 (fun e => hne.1 e.symm))] at hp
      refine ⟨_, rfl, zip_len (by rw [hp]; exact (secAt_sec h hB hok p0 p1 r0 r1).len) ?_, fun hu => by rw [hu0] at hu; cases hu⟩
      exact sumK_len (fun l hl => by unfold fillL at hl; obtain ⟨y, _, rfl⟩ := List.mem_map.1 hl; exact fillS_len 32 y) (Nat.le_refl _)
    · rw [if_neg e]
      exact ⟨_, hfg, fillS_len 32 _, hup⟩
theorem out_len (h : At T0 T1 b B idx) (hB : B.Clean g.d.toNat) (hr : fineP g r = true) (hlv : One1 g live) : ((outP B g live r).length : Int) = g.width := by
  have hw := width_ok (fine_iff.1 hr).1
  have hlen := data_len (g := g) (r := r) (B := B) (live := live)
  unfold outP solveP
  split <;> simp [fillL, hlen] <;> omega
theorem read_one (h : At T0 T1 b B idx) (hB : B.Clean g.d.toNat) (hr : fineP g r = true) (hlv : One1 g live) (tg : Tag) :
    F_stripe_Read [.h 5312 b 0, .sl tg (live.map D.bool), .agg [.int .i64 g.l, .int .i64 g.d, .int .i64 g.c], .int .i64 r] [T0, T1] = some (Ans.mk (.tup [.sl .own (pL (fP (outP B g live r))), .int .i64 0]) [] []) := by
  obtain ⟨hok, r0, r1⟩ := fine_iff.1 hr
  have hw := width_ok hok
  have hdd := ok_d hok
  refine stripe_read h hB.up hr tg live fun ps hpl hps => ?_
  refine row_take hr .lent hpl fun tp tq rs hrl hrs => ?_
  rw [hps] at hrs ⊢
  have hpq := pq_sec (live := live) h hB hr
  obtain ⟨p0, p1, p2⟩ := par_in2 hr
  have hpc : ∀ {d : Int}, 0 ≤ d → d < g.d → (if B.up live d then B.secAt d (36 + r) else []) = [] ∨ (if B.up live d then B.secAt d (36 + r) else []).length = 32 := by
    intro d d0 d1
    split
    · exact .inr (secAt_sec h hB hok d0 d1 r0 r1).len
    · exact .inl rfl
  have hdatas : ∀ x ∈ rowData g r (B.secs live r g.d.toNat), x = [] ∨ x.length = 32 := by
    intro x hx
    obtain ⟨k, hk, e⟩ := List.mem_iff_getElem.1 hx
    rw [data_len] at hk
    have hdi := disk_in hr (k := (k : Int)) (by omega) (by omega)
    have := data_get (B := B) (live := live) hr (k := k) (by omega)
    rw [List.getD_eq_getElem?_getD, List.getElem?_eq_getElem (by rw [data_len]; exact hk)] at this
    simp only [Option.getD_some] at this
    rw [← e, this]
    exact hpc hdi.1 hdi.2
  have hout : outP B g live r = solveP (pOf g r (B.secs live r g.d.toNat)) (rs.map (·.2)) := by rw [hrs]; rfl
  rw [hout]
  refine solve_p tp tq .lent (by omega) (by omega) (fun x hx => ?_) (by rw [hpq.1]; exact hpc p0 p1) ?_ ?_ ?_
  · exact hdatas x.2 (by rw [← hrs]; exact List.mem_map_of_mem hx)
  · rw [hpq.2]
    rcases p2 with p2 | ⟨q0, q1⟩
    · rw [if_pos (by omega)]; exact .inl rfl
    · rw [if_neg (by omega)]; exact hpc q0 q1
  · rw [hrs, miss_pq]
    rcases miss_data h hB hr hlv with ⟨hm, hall⟩ | ⟨k0, hk0, hm, hu0, hoth⟩
    · rw [hm]; simp only [List.length_nil]; split <;> split <;> omega
    · have hne := disk_par hr (k := (k0 : Int)) (by omega) hk0
      rw [hm, hpq.1, if_pos (hoth _ p0 p1 (fun e => hne.1 e.symm)), if_neg (sec_ne (secAt_sec h hB hok p0 p1 r0 r1))]
      simp only [List.length_cons, List.length_nil]; split <;> omega
  · rw [hrs]
    rcases miss_data h hB hr hlv with ⟨hm, hall⟩ | ⟨k0, hk0, hm, hu0, hoth⟩
    · exact .inl hm
    · have hne := disk_par hr (k := (k0 : Int)) (by omega) hk0
      refine .inr ⟨_, hm, ?_⟩
      rw [hpq.1, if_pos (hoth _ p0 p1 (fun e => hne.1 e.symm))]
      exact (secAt_sec h hB hok p0 p1 r0 r1).len
theorem one_read (h : At T0 T1 b B idx) (hB : B.Clean g.d.toNat) (hr : fineP g r = true) (hlv : One1 g live) {k : Nat} (hk : (k : Int) < g.width) (tg : Tag) :
    ∃ x, (outP B g live r)[k]? = some x ∧ x.length = 32 ∧ F_stripe_One [.h 5312 b 0, .sl tg (live.map D.bool), .agg [.int .i64 g.l, .int .i64 g.d, .int .i64 g.c], .int .i64 (numP g r k)] [T0, T1] = some (Ans.mk (.tup [.sl .fresh (uL x), .int .i64 0]) [] []) := by
  obtain ⟨hok, r0, r1⟩ := fine_iff.1 hr
  obtain ⟨x, h1, h2, h3⟩ := out_get h hB hr hlv hk
  have hdi := disk_in hr (k := (k : Int)) (by omega) hk
  refine ⟨x, h1, h2, ?_⟩
  cases hu : B.up live (diskP g r k)
  · exact one_lost h hr hk tg live hu h1 (read_one h hB hr hlv .lent)
  · rw [h3 hu]
    exact one_up h hB.up (of_num hr (by omega) hk) hdi.1 r0 r1 tg live hu
end
end Wf

/-
  Live disks; the document's example, plainly.
-/
namespace Wf
open Go Go.RowKit Go.Proofs
set_option linter.unusedSimpArgs false
set_option linter.unusedVariables false

theorem bools_free (l : List Bool) : (l.map D.bool).all D.free = true := by rw [List.all_map, List.all_eq_true]; intro b _; rfl
theorem trues_step {d k : Nat} (hk : k < d) : ((List.range d).map fun i => D.bool (decide (i < k))).set k (.bool true) = (List.range d).map fun i => D.bool (decide (i < k + 1)) := by
  apply List.ext_getElem?
  intro j
  rw [List.getElem?_set]
  by_cases hj : j < d
  · by_cases hjk : k = j
    · subst hjk; simp [hj]
    · rw [if_neg hjk]
      simp only [List.getElem?_map, List.getElem?_range hj, Option.map_some, Option.some.injEq, D.bool.injEq, decide_eq_decide]
      omega
  · have h1 : k ≠ j := by omega
    rw [if_neg h1, List.getElem?_eq_none (by simp; omega), List.getElem?_eq_none (by simp; omega)]
theorem live_all {d : Nat} (h0 : 1 ≤ d) (h8 : d ≤ 8) : F_wattleplay_Live [.int .i64 0, .int .i64 d] = some (.sl .own ((List.replicate d true).map D.bool)) := by
  rw [F_wattleplay_Live_eq]
  unfold g_wattleplay_Live
  rw [sif_pos (by omega), sif_pos (by rfl), sif_pos (by omega), sif_pos (by omega), sif_pos (by simp), sif_pos (by simp), Int.toNat_natCast]
  let st : Nat → (Int × Int × List D × Int × Int × PUnit) × PUnit := fun k => ((0, (d : Int), (List.range d).map (fun i => D.bool (decide (i < k))), (d : Int), (k : Int), PUnit.unit), PUnit.unit)
  have hst : st 0 = ((0, (d : Int), List.replicate d (D.bool false), (d : Int), 0, PUnit.unit), PUnit.unit) := by
    have : (List.range d).map (fun i => D.bool (decide (i < 0))) = List.replicate d (D.bool false) := by
      apply List.ext_getElem?; intro j
      by_cases hj : j < d
      · simp [hj]
      · rw [List.getElem?_eq_none (by simp; omega), List.getElem?_eq_none (by simp; omega)]
    simp only [st, this]; rfl
  rw [← hst]
  refine count_loop st d (by omega) ?_ ?_
  · intro again k hk
    dsimp only [st]
    have hd : decide ((k : Int) < (d : Int)) = true := by simp; omega
    have hg : ((List.range d).map (fun i => D.bool (decide (i < k))))[k]? = some (.bool false) := by simp [hk]
    rw [hd, brK_true, sif_pos (by omega), sif_pos (by simp; omega), Nat.zero_add, show Int.toNat (k : Int) = k from rfl, getK_of hg, sif_pos (by rfl), letN_eq, wrap_fit (by omega) (by omega), sif_pos (by simp), trues_step hk]
    rfl
  · intro again
    dsimp only [st]
    have hd : decide ((d : Int) < (d : Int)) = false := by simp
    have hd1 : decide ((d : Int) > 0) = true := by simp; omega
    have hall : (List.range d).map (fun i => D.bool (decide (i < d))) = (List.replicate d true).map D.bool := by
      apply List.ext_getElem?; intro j
      by_cases hj : j < d
      · simp [hj]
      · rw [List.getElem?_eq_none (by simp; omega), List.getElem?_eq_none (by simp; omega)]
    have hz : decide ((0 : Int) % 3 > 0) = false := rfl
    have hz2 : ((0 : Int) % 9 == 8) = false := rfl
    rw [hd, brK_false, hd1, brK_true, within' 0 3 (by omega) (by omega), bindK_some_eq, asI_int, hz, brK_false, brK_true, within' 0 9 (by omega) (by omega), bindK_some_eq, asI_int, hz2, brK_false, sif_pos (by rfl), hall, sif_pos (bools_free _)]

theorem new_sec (n : Nat) {d a : Int} (d0 : 0 ≤ d) (d1 : d < n) (a0 : 0 ≤ a) (a1 : a < 52) : (Ben.new n).secAt d a = List.replicate 32 0 := by
  unfold Ben.secAt Ben.new
  dsimp only
  rw [List.getElem?_replicate, if_pos (by omega)]
  dsimp only
  unfold DS.sec
  show look [] a (DS.new.base a.toNat) = _
  rw [look_nil]
  unfold DS.base
  show ((List.replicate 1664 (0 : Int)).drop (a.toNat * 32)).take 32 = _
  rw [List.drop_replicate, List.take_replicate]
  congr 1
  omega
theorem wakes14 : F_wattlelaw14_wakes [] = some (.bool true) := by
  have e := F_wattlelaw14_wakes_eq
  rw [e, sif_pos (by rfl)]
  unfold g_wattlelaw14_wakes
  have hb0 : ((0 : Int) != 0) = false := rfl
  have hnew := b_new_ok [] [] (n := 3) (by omega) (by omega)
  have hat := new_at [] [] (n := 3) (by omega)
  generalize hU : ([] ++ [bRow 0 (-1) false ((List.range 3).map fun j => hD (([] : Tb).length + j))] : Tb) = U at hat
  generalize hV : ([] ++ List.replicate 3 DS.new.cells : Tb) = V at hat
  have hnew' : F_bench_New [.int .i64 3] [[], []] = some (Ans.mk (.tup [.h 5312 0 0, .int .i64 0]) [] [U, V]) := by rw [hnew, ← hU, ← hV]; rfl
  rw [hnew', bindK_some_eq, nilK_nil, consK_cons, consK_cons, nilK_nil, asTup_tup, getCells_any, getCells_any, getCells_nil]
  dsimp only
  rw [sif_pos (by rfl), asI_int, hb0, brK_false, asNil_h, brK_false]
  let g : Geo := ⟨5, 3, 1⟩
  have hok : g.ok = true := by decide
  have hr : fineP g 4 = true := by decide
  have hcl := new_clean 3
  have hlv : One1 g [true, true, true] := ⟨rfl, fun i j hi hj => by
    have := List.mem_of_getElem? hi
    simp at this⟩
  have hrd := read_one (g := g) (r := 4) hat hcl hr hlv .full
  have hrd' : F_stripe_Read [.h 5312 0 0, .sl .full [.bool true, .bool true, .bool true], .agg [.int .i64 5, .int .i64 3, .int .i64 1], .int .i64 4] [U, V] = some (Ans.mk (.tup [.sl .own (pL (fP (outP (Ben.new 3) g [true, true, true] 4))), .int .i64 0]) [] []) := hrd
  have hol := out_len (g := g) (r := 4) hat hcl hr hlv
  have hw : g.width = 2 := by decide
  rw [hw] at hol
  obtain ⟨x, hx, hxl, hxe⟩ := out_get (g := g) (r := 4) hat hcl hr hlv (k := 0) (by rw [hw]; omega)
  have hup : (Ben.new 3).up [true, true, true] (diskP g 4 ((0 : Nat) : Int)) = true := by
    rw [up_live (g := g) hcl hok (by decide) (by decide)]; decide
  have hxz := hxe hup
  rw [new_sec 3 (by decide) (by decide) (by omega) (by omega)] at hxz
  have b0 : ((0 : Int) == 0) = true := rfl
  have b2 : (((pL (fP (outP (Ben.new 3) g [true, true, true] 4))).length : Int) == 2) = true := by simp; exact_mod_cast hol
  rw [hrd', bindK_some_eq, nilK_nil, nilK_nil, asTup_tup, getCells_any, getCells_any, getCells_nil]
  dsimp only
  have hs := same_byte .fresh .lent (List.replicate 32 0) (List.replicate 32 0) (by simp)
  have hlt := lt_of_get hx
  rw [asOwn_own, asI_int, b0, brK_true, sif_pos (by omega), b2, brK_true, sif_pos (by rw [pL_len, fP_len]; omega), getK_of (pL_get (fP_get hx)), asSl_sl, hxz]
  rw [show ([D.int IntKind.u8 (0 : Int), D.int IntKind.u8 (0 : Int), D.int IntKind.u8 (0 : Int), D.int IntKind.u8 (0 : Int), D.int IntKind.u8 (0 : Int), D.int IntKind.u8 (0 : Int), D.int IntKind.u8 (0 : Int), D.int IntKind.u8 (0 : Int), D.int IntKind.u8 (0 : Int), D.int IntKind.u8 (0 : Int), D.int IntKind.u8 (0 : Int), D.int IntKind.u8 (0 : Int), D.int IntKind.u8 (0 : Int), D.int IntKind.u8 (0 : Int), D.int IntKind.u8 (0 : Int), D.int IntKind.u8 (0 : Int), D.int IntKind.u8 (0 : Int), D.int IntKind.u8 (0 : Int), D.int IntKind.u8 (0 : Int), D.int IntKind.u8 (0 : Int), D.int IntKind.u8 (0 : Int), D.int IntKind.u8 (0 : Int), D.int IntKind.u8 (0 : Int), D.int IntKind.u8 (0 : Int), D.int IntKind.u8 (0 : Int), D.int IntKind.u8 (0 : Int), D.int IntKind.u8 (0 : Int), D.int IntKind.u8 (0 : Int), D.int IntKind.u8 (0 : Int), D.int IntKind.u8 (0 : Int), D.int IntKind.u8 (0 : Int), D.int IntKind.u8 (0 : Int)] : List D) = uL (List.replicate 32 0) from rfl]
  rw [hs, bindK_some_eq, asB_bool]
  simp
end Wf

