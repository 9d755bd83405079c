/-
  Geometry: what the functions answer, plainly.
-/
import Derived.Test.YtpdhbdacbiamdaaX
import Derived.Test.YtpdhbdacbiamdaaFf
set_option linter.unusedVariables false
set_option linter.unusedSimpArgs false
set_option linter.unnecessarySimpa false
namespace Wf
open Go Go.RowKit Go.Proofs
set_option linter.unusedSimpArgs false
set_option linter.unusedVariables false

theorem fuel_many : ∃ m, fuel = m + 40 := ⟨fuel - 40, by have := fuel_le; omega⟩

def validG (l d c : Int) : Bool := (l == 5 || l == 6) && decide ((if l = 6 then 4 else 3) ≤ d) && decide (d ≤ 8) && (c == 1 || c == 2 || c == 4)
def budgetG (l d c : Int) : Int := if validG l d c then l - 4 else 0
def widthG (l d c : Int) : Int := if validG l d c then d - (l - 4) else 0
def capG (l d c : Int) : Int := widthG l d c * 16
def canG (l d c x y z : Int) : Bool := validG l d c && validG x y z && !(l == x && (d == y && c == z)) && decide (d ≤ y) && decide (l ≤ x) && decide (widthG l d c ≤ widthG x y z)

theorem valid_iff {l d c : Int} : validG l d c = true ↔ ((l = 5 ∧ 3 ≤ d) ∨ (l = 6 ∧ 4 ≤ d)) ∧ d ≤ 8 ∧ (c = 1 ∨ c = 2 ∨ c = 4) := by
  unfold validG
  simp only [Bool.and_eq_true, Bool.or_eq_true, beq_iff_eq, decide_eq_true_eq]
  constructor
  · rintro ⟨⟨⟨h1, h2⟩, h3⟩, h4⟩
    refine ⟨?_, h3, by omega⟩
    split at h2 <;> omega
  · rintro ⟨h1, h3, h4⟩
    refine ⟨⟨⟨by omega, ?_⟩, h3⟩, by omega⟩
    split <;> omega
theorem invalid_iff {l d c : Int} : validG l d c = false ↔ ¬ (((l = 5 ∧ 3 ≤ d) ∨ (l = 6 ∧ 4 ≤ d)) ∧ d ≤ 8 ∧ (c = 1 ∨ c = 2 ∨ c = 4)) := by
  rw [← valid_iff]; simp
theorem width_le (l d c : Int) : 0 ≤ widthG l d c ∧ widthG l d c ≤ 8 := by
  unfold widthG
  split
  · rename_i h; have := valid_iff.1 h; omega
  · omega

/-- A geometry's data. -/
abbrev gD (l d c : Int) : D := .agg [.int .i64 l, .int .i64 d, .int .i64 c]

theorem contains_124 (c : Int) : F_slices_Contains_int_int [.sl .full [.int .i64 1, .int .i64 2, .int .i64 4], .int .i64 c] = some (.bool (c == 1 || c == 2 || c == 4)) := by
  rw [F_slices_Contains_int_int_eq]
  unfold g_slices_Contains_int_int
  rw [F_slices_Index_int_int_eq]
  unfold g_slices_Index_int_int
  obtain ⟨m, hm⟩ := fuel_many
  by_cases h1 : c = 1 <;> by_cases h2 : c = 2 <;> by_cases h4 : c = 4 <;>
    simp [loopN, hm, fixN, brK_eq, h1, h2, h4, wrap_fit] <;> omega

theorem check_geom (l d c : Int) : F_geom_Check [gD l d c] = some (iD (if validG l d c then 0 else 1)) := by
  rw [F_geom_Check_eq]
  unfold g_geom_Check
  have hc := contains_124 c
  unfold validG
  obtain ⟨q, hq⟩ : ∃ q, (c == 1 || c == 2 || c == 4) = q := ⟨_, rfl⟩
  rw [hq] at hc ⊢
  by_cases h5 : l = 5
  · subst h5
    by_cases h3 : d < 3 <;> by_cases h8 : 8 < d <;> cases q <;> simp [lookD, findD, setD, hc, brK_eq, h3, h8] <;> omega
  · by_cases h6 : l = 6
    · subst h6
      by_cases h3 : d < 4 <;> by_cases h8 : 8 < d <;> cases q <;> simp [lookD, findD, setD, hc, brK_eq, h3, h8] <;> omega
    · simp [lookD, findD, setD, hc, brK_eq, h5, h6]

theorem budget_geom (l d c : Int) : F_geom_Budget [gD l d c] = some (iD (budgetG l d c)) := by
  rw [F_geom_Budget_eq]
  unfold g_geom_Budget budgetG
  rw [check_geom]
  cases h : validG l d c
  · simp [brK_eq]
  · have := valid_iff.1 h
    simp [brK_eq]
    exact wrap_fit (by omega) (by omega)
theorem width_geom (l d c : Int) : F_geom_Width [gD l d c] = some (iD (widthG l d c)) := by
  rw [F_geom_Width_eq]
  unfold g_geom_Width widthG
  rw [check_geom, budget_geom]
  unfold budgetG
  cases h : validG l d c
  · simp [brK_eq]
  · have := valid_iff.1 h
    simp [brK_eq]
    exact wrap_fit (by omega) (by omega)
theorem capacity_geom (l d c : Int) : F_geom_Capacity [gD l d c] = some (iD (capG l d c)) := by
  rw [F_geom_Capacity_eq]
  unfold g_geom_Capacity capG
  rw [width_geom]
  have := width_le l d c
  simp
  exact wrap_fit (by omega) (by omega)
theorem can_geom (l d c x y z : Int) : F_geom_Can [gD l d c, gD x y z] = some (.bool (canG l d c x y z)) := by
  rw [F_geom_Can_eq]
  unfold g_geom_Can canG
  rw [check_geom, check_geom, width_geom, width_geom]
  cases h : validG l d c <;> cases k : validG x y z <;> simp [brK_eq]
  by_cases h1 : l = x <;> by_cases h2 : d = y <;> by_cases h3 : c = z <;> by_cases h4 : d ≤ y <;> by_cases h5 : l ≤ x <;> simp [h1, h2, h3, h4, h5] <;> omega

theorem check_ref (l d c : Int) : F_wattleref01_Check [gD l d c] = some (.bool (validG l d c)) := by
  rw [F_wattleref01_Check_eq]
  unfold g_wattleref01_Check validG
  by_cases h5 : l = 5
  · subst h5
    by_cases h3 : 3 ≤ d <;> by_cases h8 : d ≤ 8 <;> simp [brK_eq, h3, h8] <;> by_cases h1 : c = 1 <;> by_cases h2 : c = 2 <;> simp [h1, h2] <;> omega
  · by_cases h6 : l = 6
    · subst h6
      by_cases h3 : 4 ≤ d <;> by_cases h8 : d ≤ 8 <;> simp [brK_eq, h3, h8] <;> by_cases h1 : c = 1 <;> by_cases h2 : c = 2 <;> simp [h1, h2] <;> omega
    · simp [brK_eq, h5, h6]
theorem budget_ref (l d c : Int) : F_wattleref01_Budget [gD l d c] = some (iD (budgetG l d c)) := by
  rw [F_wattleref01_Budget_eq]
  unfold g_wattleref01_Budget budgetG
  rw [check_ref]
  cases h : validG l d c
  · simp [brK_eq]
  · have := valid_iff.1 h
    simp [brK_eq]
    exact wrap_fit (by omega) (by omega)
theorem width_ref (l d c : Int) : F_wattleref01_Width [gD l d c] = some (iD (widthG l d c)) := by
  rw [F_wattleref01_Width_eq]
  unfold g_wattleref01_Width widthG
  rw [check_ref, budget_ref]
  unfold budgetG
  cases h : validG l d c
  · simp [brK_eq]
  · have := valid_iff.1 h
    simp [brK_eq]
    exact wrap_fit (by omega) (by omega)
theorem capacity_ref (l d c : Int) : F_wattleref01_Capacity [gD l d c] = some (iD (capG l d c)) := by
  rw [F_wattleref01_Capacity_eq]
  unfold g_wattleref01_Capacity capG
  rw [width_ref]
  have := width_le l d c
  simp
  exact wrap_fit (by omega) (by omega)
theorem can_ref (l d c x y z : Int) : F_wattleref01_Can [gD l d c, gD x y z] = some (.bool (canG l d c x y z)) := by
  rw [F_wattleref01_Can_eq]
  unfold g_wattleref01_Can canG
  rw [check_ref, check_ref, width_ref, width_ref]
  cases h : validG l d c <;> cases k : validG x y z <;> simp [brK_eq]
  by_cases h1 : l = x <;> by_cases h2 : d = y <;> by_cases h3 : c = z <;> by_cases h4 : d ≤ y <;> by_cases h5 : l ≤ x <;> simp [h1, h2, h3, h4, h5] <;> omega
theorem wakes07 : F_wattlelaw07_wakes [] = some (.bool true) := by
  rw [F_wattlelaw07_wakes_eq]
  unfold g_wattlelaw07_wakes
  rw [capacity_geom]
  simp [capG, widthG, validG]
end Wf

/-
  Numbers that a test plays with, plainly.
-/
namespace Wf
open Go Go.RowKit Go.Proofs
set_option linter.unusedSimpArgs false
set_option linter.unusedVariables false

theorem tmod_cases (a n : Int) (h : 1 ≤ n) : (0 ≤ a.tmod n ∧ a % n = a.tmod n) ∨ (a.tmod n < 0 ∧ a % n = a.tmod n + n) := by
  by_cases ha : a < 0
  · have h4 : a.tmod n = - ((-a) % n) := by rw [show a = -(-a) by omega, Int.neg_tmod, Int.tmod_eq_emod_of_nonneg (by omega)]; simp
    have h5 := Int.emod_nonneg (-a) (show n ≠ 0 by omega)
    have h6 := Int.emod_lt_of_pos (-a) (show 0 < n by omega)
    by_cases h7 : (-a) % n = 0
    · left
      refine ⟨by omega, ?_⟩
      have : n ∣ a := by
        have := Int.dvd_of_emod_eq_zero h7
        exact (Int.dvd_neg).1 this
      rw [Int.emod_eq_zero_of_dvd this]; omega
    · right
      refine ⟨by omega, ?_⟩
      rw [h4]
      have : a % n = (n - (-a) % n) % n := by
        rw [Int.sub_emod, Int.emod_emod_of_dvd _ (Int.dvd_refl n), ← Int.sub_emod, Int.sub_neg, Int.add_emod, Int.emod_self]; simp
      rw [this, Int.emod_eq_of_lt (by omega) (by omega)]; omega
  · left
    rw [Int.tmod_eq_emod_of_nonneg (by omega)]
    exact ⟨Int.emod_nonneg a (show n ≠ 0 by omega), rfl⟩

theorem within (a n : Int) (h : 1 ≤ n) (h9 : n < 1000000000) : F_wattlekeep_Within [.int .i64 a, .int .i64 n] = some (iD (a % n)) := by
  rw [F_wattlekeep_Within_eq]
  unfold g_wattlekeep_Within
  have hm := tmod_cases a n h
  have hlt := Int.lt_tmod_of_pos a (show 0 < n by omega)
  have h1 : ¬ n < 1 := by omega
  have h0 : n ≠ 0 := by omega
  rcases hm with ⟨k1, k2⟩ | ⟨k1, k2⟩
  · simp [brK_eq, h1, h0, Int.not_lt.2 k1, k2]
  · simp [brK_eq, h1, h0, k1, k2]
    exact wrap_fit (by omega) (by omega)

def qn (n k : Int) : Int := IntKind.i64.wrap (n.tdiv k)
theorem chunk_of (q : Int) (h0 : 0 ≤ q) (h3 : q < 3) {R : Type} (f : D → Option R) : getK [D.int .i64 1, D.int .i64 2, D.int .i64 4] q.toNat f = f (iD (if q = 0 then 1 else if q = 1 then 2 else 4)) := by
  have : q = 0 ∨ q = 1 ∨ q = 2 := by omega
  rcases this with rfl | rfl | rfl <;> rfl

structure Geo where
  l : Int
  d : Int
  c : Int
  deriving DecidableEq
def Geo.D (g : Geo) : Wf.D := gD g.l g.d g.c
def Geo.ok (g : Geo) : Bool := validG g.l g.d g.c
def geomOf (n : Int) : Geo :=
  let lev := 5 + n % 2
  let ch := if qn n 2 % 3 = 0 then 1 else if qn n 2 % 3 = 1 then 2 else 4
  let dk := if lev = 6 then 4 + qn n 6 % 4 else 3 + qn n 6 % 4
  let s := qn n 24 % 40
  if s = 36 then ⟨n % 9, dk, ch⟩ else if s = 37 then ⟨lev, n % 12 - 1, ch⟩ else if s = 38 then ⟨lev, dk, n % 9 - 1⟩ else if s = 39 then ⟨lev, 8, ch⟩ else ⟨lev, dk, ch⟩
def goodOf (n : Int) : Geo := if (geomOf n).ok then geomOf n else ⟨5, 3, 1⟩
theorem good_valid (n : Int) : (goodOf n).ok = true := by
  unfold goodOf
  split
  · assumption
  · rfl
theorem geom_play (n : Int) : F_wattleplay_Geom [.int .i64 n] = some (geomOf n).D := by
  rw [F_wattleplay_Geom_eq]
  unfold g_wattleplay_Geom
  have w5 : IntKind.i64.wrap (5 + n % 2) = 5 + n % 2 := wrap_fit (by omega) (by omega)
  have w3 : IntKind.i64.wrap (3 + qn n 6 % 4) = 3 + qn n 6 % 4 := wrap_fit (by omega) (by omega)
  have w4 : IntKind.i64.wrap (4 + qn n 6 % 4) = 4 + qn n 6 % 4 := wrap_fit (by omega) (by omega)
  have w12 : IntKind.i64.wrap (n % 12 - 1) = n % 12 - 1 := wrap_fit (by omega) (by omega)
  have w9 : IntKind.i64.wrap (n % 9 - 1) = n % 9 - 1 := wrap_fit (by omega) (by omega)
  have h0 : 0 ≤ qn n 2 % 3 := by omega
  have h3 : qn n 2 % 3 < 3 := by omega
  have e2 : IntKind.i64.wrap (n.tdiv 2) = qn n 2 := rfl
  have e6 : IntKind.i64.wrap (n.tdiv 6) = qn n 6 := rfl
  have e24 : IntKind.i64.wrap (n.tdiv 24) = qn n 24 := rfl
  simp only [within _ _ (show (1:Int) ≤ 2 by decide) (show (2:Int) < 1000000000 by decide), within _ _ (show (1:Int) ≤ 3 by decide) (show (3:Int) < 1000000000 by decide), within _ _ (show (1:Int) ≤ 4 by decide) (show (4:Int) < 1000000000 by decide),
    within _ _ (show (1:Int) ≤ 9 by decide) (show (9:Int) < 1000000000 by decide), within _ _ (show (1:Int) ≤ 12 by decide) (show (12:Int) < 1000000000 by decide), within _ _ (show (1:Int) ≤ 40 by decide) (show (40:Int) < 1000000000 by decide),
    bindK_some_eq, iD, asI_int, letN_eq, w5, w3, w4, w12, w9, e2, e6, e24, sif_pos h0, chunk_of _ h0 h3]
  unfold Geo.D geomOf
  have hl : n % 2 = 0 ∨ n % 2 = 1 := by omega
  by_cases k1 : qn n 24 % 40 = 36 <;> by_cases k2 : qn n 24 % 40 = 37 <;> by_cases k3 : qn n 24 % 40 = 38 <;> by_cases k4 : qn n 24 % 40 = 39 <;> rcases hl with hl | hl <;>
    simp [brK_eq, k1, k2, k3, k4, hl] <;> omega
theorem good_play (n : Int) : F_wattleplay_Good [.int .i64 n] = some (goodOf n).D := by
  rw [F_wattleplay_Good_eq]
  unfold g_wattleplay_Good
  rw [geom_play]
  unfold goodOf
  obtain ⟨l, d, c⟩ := geomOf n
  simp only [bindK_some_eq, Geo.D, asAgg_agg, getCells_int, getCells_nil, check_ref, asB_bool, Geo.ok]
  by_cases h : validG l d c = true
  · simp [brK_eq, h]
  · simp only [Bool.not_eq_true] at h; simp [brK_eq, h]

def Geo.can (x y : Geo) : Bool := canG x.l x.d x.c y.l y.d y.c
theorem can_iff {x y : Geo} : x.can y = true ↔ x.ok = true ∧ y.ok = true ∧ x ≠ y ∧ x.d ≤ y.d ∧ x.l ≤ y.l ∧ widthG x.l x.d x.c ≤ widthG y.l y.d y.c := by
  unfold Geo.can canG Geo.ok
  obtain ⟨l, d, c⟩ := x
  obtain ⟨l', d', c'⟩ := y
  simp only [Bool.and_eq_true, Bool.not_eq_true', Bool.and_eq_false_iff, beq_eq_false_iff_ne, decide_eq_true_eq, ne_eq, Geo.mk.injEq]
  constructor
  · rintro ⟨⟨⟨⟨⟨h1, h2⟩, h3⟩, h4⟩, h5⟩, h6⟩
    exact ⟨h1, h2, by rintro ⟨rfl, rfl, rfl⟩; simp at h3, h4, h5, h6⟩
  · rintro ⟨h1, h2, h3, h4, h5, h6⟩
    refine ⟨⟨⟨⟨⟨h1, h2⟩, ?_⟩, h4⟩, h5⟩, h6⟩
    by_cases e1 : l = l'
    · by_cases e2 : d = d'
      · exact .inr (.inr fun e3 => h3 ⟨e1, e2, e3⟩)
      · exact .inr (.inl e2)
    · exact .inl e1
/-- What a pair that a test plays with is. -/
theorem pair_play (m n : Int) : ∃ x y : Geo, F_wattleplay_Pair [.int .i64 m, .int .i64 n] = some (.tup [x.D, y.D]) ∧ x.can y = true ∧ x.d ≤ 5 ∧ y.d ≤ 8 := by
  rw [F_wattleplay_Pair_eq]
  unfold g_wattleplay_Pair
  have e2 : IntKind.i64.wrap (m.tdiv 2) = qn m 2 := rfl
  have e6 : IntKind.i64.wrap (m.tdiv 6) = qn m 6 := rfl
  have e3 : IntKind.i64.wrap (n.tdiv 3) = qn n 3 := rfl
  have e9 : IntKind.i64.wrap (n.tdiv 9) = qn n 9 := rfl
  have w3 : IntKind.i64.wrap (3 + m % 2) = 3 + m % 2 := wrap_fit (by omega) (by omega)
  have w4 : IntKind.i64.wrap (4 + m % 2) = 4 + m % 2 := wrap_fit (by omega) (by omega)
  have w31 : IntKind.i64.wrap (3 + m % 2 + 1) = 3 + m % 2 + 1 := wrap_fit (by omega) (by omega)
  have w3n : IntKind.i64.wrap (3 + m % 2 + n % 3) = 3 + m % 2 + n % 3 := wrap_fit (by omega) (by omega)
  have w4n : IntKind.i64.wrap (4 + m % 2 + n % 3) = 4 + m % 2 + n % 3 := wrap_fit (by omega) (by omega)
  have w3n1 : IntKind.i64.wrap (3 + m % 2 + n % 3 + 1) = 3 + m % 2 + n % 3 + 1 := wrap_fit (by omega) (by omega)
  have w4n1 : IntKind.i64.wrap (4 + m % 2 + n % 3 + 1) = 4 + m % 2 + n % 3 + 1 := wrap_fit (by omega) (by omega)
  have wmx : IntKind.i64.wrap (max (3 + m % 2 + n % 3) (3 + m % 2 + 1) + 1) = max (3 + m % 2 + n % 3) (3 + m % 2 + 1) + 1 := wrap_fit (by omega) (by omega)
  have h0 : 0 ≤ qn m 2 % 3 := by omega
  have h3 : qn m 2 % 3 < 3 := by omega
  have k0 : 0 ≤ qn n 3 % 3 := by omega
  have k3 : qn n 3 % 3 < 3 := by omega
  simp only [within _ _ (show (1:Int) ≤ 2 by decide) (show (2:Int) < 1000000000 by decide), within _ _ (show (1:Int) ≤ 3 by decide) (show (3:Int) < 1000000000 by decide), within _ _ (show (1:Int) ≤ 4 by decide) (show (4:Int) < 1000000000 by decide),
    bindK_some_eq, iD, asI_int, letN_eq, e2, e6, e3, e9, w3, w4, w31, w3n, w4n, w3n1, w4n1, wmx, sif_pos h0, sif_pos k0, chunk_of _ h0 h3, chunk_of _ k0 k3, can_ref, asB_bool]
  obtain ⟨a, ha⟩ : ∃ a, (if qn m 2 % 3 = 0 then (1 : Int) else if qn m 2 % 3 = 1 then 2 else 4) = a := ⟨_, rfl⟩
  obtain ⟨b, hb⟩ : ∃ a, (if qn n 3 % 3 = 0 then (1 : Int) else if qn n 3 % 3 = 1 then 2 else 4) = a := ⟨_, rfl⟩
  have ha' : a = 1 ∨ a = 2 ∨ a = 4 := by rw [← ha]; (repeat' split) <;> simp
  have hb' : b = 1 ∨ b = 2 ∨ b = 4 := by rw [← hb]; (repeat' split) <;> simp
  rw [ha, hb]
  have hm : m % 2 = 0 ∨ m % 2 = 1 := by omega
  have hn : n % 3 = 0 ∨ n % 3 = 1 ∨ n % 3 = 2 := by omega
  clear e2 e6 e3 e9 w3 w4 w31 w3n w4n w3n1 w4n1 wmx h0 h3 k0 k3 ha hb
  generalize m % 2 = p at *
  generalize n % 3 = q at *
  generalize qn m 6 % 4 = s1 at *
  generalize qn n 9 % 2 = s2 at *
  -- one way for all
  have key : ∀ (l l' d d' : Int), 3 ≤ d → d ≤ 5 → d ≤ d' → d' ≤ 7 → (l = 5 ∨ l = 6 ∧ 4 ≤ d) → (l' = l ∨ l = 5 ∧ l' = 6 ∧ d < d') →
      ∃ x y : Geo, brK (!canG l d a l' d' b) (some (D.tup [gD l d a, gD l' (d' + 1) b])) (some (D.tup [gD l d a, gD l' d' b])) = some (.tup [x.D, y.D]) ∧ x.can y = true ∧ x.d ≤ 5 ∧ y.d ≤ 8 := by
    intro l l' d d' h1 h2 h3 h4 h5 h6
    have v1 : validG l d a = true := by rw [valid_iff]; omega
    have v2 : validG l' d' b = true := by rw [valid_iff]; omega
    have v3 : validG l' (d' + 1) b = true := by rw [valid_iff]; omega
    cases hc : canG l d a l' d' b
    · refine ⟨⟨l, d, a⟩, ⟨l', d' + 1, b⟩, rfl, can_iff.2 ⟨v1, v3, ?_, ?_, ?_, ?_⟩, h2, by dsimp only; omega⟩
      · simp only [ne_eq, Geo.mk.injEq]; omega
      · dsimp only; omega
      · dsimp only; omega
      · simp only [widthG, v1, v3, if_true]; omega
    · exact ⟨⟨l, d, a⟩, ⟨l', d', b⟩, rfl, hc, h2, by dsimp only; omega⟩
  by_cases q1 : s1 = 3
  · rw [show (s1 == 3) = true from by simp [q1], brK_true]
    have := key 6 6 (4 + p) (4 + p + q) (by omega) (by omega) (by omega) (by omega) (by omega) (by omega)
    exact this
  · rw [show (s1 == 3) = false from by simpa using q1, brK_false]
    by_cases q2 : s2 = 1
    · rw [show (s2 == 1) = true from by simp [q2], brK_true]
      have := key 5 6 (3 + p) (max (3 + p + q) (3 + p + 1)) (by omega) (by omega) (by omega) (by omega) (by omega) (by omega)
      exact this
    · rw [show (s2 == 1) = false from by simpa using q2, brK_false]
      have := key 5 5 (3 + p) (3 + p + q) (by omega) (by omega) (by omega) (by omega) (by omega) (by omega)
      exact this
end Wf

