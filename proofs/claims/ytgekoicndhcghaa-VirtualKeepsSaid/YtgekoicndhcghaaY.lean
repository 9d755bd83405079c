/-
  Geometry: what the functions answer, plainly.
-/
import Derived.Test.YtgekoicndhcghaaX
import Derived.Test.YtgekoicndhcghaaFe
set_option linter.unusedVariables false
set_option linter.unusedSimpArgs false
set_option linter.unnecessarySimpa false
namespace Wf
open Go Go.RowKit Go.Proofs
set_option linter.unusedSimpArgs false
set_option linter.unusedVariables false

theorem fuel_many : ∃ m, fuel = m + 40 := ⟨fuel - 40, by have := fuel_le; omega⟩

def validG (l d c : Int) : Bool := (l == 5 || l == 6) && decide ((if l = 6 then 4 else 3) ≤ d) && decide (d ≤ 8) && (c == 1 || c == 2 || c == 4)
def budgetG (l d c : Int) : Int := if validG l d c then l - 4 else 0
def widthG (l d c : Int) : Int := if validG l d c then d - (l - 4) else 0
def capG (l d c : Int) : Int := widthG l d c * 16
def canG (l d c x y z : Int) : Bool := validG l d c && validG x y z && !(l == x && (d == y && c == z)) && decide (d ≤ y) && decide (l ≤ x) && decide (widthG l d c ≤ widthG x y z)

theorem valid_iff {l d c : Int} : validG l d c = true ↔ ((l = 5 ∧ 3 ≤ d) ∨ (l = 6 ∧ 4 ≤ d)) ∧ d ≤ 8 ∧ (c = 1 ∨ c = 2 ∨ c = 4) := by
  unfold validG
  simp only [Bool.and_eq_true, Bool.or_eq_true, beq_iff_eq, decide_eq_true_eq]
  constructor
  · rintro ⟨⟨⟨h1, h2⟩, h3⟩, h4⟩
    refine ⟨?_, h3, by omega⟩
    split at h2 <;> omega
  · rintro ⟨h1, h3, h4⟩
    refine ⟨⟨⟨by omega, ?_⟩, h3⟩, by omega⟩
    split <;> omega
theorem invalid_iff {l d c : Int} : validG l d c = false ↔ ¬ (((l = 5 ∧ 3 ≤ d) ∨ (l = 6 ∧ 4 ≤ d)) ∧ d ≤ 8 ∧ (c = 1 ∨ c = 2 ∨ c = 4)) := by
  rw [← valid_iff]; simp
theorem width_le (l d c : Int) : 0 ≤ widthG l d c ∧ widthG l d c ≤ 8 := by
  unfold widthG
  split
  · rename_i h; have := valid_iff.1 h; omega
  · omega

/-- A geometry's data. -/
abbrev gD (l d c : Int) : D := .agg [.int .i64 l, .int .i64 d, .int .i64 c]

theorem contains_124 (c : Int) : F_slices_Contains_int_int [.sl .full [.int .i64 1, .int .i64 2, .int .i64 4], .int .i64 c] = some (.bool (c == 1 || c == 2 || c == 4)) := by
  rw [F_slices_Contains_int_int_eq]
  unfold g_slices_Contains_int_int
  rw [F_slices_Index_int_int_eq]
  unfold g_slices_Index_int_int
  obtain ⟨m, hm⟩ := fuel_many
  by_cases h1 : c = 1 <;> by_cases h2 : c = 2 <;> by_cases h4 : c = 4 <;>
    simp [loopN, hm, fixN, brK_eq, h1, h2, h4, wrap_fit] <;> omega

theorem check_geom (l d c : Int) : F_geom_Check [gD l d c] = some (iD (if validG l d c then 0 else 1)) := by
  rw [F_geom_Check_eq]
  unfold g_geom_Check
  have hc := contains_124 c
  unfold validG
  obtain ⟨q, hq⟩ : ∃ q, (c == 1 || c == 2 || c == 4) = q := ⟨_, rfl⟩
  rw [hq] at hc ⊢
  by_cases h5 : l = 5
  · subst h5
    by_cases h3 : d < 3 <;> by_cases h8 : 8 < d <;> cases q <;> simp [lookD, findD, setD, hc, brK_eq, h3, h8] <;> omega
  · by_cases h6 : l = 6
    · subst h6
      by_cases h3 : d < 4 <;> by_cases h8 : 8 < d <;> cases q <;> simp [lookD, findD, setD, hc, brK_eq, h3, h8] <;> omega
    · simp [lookD, findD, setD, hc, brK_eq, h5, h6]

theorem budget_geom (l d c : Int) : F_geom_Budget [gD l d c] = some (iD (budgetG l d c)) := by
  rw [F_geom_Budget_eq]
  unfold g_geom_Budget budgetG
  rw [check_geom]
  cases h : validG l d c
  · simp [brK_eq]
  · have := valid_iff.1 h
    simp [brK_eq]
    exact wrap_fit (by omega) (by omega)
theorem width_geom (l d c : Int) : F_geom_Width [gD l d c] = some (iD (widthG l d c)) := by
  rw [F_geom_Width_eq]
  unfold g_geom_Width widthG
  rw [check_geom, budget_geom]
  unfold budgetG
  cases h : validG l d c
  · simp [brK_eq]
  · have := valid_iff.1 h
    simp [brK_eq]
    exact wrap_fit (by omega) (by omega)
theorem capacity_geom (l d c : Int) : F_geom_Capacity [gD l d c] = some (iD (capG l d c)) := by
  rw [F_geom_Capacity_eq]
  unfold g_geom_Capacity capG
  rw [width_geom]
  have := width_le l d c
  simp
  exact wrap_fit (by omega) (by omega)
theorem can_geom (l d c x y z : Int) : F_geom_Can [gD l d c, gD x y z] = some (.bool (canG l d c x y z)) := by
  rw [F_geom_Can_eq]
  unfold g_geom_Can canG
  rw [check_geom, check_geom, width_geom, width_geom]
  cases h : validG l d c <;> cases k : validG x y z <;> simp [brK_eq]
  by_cases h1 : l = x <;> by_cases h2 : d = y <;> by_cases h3 : c = z <;> by_cases h4 : d ≤ y <;> by_cases h5 : l ≤ x <;> simp [h1, h2, h3, h4, h5] <;> omega

theorem check_ref (l d c : Int) : F_wattleref01_Check [gD l d c] = some (.bool (validG l d c)) := by
  rw [F_wattleref01_Check_eq]
  unfold g_wattleref01_Check validG
  by_cases h5 : l = 5
  · subst h5
    by_cases h3 : 3 ≤ d <;> by_cases h8 : d ≤ 8 <;> simp [brK_eq, h3, h8] <;> by_cases h1 : c = 1 <;> by_cases h2 : c = 2 <;> simp [h1, h2] <;> omega
  · by_cases h6 : l = 6
    · subst h6
      by_cases h3 : 4 ≤ d <;> by_cases h8 : d ≤ 8 <;> simp [brK_eq, h3, h8] <;> by_cases h1 : c = 1 <;> by_cases h2 : c = 2 <;> simp [h1, h2] <;> omega
    · simp [brK_eq, h5, h6]
theorem budget_ref (l d c : Int) : F_wattleref01_Budget [gD l d c] = some (iD (budgetG l d c)) := by
  rw [F_wattleref01_Budget_eq]
  unfold g_wattleref01_Budget budgetG
  rw [check_ref]
  cases h : validG l d c
  · simp [brK_eq]
  · have := valid_iff.1 h
    simp [brK_eq]
    exact wrap_fit (by omega) (by omega)
theorem width_ref (l d c : Int) : F_wattleref01_Width [gD l d c] = some (iD (widthG l d c)) := by
  rw [F_wattleref01_Width_eq]
  unfold g_wattleref01_Width widthG
  rw [check_ref, budget_ref]
  unfold budgetG
  cases h : validG l d c
  · simp [brK_eq]
  · have := valid_iff.1 h
    simp [brK_eq]
    exact wrap_fit (by omega) (by omega)
theorem capacity_ref (l d c : Int) : F_wattleref01_Capacity [gD l d c] = some (iD (capG l d c)) := by
  rw [F_wattleref01_Capacity_eq]
  unfold g_wattleref01_Capacity capG
  rw [width_ref]
  have := width_le l d c
  simp
  exact wrap_fit (by omega) (by omega)
theorem can_ref (l d c x y z : Int) : F_wattleref01_Can [gD l d c, gD x y z] = some (.bool (canG l d c x y z)) := by
  rw [F_wattleref01_Can_eq]
  unfold g_wattleref01_Can canG
  rw [check_ref, check_ref, width_ref, width_ref]
  cases h : validG l d c <;> cases k : validG x y z <;> simp [brK_eq]
  by_cases h1 : l = x <;> by_cases h2 : d = y <;> by_cases h3 : c = z <;> by_cases h4 : d ≤ y <;> by_cases h5 : l ≤ x <;> simp [h1, h2, h3, h4, h5] <;> omega

end Wf

/-
  Numbers that a test plays with, plainly.
-/
namespace Wf
open Go Go.RowKit Go.Proofs
set_option linter.unusedSimpArgs false
set_option linter.unusedVariables false

theorem tmod_cases (a n : Int) (h : 1 ≤ n) : (0 ≤ a.tmod n ∧ a % n = a.tmod n) ∨ (a.tmod n < 0 ∧ a % n = a.tmod n + n) := by
  by_cases ha : a < 0
  · have h4 : a.tmod n = - ((-a) % n) := by rw [show a = -(-a) by omega, Int.neg_tmod, Int.tmod_eq_emod_of_nonneg (by omega)]; simp
    have h5 := Int.emod_nonneg (-a) (show n ≠ 0 by omega)
    have h6 := Int.emod_lt_of_pos (-a) (show 0 < n by omega)
    by_cases h7 : (-a) % n = 0
    · left
      refine ⟨by omega, ?_⟩
      have : n ∣ a := by
        have := Int.dvd_of_emod_eq_zero h7
        exact (Int.dvd_neg).1 this
      rw [Int.emod_eq_zero_of_dvd this]; omega
    · right
      refine ⟨by omega, ?_⟩
      rw [h4]
      have : a % n = (n - (-a) % n) % n := by
        rw [Int.sub_emod, Int.emod_emod_of_dvd _ (Int.dvd_refl n), ← Int.sub_emod, Int.sub_neg, Int.add_emod, Int.emod_self]; simp
      rw [this, Int.emod_eq_of_lt (by omega) (by omega)]; omega
  · left
    rw [Int.tmod_eq_emod_of_nonneg (by omega)]
    exact ⟨Int.emod_nonneg a (show n ≠ 0 by omega), rfl⟩

theorem within (a n : Int) (h : 1 ≤ n) (h9 : n < 1000000000) : F_wattlekeep_Within [.int .i64 a, .int .i64 n] = some (iD (a % n)) := by
  rw [F_wattlekeep_Within_eq]
  unfold g_wattlekeep_Within
  have hm := tmod_cases a n h
  have hlt := Int.lt_tmod_of_pos a (show 0 < n by omega)
  have h1 : ¬ n < 1 := by omega
  have h0 : n ≠ 0 := by omega
  rcases hm with ⟨k1, k2⟩ | ⟨k1, k2⟩
  · simp [brK_eq, h1, h0, Int.not_lt.2 k1, k2]
  · simp [brK_eq, h1, h0, k1, k2]
    exact wrap_fit (by omega) (by omega)

def qn (n k : Int) : Int := IntKind.i64.wrap (n.tdiv k)
theorem chunk_of (q : Int) (h0 : 0 ≤ q) (h3 : q < 3) {R : Type} (f : D → Option R) : getK [D.int .i64 1, D.int .i64 2, D.int .i64 4] q.toNat f = f (iD (if q = 0 then 1 else if q = 1 then 2 else 4)) := by
  have : q = 0 ∨ q = 1 ∨ q = 2 := by omega
  rcases this with rfl | rfl | rfl <;> rfl

structure Geo where
  l : Int
  d : Int
  c : Int
  deriving DecidableEq
def Geo.D (g : Geo) : Wf.D := gD g.l g.d g.c
def Geo.ok (g : Geo) : Bool := validG g.l g.d g.c
def geomOf (n : Int) : Geo :=
  let lev := 5 + n % 2
  let ch := if qn n 2 % 3 = 0 then 1 else if qn n 2 % 3 = 1 then 2 else 4
  let dk := if lev = 6 then 4 + qn n 6 % 4 else 3 + qn n 6 % 4
  let s := qn n 24 % 40
  if s = 36 then ⟨n % 9, dk, ch⟩ else if s = 37 then ⟨lev, n % 12 - 1, ch⟩ else if s = 38 then ⟨lev, dk, n % 9 - 1⟩ else if s = 39 then ⟨lev, 8, ch⟩ else ⟨lev, dk, ch⟩
def goodOf (n : Int) : Geo := if (geomOf n).ok then geomOf n else ⟨5, 3, 1⟩
theorem good_valid (n : Int) : (goodOf n).ok = true := by
  unfold goodOf
  split
  · assumption
  · rfl
theorem geom_play (n : Int) : F_wattleplay_Geom [.int .i64 n] = some (geomOf n).D := by
  rw [F_wattleplay_Geom_eq]
  unfold g_wattleplay_Geom
  have w5 : IntKind.i64.wrap (5 + n % 2) = 5 + n % 2 := wrap_fit (by omega) (by omega)
  have w3 : IntKind.i64.wrap (3 + qn n 6 % 4) = 3 + qn n 6 % 4 := wrap_fit (by omega) (by omega)
  have w4 : IntKind.i64.wrap (4 + qn n 6 % 4) = 4 + qn n 6 % 4 := wrap_fit (by omega) (by omega)
  have w12 : IntKind.i64.wrap (n % 12 - 1) = n % 12 - 1 := wrap_fit (by omega) (by omega)
  have w9 : IntKind.i64.wrap (n % 9 - 1) = n % 9 - 1 := wrap_fit (by omega) (by omega)
  have h0 : 0 ≤ qn n 2 % 3 := by omega
  have h3 : qn n 2 % 3 < 3 := by omega
  have e2 : IntKind.i64.wrap (n.tdiv 2) = qn n 2 := rfl
  have e6 : IntKind.i64.wrap (n.tdiv 6) = qn n 6 := rfl
  have e24 : IntKind.i64.wrap (n.tdiv 24) = qn n 24 := rfl
  simp only [within _ _ (show (1:Int) ≤ 2 by decide) (show (2:Int) < 1000000000 by decide), within _ _ (show (1:Int) ≤ 3 by decide) (show (3:Int) < 1000000000 by decide), within _ _ (show (1:Int) ≤ 4 by decide) (show (4:Int) < 1000000000 by decide),
    within _ _ (show (1:Int) ≤ 9 by decide) (show (9:Int) < 1000000000 by decide), within _ _ (show (1:Int) ≤ 12 by decide) (show (12:Int) < 1000000000 by decide), within _ _ (show (1:Int) ≤ 40 by decide) (show (40:Int) < 1000000000 by decide),
    bindK_some_eq, iD, asI_int, letN_eq, w5, w3, w4, w12, w9, e2, e6, e24, sif_pos h0, chunk_of _ h0 h3]
  unfold Geo.D geomOf
  have hl : n % 2 = 0 ∨ n % 2 = 1 := by omega
  by_cases k1 : qn n 24 % 40 = 36 <;> by_cases k2 : qn n 24 % 40 = 37 <;> by_cases k3 : qn n 24 % 40 = 38 <;> by_cases k4 : qn n 24 % 40 = 39 <;> rcases hl with hl | hl <;>
    simp [brK_eq, k1, k2, k3, k4, hl] <;> omega
theorem good_play (n : Int) : F_wattleplay_Good [.int .i64 n] = some (goodOf n).D := by
  rw [F_wattleplay_Good_eq]
  unfold g_wattleplay_Good
  rw [geom_play]
  unfold goodOf
  obtain ⟨l, d, c⟩ := geomOf n
  simp only [bindK_some_eq, Geo.D, asAgg_agg, getCells_int, getCells_nil, check_ref, asB_bool, Geo.ok]
  by_cases h : validG l d c = true
  · simp [brK_eq, h]
  · simp only [Bool.not_eq_true] at h; simp [brK_eq, h]

def Geo.can (x y : Geo) : Bool := canG x.l x.d x.c y.l y.d y.c
theorem can_iff {x y : Geo} : x.can y = true ↔ x.ok = true ∧ y.ok = true ∧ x ≠ y ∧ x.d ≤ y.d ∧ x.l ≤ y.l ∧ widthG x.l x.d x.c ≤ widthG y.l y.d y.c := by
  unfold Geo.can canG Geo.ok
  obtain ⟨l, d, c⟩ := x
  obtain ⟨l', d', c'⟩ := y
  simp only [Bool.and_eq_true, Bool.not_eq_true', Bool.and_eq_false_iff, beq_eq_false_iff_ne, decide_eq_true_eq, ne_eq, Geo.mk.injEq]
  constructor
  · rintro ⟨⟨⟨⟨⟨h1, h2⟩, h3⟩, h4⟩, h5⟩, h6⟩
    exact ⟨h1, h2, by rintro ⟨rfl, rfl, rfl⟩; simp at h3, h4, h5, h6⟩
  · rintro ⟨h1, h2, h3, h4, h5, h6⟩
    refine ⟨⟨⟨⟨⟨h1, h2⟩, ?_⟩, h4⟩, h5⟩, h6⟩
    by_cases e1 : l = l'
    · by_cases e2 : d = d'
      · exact .inr (.inr fun e3 => h3 ⟨e1, e2, e3⟩)
      · exact .inr (.inl e2)
    · exact .inl e1
/-- What a pair that a test plays with is. -/
theorem pair_play (m n : Int) : ∃ x y : Geo, F_wattleplay_Pair [.int .i64 m, .int .i64 n] = some (.tup [x.D, y.D]) ∧ x.can y = true ∧ x.d ≤ 5 ∧ y.d ≤ 8 := by
  rw [F_wattleplay_Pair_eq]
  unfold g_wattleplay_Pair
  have e2 : IntKind.i64.wrap (m.tdiv 2) = qn m 2 := rfl
  have e6 : IntKind.i64.wrap (m.tdiv 6) = qn m 6 := rfl
  have e3 : IntKind.i64.wrap (n.tdiv 3) = qn n 3 := rfl
  have e9 : IntKind.i64.wrap (n.tdiv 9) = qn n 9 := rfl
  have w3 : IntKind.i64.wrap (3 + m % 2) = 3 + m % 2 := wrap_fit (by omega) (by omega)
  have w4 : IntKind.i64.wrap (4 + m % 2) = 4 + m % 2 := wrap_fit (by omega) (by omega)
  have w31 : IntKind.i64.wrap (3 + m % 2 + 1) = 3 + m % 2 + 1 := wrap_fit (by omega) (by omega)
  have w3n : IntKind.i64.wrap (3 + m % 2 + n % 3) = 3 + m % 2 + n % 3 := wrap_fit (by omega) (by omega)
  have w4n : IntKind.i64.wrap (4 + m % 2 + n % 3) = 4 + m % 2 + n % 3 := wrap_fit (by omega) (by omega)
  have w3n1 : IntKind.i64.wrap (3 + m % 2 + n % 3 + 1) = 3 + m % 2 + n % 3 + 1 := wrap_fit (by omega) (by omega)
  have w4n1 : IntKind.i64.wrap (4 + m % 2 + n % 3 + 1) = 4 + m % 2 + n % 3 + 1 := wrap_fit (by omega) (by omega)
  have wmx : IntKind.i64.wrap (max (3 + m % 2 + n % 3) (3 + m % 2 + 1) + 1) = max (3 + m % 2 + n % 3) (3 + m % 2 + 1) + 1 := wrap_fit (by omega) (by omega)
  have h0 : 0 ≤ qn m 2 % 3 := by omega
  have h3 : qn m 2 % 3 < 3 := by omega
  have k0 : 0 ≤ qn n 3 % 3 := by omega
  have k3 : qn n 3 % 3 < 3 := by omega
  simp only [within _ _ (show (1:Int) ≤ 2 by decide) (show (2:Int) < 1000000000 by decide), within _ _ (show (1:Int) ≤ 3 by decide) (show (3:Int) < 1000000000 by decide), within _ _ (show (1:Int) ≤ 4 by decide) (show (4:Int) < 1000000000 by decide),
    bindK_some_eq, iD, asI_int, letN_eq, e2, e6, e3, e9, w3, w4, w31, w3n, w4n, w3n1, w4n1, wmx, sif_pos h0, sif_pos k0, chunk_of _ h0 h3, chunk_of _ k0 k3, can_ref, asB_bool]
  obtain ⟨a, ha⟩ : ∃ a, (if qn m 2 % 3 = 0 then (1 : Int) else if qn m 2 % 3 = 1 then 2 else 4) = a := ⟨_, rfl⟩
  obtain ⟨b, hb⟩ : ∃ a, (if qn n 3 % 3 = 0 then (1 : Int) else if qn n 3 % 3 = 1 then 2 else 4) = a := ⟨_, rfl⟩
  have ha' : a = 1 ∨ a = 2 ∨ a = 4 := by rw [← ha]; (repeat' split) <;> simp
  have hb' : b = 1 ∨ b = 2 ∨ b = 4 := by rw [← hb]; (repeat' split) <;> simp
  rw [ha, hb]
  have hm : m % 2 = 0 ∨ m % 2 = 1 := by omega
  have hn : n % 3 = 0 ∨ n % 3 = 1 ∨ n % 3 = 2 := by omega
  clear e2 e6 e3 e9 w3 w4 w31 w3n w4n w3n1 w4n1 wmx h0 h3 k0 k3 ha hb
  generalize m % 2 = p at *
  generalize n % 3 = q at *
  generalize qn m 6 % 4 = s1 at *
  generalize qn n 9 % 2 = s2 at *
  -- one way for all
  have key : ∀ (l l' d d' : Int), 3 ≤ d → d ≤ 5 → d ≤ d' → d' ≤ 7 → (l = 5 ∨ l = 6 ∧ 4 ≤ d) → (l' = l ∨ l = 5 ∧ l' = 6 ∧ d < d') →
      ∃ x y : Geo, brK (!canG l d a l' d' b) (some (D.tup [gD l d a, gD l' (d' + 1) b])) (some (D.tup [gD l d a, gD l' d' b])) = some (.tup [x.D, y.D]) ∧ x.can y = true ∧ x.d ≤ 5 ∧ y.d ≤ 8 := by
    intro l l' d d' h1 h2 h3 h4 h5 h6
    have v1 : validG l d a = true := by rw [valid_iff]; omega
    have v2 : validG l' d' b = true := by rw [valid_iff]; omega
    have v3 : validG l' (d' + 1) b = true := by rw [valid_iff]; omega
    cases hc : canG l d a l' d' b
    · refine ⟨⟨l, d, a⟩, ⟨l', d' + 1, b⟩, rfl, can_iff.2 ⟨v1, v3, ?_, ?_, ?_, ?_⟩, h2, by dsimp only; omega⟩
      · simp only [ne_eq, Geo.mk.injEq]; omega
      · dsimp only; omega
      · dsimp only; omega
      · simp only [widthG, v1, v3, if_true]; omega
    · exact ⟨⟨l, d, a⟩, ⟨l', d', b⟩, rfl, hc, h2, by dsimp only; omega⟩
  by_cases q1 : s1 = 3
  · rw [show (s1 == 3) = true from by simp [q1], brK_true]
    have := key 6 6 (4 + p) (4 + p + q) (by omega) (by omega) (by omega) (by omega) (by omega) (by omega)
    exact this
  · rw [show (s1 == 3) = false from by simpa using q1, brK_false]
    by_cases q2 : s2 = 1
    · rw [show (s2 == 1) = true from by simp [q2], brK_true]
      have := key 5 6 (3 + p) (max (3 + p + q) (3 + p + 1)) (by omega) (by omega) (by omega) (by omega) (by omega) (by omega)
      exact this
    · rw [show (s2 == 1) = false from by simpa using q2, brK_false]
      have := key 5 5 (3 + p) (3 + p + q) (by omega) (by omega) (by omega) (by omega) (by omega) (by omega)
      exact this
end Wf

/-
  Windows, plainly.
-/
namespace Wf
open Go Go.RowKit Go.Proofs
set_option linter.unusedSimpArgs false
set_option linter.unusedVariables false

def Geo.width (g : Geo) : Int := widthG g.l g.d g.c
def Geo.cap (g : Geo) : Int := capG g.l g.d g.c
def rowsP (x y : Geo) : Int := if x.can y then max x.c y.c else 0
def winP (x y : Geo) : Int := if x.can y then 16 / max x.c y.c else 0
def spanP (x y : Geo) (k : Int) : Int × Int := if k < 0 ∨ winP x y ≤ k then (0, 0) else (k * (rowsP x y * y.width), (k + 1) * (rowsP x y * y.width))
def cursorP (x y : Geo) (k : Int) : Int := if k < 0 ∨ winP x y < k then 0 else min (k * rowsP x y * y.width) x.cap

theorem ok_iff {g : Geo} : g.ok = true ↔ ((g.l = 5 ∧ 3 ≤ g.d) ∨ (g.l = 6 ∧ 4 ≤ g.d)) ∧ g.d ≤ 8 ∧ (g.c = 1 ∨ g.c = 2 ∨ g.c = 4) := valid_iff
theorem width_of {g : Geo} (h : g.ok = true) : g.width = g.d - (g.l - 4) := by exact if_pos h
theorem width_ok {g : Geo} (h : g.ok = true) : 2 ≤ g.width ∧ g.width ≤ 7 := by
  rw [width_of h]; have := ok_iff.1 h; omega
theorem cap_of {g : Geo} : g.cap = g.width * 16 := rfl
theorem rows_of {x y : Geo} (h : x.can y = true) : rowsP x y = max x.c y.c ∧ (rowsP x y = 1 ∨ rowsP x y = 2 ∨ rowsP x y = 4) := by
  have h1 := ok_iff.1 (can_iff.1 h).1
  have h2 := ok_iff.1 (can_iff.1 h).2.1
  unfold rowsP; rw [if_pos h]
  exact ⟨rfl, by omega⟩
theorem win_of {x y : Geo} (h : x.can y = true) : winP x y = 16 / rowsP x y ∧ (winP x y = 4 ∨ winP x y = 8 ∨ winP x y = 16) ∧ winP x y * rowsP x y = 16 := by
  have h1 := rows_of h
  have h2 : winP x y = 16 / rowsP x y := by unfold winP rowsP; rw [if_pos h, if_pos h]
  rw [h2]
  rcases h1.2 with e | e | e <;> rw [e] <;> simp
theorem rows_no {x y : Geo} (h : x.can y = false) : rowsP x y = 0 ∧ winP x y = 0 := by unfold rowsP winP; simp [h]

theorem plan_rows (x y : Geo) : F_plan_Rows [x.D, y.D] = some (iD (rowsP x y)) := by
  unfold Geo.D
  rw [F_plan_Rows_eq]
  unfold g_plan_Rows
  rw [can_geom]
  show bindK (some (D.bool (x.can y))) _ = _
  cases h : x.can y
  · simp [brK_eq, rows_no h]
  · simp [brK_eq, rows_of h]
theorem plan_windows (x y : Geo) : F_plan_Windows [x.D, y.D] = some (iD (winP x y)) := by
  have hr := plan_rows x y
  unfold Geo.D at *
  rw [F_plan_Windows_eq]
  unfold g_plan_Windows
  rw [hr]
  cases h : x.can y
  · simp [brK_eq, rows_no h]
  · obtain ⟨h1, h2⟩ := rows_of h
    obtain ⟨h3, h4, h5⟩ := win_of h
    rw [h3]
    rcases h2 with e | e | e <;> rw [e] <;> simp [brK_eq] <;> rfl
theorem width_geo (g : Geo) : F_geom_Width [gD g.l g.d g.c] = some (iD g.width) := width_geom ..
theorem cap_geo (g : Geo) : F_geom_Capacity [gD g.l g.d g.c] = some (iD g.cap) := capacity_geom ..
theorem width_geoR (g : Geo) : F_wattleref01_Width [gD g.l g.d g.c] = some (iD g.width) := width_ref ..
theorem cap_geoR (g : Geo) : F_wattleref01_Capacity [gD g.l g.d g.c] = some (iD g.cap) := capacity_ref ..

/-- What spans' numbers come to. -/
theorem span_fit {x y : Geo} {k : Int} (h : x.can y = true) (h0 : 0 ≤ k) (h1 : k ≤ winP x y) :
    IntKind.i64.wrap (rowsP x y * y.width) = rowsP x y * y.width ∧ IntKind.i64.wrap (k * (rowsP x y * y.width)) = k * (rowsP x y * y.width) ∧
    IntKind.i64.wrap (k + 1) = k + 1 ∧ IntKind.i64.wrap ((k + 1) * (rowsP x y * y.width)) = (k + 1) * (rowsP x y * y.width) ∧
    IntKind.i64.wrap (k * rowsP x y) = k * rowsP x y ∧ IntKind.i64.wrap (k * rowsP x y * y.width) = k * rowsP x y * y.width := by
  obtain ⟨_, h2⟩ := rows_of h
  obtain ⟨_, h4, _⟩ := win_of h
  have h3 := width_ok (can_iff.1 h).2.1
  generalize y.width = w at *
  generalize winP x y = n at *
  have hw : w = 2 ∨ w = 3 ∨ w = 4 ∨ w = 5 ∨ w = 6 ∨ w = 7 := by omega
  rcases h2 with e | e | e <;> rw [e] <;> rcases hw with rfl | rfl | rfl | rfl | rfl | rfl <;>
    refine ⟨wrap_fit (by omega) (by omega), wrap_fit (by omega) (by omega), wrap_fit (by omega) (by omega), wrap_fit (by omega) (by omega), wrap_fit (by omega) (by omega), wrap_fit (by omega) (by omega)⟩



theorem least_ref (a b : Int) (ha : a = 1 ∨ a = 2 ∨ a = 4) (hb : b = 1 ∨ b = 2 ∨ b = 4) : F_wattleref01_least [.int .i64 a, .int .i64 b] = some (iD (max a b)) := by
  rw [F_wattleref01_least_eq]
  unfold g_wattleref01_least
  obtain ⟨m, hm⟩ := fuel_many
  rcases ha with rfl | rfl | rfl <;> rcases hb with rfl | rfl | rfl <;> simp [loopN, hm, fixN, brK_eq, wrap_fit] <;> rfl
theorem ref_rows (x y : Geo) : F_wattleref01_Rows [x.D, y.D] = some (iD (rowsP x y)) := by
  unfold Geo.D
  rw [F_wattleref01_Rows_eq]
  unfold g_wattleref01_Rows
  rw [can_ref]
  show bindK (some (D.bool (x.can y))) _ = _
  cases h : x.can y
  · simp [brK_eq, rows_no h]
  · rw [least_ref _ _ (ok_iff.1 (can_iff.1 h).1).2.2 (ok_iff.1 (can_iff.1 h).2.1).2.2]
    simp [brK_eq, rows_of h]
theorem ref_windows (x y : Geo) : F_wattleref01_Windows [x.D, y.D] = some (iD (winP x y)) := by
  have hr := ref_rows x y
  unfold Geo.D at *
  rw [F_wattleref01_Windows_eq]
  unfold g_wattleref01_Windows
  rw [hr, can_ref]
  show bindK (some (D.bool (x.can y))) _ = _
  cases h : x.can y
  · simp [brK_eq, rows_no h]
  · obtain ⟨h1, h2⟩ := rows_of h
    obtain ⟨h3, h4, h5⟩ := win_of h
    rw [h3]
    rcases h2 with e | e | e <;> rw [e] <;> simp [brK_eq] <;> rfl



section
variable (a b c x y z k : Int)
theorem plan_rows' : F_plan_Rows [gD a b c, gD x y z] = some (iD (rowsP ⟨a, b, c⟩ ⟨x, y, z⟩)) := plan_rows ⟨a, b, c⟩ ⟨x, y, z⟩
theorem plan_windows' : F_plan_Windows [gD a b c, gD x y z] = some (iD (winP ⟨a, b, c⟩ ⟨x, y, z⟩)) := plan_windows ⟨a, b, c⟩ ⟨x, y, z⟩


theorem ref_rows' : F_wattleref01_Rows [gD a b c, gD x y z] = some (iD (rowsP ⟨a, b, c⟩ ⟨x, y, z⟩)) := ref_rows ⟨a, b, c⟩ ⟨x, y, z⟩
theorem ref_windows' : F_wattleref01_Windows [gD a b c, gD x y z] = some (iD (winP ⟨a, b, c⟩ ⟨x, y, z⟩)) := ref_windows ⟨a, b, c⟩ ⟨x, y, z⟩


theorem cap_ref' : F_wattleref01_Capacity [gD a b c] = some (iD (Geo.cap ⟨a, b, c⟩)) := cap_geoR ⟨a, b, c⟩
end
end Wf

/-
  Sectors without disks: what the program's functions do.
-/
namespace Wf
open Go Go.RowKit Go.Proofs
set_option linter.unusedSimpArgs false
set_option linter.unusedVariables false

/-- An object's cells. -/
structure VS where
  es : List (Int × D)
  fl : List Bool
  ou : List Bool
  a : Geo
  b : Geo
  run : Bool
  win : Int
def VS.cells (s : VS) : List D := [.mp .own (.int .i64) s.es, .sl .own (s.fl.map D.bool), .sl .own (s.ou.map D.bool), .int .i64 s.a.l, .int .i64 s.a.d, .int .i64 s.a.c, .int .i64 s.b.l, .int .i64 s.b.d, .int .i64 s.b.c, .bool s.run, .int .i64 s.win]
section
variable {R : Type} {s : VS}
@[simp] theorem vs0 (f : D → Option R) : getK s.cells 0 f = f (.mp .own (.int .i64) s.es) := rfl
@[simp] theorem vs1 (f : D → Option R) : getK s.cells 1 f = f (.sl .own (s.fl.map D.bool)) := rfl
@[simp] theorem vs2 (f : D → Option R) : getK s.cells 2 f = f (.sl .own (s.ou.map D.bool)) := rfl
@[simp] theorem vs4 (f : D → Option R) : getK s.cells 4 f = f (.int .i64 s.a.d) := rfl
@[simp] theorem vs7 (f : D → Option R) : getK s.cells 7 f = f (.int .i64 s.b.d) := rfl
@[simp] theorem vs9 (f : D → Option R) : getK s.cells 9 f = f (.bool s.run) := rfl
@[simp] theorem vs10 (f : D → Option R) : getK s.cells 10 f = f (.int .i64 s.win) := rfl
@[simp] theorem vsl : s.cells.length = 11 := rfl
@[simp] theorem vsa : List.take 3 (List.drop 3 s.cells) = [.int .i64 s.a.l, .int .i64 s.a.d, .int .i64 s.a.c] := rfl
@[simp] theorem vsb : List.take 3 (List.drop 6 s.cells) = [.int .i64 s.b.l, .int .i64 s.b.d, .int .i64 s.b.c] := rfl
@[simp] theorem vsr : List.take 1 (List.drop 9 s.cells) = [.bool s.run] := rfl
@[simp] theorem vsw : List.take 1 (List.drop 10 s.cells) = [.int .i64 s.win] := rfl
theorem vs_es (es : List (Int × D)) : s.cells.set 0 (.mp .own (.int .i64) es) = ({ s with es } : VS).cells := rfl
theorem vs_fl (l : List Bool) : s.cells.set 1 (.sl .own (l.map D.bool)) = ({ s with fl := l } : VS).cells := rfl
theorem vs_ou (l : List Bool) : s.cells.set 2 (.sl .own (l.map D.bool)) = ({ s with ou := l } : VS).cells := rfl
theorem vs_a (x y z : Int) : s.cells.take 3 ++ [.int .i64 x, .int .i64 y, .int .i64 z] ++ s.cells.drop 6 = ({ s with a := ⟨x, y, z⟩ } : VS).cells := rfl
theorem vs_b (x y z : Int) : s.cells.take 6 ++ [.int .i64 x, .int .i64 y, .int .i64 z] ++ s.cells.drop 9 = ({ s with b := ⟨x, y, z⟩ } : VS).cells := rfl
theorem vs_run (b : Bool) : s.cells.take 9 ++ [.bool b] ++ s.cells.drop 10 = ({ s with run := b } : VS).cells := rfl
theorem vs_win (n : Int) : s.cells.take 10 ++ [.int .i64 n] ++ s.cells.drop 11 = ({ s with win := n } : VS).cells := rfl
@[simp] theorem flats_nil : flats [] = true := rfl
@[simp] theorem flats_int (k : IntKind) (n : Int) (l : List D) : flats (.int k n :: l) = flats l := rfl
@[simp] theorem flats_bool (b : Bool) (l : List D) : flats (.bool b :: l) = flats l := rfl
end
/-- A sector's bytes. -/
def Bytes (xs : List D) : Prop := xs.length = 32 ∧ ∀ d ∈ xs, ∃ n, d = .int .u8 n
structure VS.Ok (s : VS) : Prop where
  n : s.fl.length ≤ 8
  len : s.ou.length = s.fl.length
  a : s.a.ok = true
  ad : s.a.d ≤ s.fl.length
  b : s.run = true → s.a.can s.b = true ∧ s.b.d ≤ s.fl.length
  es : ∀ k x, findD k s.es = some x → ∃ xs, x = .agg xs ∧ Bytes xs

def VS.mem (s : VS) : Nat := (if s.run then s.b.d else s.a.d).toNat
def syncO (m : Nat) (fl ou : List Bool) : List Bool := ou.mapIdx fun j o => o || (decide (j < m) && fl.getD j false)
def VS.sync (s : VS) : VS := { s with ou := syncO s.mem s.fl s.ou }
def lostN (fl ou : List Bool) : Nat → Nat
  | 0 => 0
  | m + 1 => lostN fl ou m + if fl.getD m false || ou.getD m false then 1 else 0
def VS.lost (s : VS) : Nat := lostN s.fl s.ou s.mem

theorem VS.Ok.mem_le {s : VS} (h : s.Ok) : s.mem ≤ s.fl.length ∧ ((s.mem : Nat) : Int) = (if s.run then s.b.d else s.a.d) := by
  have ha := ok_iff.1 h.a
  unfold VS.mem
  cases hr : s.run
  · have := h.ad; simp; omega
  · obtain ⟨h1, h2⟩ := h.b hr
    have hb := ok_iff.1 (can_iff.1 h1).2.1
    simp; omega

theorem v_members {T : Tb} {i : Nat} {s : VS} (h : T[i]? = some s.cells) (hs : s.Ok) : F_virtual_Virtual_members [.h 4160 i 0] [T] = some (Ans.mk (iD s.mem) [] []) := by
  rw [F_virtual_Virtual_members_eq]
  unfold g_virtual_Virtual_members
  have := hs.mem_le.2
  rw [iD, this]
  simp only [getK_of h]
  cases hr : s.run <;> simp [VS.cells, brK_eq, hr]

theorem syncO_len (m : Nat) (fl ou : List Bool) : (syncO m fl ou).length = ou.length := by simp [syncO]
theorem syncO_get (m : Nat) (fl ou : List Bool) (j : Nat) : (syncO m fl ou)[j]? = (ou[j]?).map fun o => o || (decide (j < m) && fl.getD j false) := by simp [syncO]
theorem syncO_zero (fl ou : List Bool) : syncO 0 fl ou = ou := by
  apply List.ext_getElem?
  intro j
  rw [syncO_get]
  cases ou[j]? <;> simp
theorem syncO_step {m : Nat} {fl ou : List Bool} {o : Bool} (ho : ou[m]? = some o) : (syncO m fl ou).set m (o || fl.getD m false) = syncO (m + 1) fl ou := by
  apply List.ext_getElem?
  intro j
  rw [List.getElem?_set, syncO_len, syncO_get, syncO_get]
  by_cases e : m = j
  · subst e
    rw [if_pos rfl, if_pos (lt_of_get ho), ho]
    simp
  · rw [if_neg e]
    have : decide (j < m + 1) = decide (j < m) := by
      simp only [decide_eq_decide]; omega
    rw [this]
theorem mapBool_get {l : List Bool} {j : Nat} {b : Bool} (h : l[j]? = some b) : (l.map D.bool)[j]? = some (.bool b) := by simp [h]

theorem v_sync {T : Tb} {i : Nat} {s : VS} (h : T[i]? = some s.cells) (hs : s.Ok) : F_virtual_Virtual_sync [.h 4160 i 0] [T] = some (Ans.mk (.tup []) [] [T.set i s.sync.cells]) := by
  rw [F_virtual_Virtual_sync_eq]
  unfold g_virtual_Virtual_sync
  rw [v_members h hs]
  obtain ⟨hm, _⟩ := hs.mem_le
  have h8 := hs.n
  simp only [bindK_some_eq, nilK_nil, iD, asI_int]
  refine loopN_spec (α := (Nat × Int × Int × PUnit) × List (List D) × PUnit) (fun x => (s.mem : Int).toNat - x.1.2.2.1.toNat) (fun _ => some (Ans.mk (.tup []) [] [T.set i s.sync.cells]))
    (fun x => ∃ k : Nat, k ≤ s.mem ∧ x = ((i, (s.mem : Int), (k : Int), PUnit.unit), T.set i ({ s with ou := syncO k s.fl s.ou } : VS).cells, PUnit.unit)) ?_ ⟨0, Nat.zero_le _, ?_⟩ ?_
  · rintro again _ ⟨k, hk, rfl⟩ hag
    have hT := set_here h ({ s with ou := syncO k s.fl s.ou } : VS).cells
    by_cases hlt : k < s.mem
    · obtain ⟨f, hf⟩ : ∃ f, s.fl[k]? = some f := ⟨_, List.getElem?_eq_getElem (by omega)⟩
      obtain ⟨o, ho⟩ : ∃ o, s.ou[k]? = some o := ⟨_, List.getElem?_eq_getElem (by rw [hs.len]; omega)⟩
      have hgo : (syncO k s.fl s.ou)[k]? = some o := by rw [syncO_get, ho]; simp
      have hgo' := mapBool_get hgo
      have hgf := mapBool_get hf
      have hst := syncO_step (fl := s.fl) ho
      have hfd : s.fl.getD k false = f := by rw [List.getD_eq_getElem?_getD, hf]; rfl
      rw [hfd] at hst
      have hlen : (syncO k s.fl s.ou).length = s.fl.length := by rw [syncO_len, hs.len]
      have hw : IntKind.i64.wrap ((k : Int) + 1) = ((k + 1 : Nat) : Int) := by rw [wrap_fit (by omega) (by omega)]; rfl
      have hres := hag ((i, (s.mem : Int), ((k + 1 : Nat) : Int), PUnit.unit), T.set i ({ s with ou := syncO (k + 1) s.fl s.ou } : VS).cells, PUnit.unit) ⟨k + 1, hlt, rfl⟩ (by simp; omega)
      have hset : ∀ x : Bool, x = (o || f) → setT (T.set i ({ s with ou := syncO k s.fl s.ou } : VS).cells) i 2 (D.sl Tag.own (List.set (List.map D.bool (syncO k s.fl s.ou)) k (D.bool x))) = T.set i ({ s with ou := syncO (k + 1) s.fl s.ou } : VS).cells := by
        rintro x rfl
        rw [setT_of hT, List.set_set, ← List.map_set, hst, vs_ou]
      have hkf : k < s.fl.length := by omega
      simp only [getK_of hT]
      cases o
      · simp [brK_eq, hlt, getK_of hgo', getK_of hgf, hlen, hw, hkf, D.isAgg]
        rw [hset f (by simp)]
        exact hres
      · simp [brK_eq, hlt, getK_of hgo', getK_of hgf, hlen, hw, hkf, D.isAgg]
        rw [hset true (by simp)]
        exact hres
    · have : k = s.mem := by omega
      subst this
      simp [brK_eq]
      rfl
  · rw [syncO_zero]
    have : ({ s with ou := s.ou } : VS) = s := rfl
    rw [this]
    have : T.set i s.cells = T := set_same h
    rw [this]; rfl
  · simp; omega

theorem v_Lost {T : Tb} {i : Nat} {s : VS} (h : T[i]? = some s.cells) (hs : s.Ok) : F_virtual_Virtual_Lost [.h 4160 i 0] [T] = some (Ans.mk (iD s.lost) [] []) := by
  rw [F_virtual_Virtual_Lost_eq]
  unfold g_virtual_Virtual_Lost
  rw [v_members h hs]
  obtain ⟨hm, _⟩ := hs.mem_le
  have h8 := hs.n
  simp only [bindK_some_eq, nilK_nil, iD, asI_int]
  refine loopN_spec (α := (Nat × Int × Int × Int × PUnit) × List (List D) × PUnit) (fun x => (s.mem : Int).toNat - x.1.2.2.2.1.toNat) (fun _ => some (Ans.mk (.int .i64 s.lost) [] []))
    (fun x => ∃ k : Nat, k ≤ s.mem ∧ x = ((i, (lostN s.fl s.ou k : Int), (s.mem : Int), (k : Int), PUnit.unit), T, PUnit.unit)) ?_ ⟨0, Nat.zero_le _, ?_⟩ ?_
  · rintro again _ ⟨k, hk, rfl⟩ hag
    by_cases hlt : k < s.mem
    · obtain ⟨f, hf⟩ : ∃ f, s.fl[k]? = some f := ⟨_, List.getElem?_eq_getElem (by omega)⟩
      obtain ⟨o, ho⟩ : ∃ o, s.ou[k]? = some o := ⟨_, List.getElem?_eq_getElem (by rw [hs.len]; omega)⟩
      have hgo' := mapBool_get ho
      have hgf := mapBool_get hf
      have hfd : s.fl.getD k false = f := by rw [List.getD_eq_getElem?_getD, hf]; rfl
      have hod : s.ou.getD k false = o := by rw [List.getD_eq_getElem?_getD, ho]; rfl
      have hw : IntKind.i64.wrap ((k : Int) + 1) = (k : Int) + 1 := wrap_fit (by omega) (by omega)
      have hkf : k < s.fl.length := by omega
      have hko : k < s.ou.length := by rw [hs.len]; omega
      have hle : lostN s.fl s.ou k ≤ k := by
        clear hag hlt hgo' hgf hfd hod hw hkf hko ho hf hk
        induction k with
        | zero => exact Nat.le_refl _
        | succ k ih => simp only [lostN]; split <;> omega
      have hw2 : IntKind.i64.wrap ((lostN s.fl s.ou k : Int) + 1) = (lostN s.fl s.ou k : Int) + 1 := wrap_fit (by omega) (by omega)
      have hres := hag ((i, (lostN s.fl s.ou (k + 1) : Int), (s.mem : Int), ((k + 1 : Nat) : Int), PUnit.unit), T, PUnit.unit) ⟨k + 1, hlt, rfl⟩ (by simp; omega)
      have hstep : lostN s.fl s.ou (k + 1) = lostN s.fl s.ou k + if f || o then 1 else 0 := by simp only [lostN, hfd, hod]
      rw [hstep] at hres
      simp only [getK_of h]
      cases f <;> cases o <;> simp [brK_eq, hlt, getK_of hgo', getK_of hgf, hw, hw2, hkf, hko] <;> simpa using hres
    · have : k = s.mem := by omega
      subst this
      simp [brK_eq]
      rfl
  · rfl
  · simp; omega

def VS.err (s : VS) : Int := if (s.lost : Int) > budgetG s.a.l s.a.d s.a.c then 7 else 0
theorem v_lost {T : Tb} {i : Nat} {s : VS} (h : T[i]? = some s.cells) (hs : s.Ok) : F_virtual_Virtual_lost [.h 4160 i 0] [T] = some (Ans.mk (iD s.err) [] []) := by
  rw [F_virtual_Virtual_lost_eq]
  unfold g_virtual_Virtual_lost
  rw [v_Lost h hs]
  simp only [getK_of h]
  simp [budget_geom, brK_eq, VS.err]
  split <;> rfl
theorem v_cap {T : Tb} {i : Nat} {s : VS} (h : T[i]? = some s.cells) : F_virtual_Virtual_Capacity [.h 4160 i 0] [T] = some (Ans.mk (iD s.a.cap) [] []) := by
  rw [F_virtual_Virtual_Capacity_eq]
  unfold g_virtual_Virtual_Capacity
  simp only [getK_of h]
  simp [cap_geo]

theorem sync_ok {s : VS} (h : s.Ok) : s.sync.Ok := ⟨h.n, by show (syncO _ _ _).length = _; rw [syncO_len]; exact h.len, h.a, h.ad, h.b, h.es⟩
theorem v_flush {T : Tb} {i : Nat} {s : VS} (h : T[i]? = some s.cells) (hs : s.Ok) : F_virtual_Virtual_Flush [.h 4160 i 0] [T] = some (Ans.mk (iD 0) [] [T.set i s.sync.cells]) := by
  rw [F_virtual_Virtual_Flush_eq]
  unfold g_virtual_Virtual_Flush
  rw [v_sync h hs]
  simp

def VS.fail (s : VS) (d : Int) : Int × VS := if d < 0 ∨ (s.fl.length : Int) ≤ d then (1, s) else (0, { s with fl := s.fl.set d.toNat true })
theorem v_fail {T : Tb} {i : Nat} {s : VS} (h : T[i]? = some s.cells) (hs : s.Ok) (d : Int) : F_virtual_Virtual_Fail [.h 4160 i 0, .int .i64 d] [T] = some (Ans.mk (iD (s.fail d).1) [] [T.set i (s.fail d).2.cells]) := by
  rw [F_virtual_Virtual_Fail_eq]
  unfold g_virtual_Virtual_Fail VS.fail
  simp only [getK_of h]
  have hT := set_same h
  by_cases h0 : d < 0
  · simp [brK_eq, h0, hT]
  · by_cases h1 : (s.fl.length : Int) ≤ d
    · simp [brK_eq, h0, h1, hT]
    · obtain ⟨f, hf⟩ : ∃ f, s.fl[d.toNat]? = some f := ⟨_, List.getElem?_eq_getElem (by omega)⟩
      have hgf := mapBool_get hf
      have h2 : d.toNat < s.fl.length := by omega
      have h3 : 0 ≤ d := by omega
      have h4 : d < s.fl.length := by omega
      simp [-Int.toNat_lt', brK_eq, h0, h1, getK_of hgf, h2, h3, h4, D.isAgg, setT_of h]
      rw [← List.map_set, vs_fl]

theorem lentL_bytes {xs : List D} (h : ∀ d ∈ xs, ∃ n, d = D.int .u8 n) : D.lentL xs = xs := by
  induction xs with
  | nil => rfl
  | cons x xs ih =>
    obtain ⟨n, rfl⟩ := h x (by simp)
    simp [ih fun d hd => h d (by simp [hd])]
theorem cells_bytes {xs : List D} (h : ∀ d ∈ xs, ∃ n, d = D.int .u8 n) : cells xs = true := by
  unfold cells
  rw [List.all_eq_true]
  intro d hd
  obtain ⟨n, rfl⟩ := h d hd
  rfl
theorem flats_bytes {xs : List D} (h : ∀ d ∈ xs, ∃ n, d = D.int .u8 n) : xs.all D.flat = true := by
  rw [List.all_eq_true]
  intro d hd
  obtain ⟨n, rfl⟩ := h d hd
  rfl
theorem free_bytes {xs : List D} (h : ∀ d ∈ xs, ∃ n, d = D.int .u8 n) : xs.all D.free = true := by
  rw [List.all_eq_true]
  intro d hd
  obtain ⟨n, rfl⟩ := h d hd
  rfl
theorem okEls_bytes {xs : List D} (h : ∀ d ∈ xs, ∃ n, d = D.int .u8 n) : okEls 1 xs = true := by
  unfold okEls
  rw [List.all_eq_true]
  intro d hd
  obtain ⟨n, rfl⟩ := h d hd
  rfl

def VS.write (s : VS) (n : Int) (xs : List D) : Int × VS :=
  if xs.length ≠ 32 then (1, s.sync) else if n < 0 ∨ s.a.cap ≤ n then (4, s.sync) else if s.sync.err ≠ 0 then (s.sync.err, s.sync) else (0, { s.sync with es := setD n (.agg xs) s.es })
theorem v_write {T : Tb} {i : Nat} {s : VS} (h : T[i]? = some s.cells) (hs : s.Ok) (n : Int) (tg : Tag) {xs : List D} (hx : ∀ d ∈ xs, ∃ n, d = D.int .u8 n) :
    F_virtual_Virtual_Write [.h 4160 i 0, .int .i64 n, .sl tg xs] [T] = some (Ans.mk (iD (s.write n xs).1) [] [T.set i (s.write n xs).2.cells]) := by
  rw [F_virtual_Virtual_Write_eq, lentL_bytes hx]
  unfold g_virtual_Virtual_Write VS.write
  rw [v_sync h hs]
  have h' := set_here h s.sync.cells
  have hs' := sync_ok hs
  simp only [bindK_some_eq, nilK_nil, consK_cons, asTup_tup]
  rw [v_cap h', v_lost h' hs']
  simp only [getK_of h']
  have hl : (((xs.length : Nat) : Int) != 32) = decide (xs.length ≠ 32) := by
    by_cases e : xs.length = 32
    · simp [e]
    · have : ((xs.length : Nat) : Int) ≠ 32 := by omega
      simp [e, this]
  have hc := cells_bytes hx
  have hfl : D.flatEl (.agg xs) = true := flats_bytes hx
  have ha : s.sync.a = s.a := rfl
  rw [hl]
  by_cases h0 : xs.length = 32
  · by_cases h1 : n < 0
    · simp [brK_eq, h0, h1]
    · by_cases h2 : s.a.cap ≤ n
      · simp [brK_eq, h0, h1, h2, ha]
      · by_cases h3 : s.sync.err = 0
        · simp [brK_eq, h0, h1, h2, h3, ha, hc, hfl, D.width, setT_of h', List.set_set, vs_es]
          rfl
        · simp [brK_eq, h0, h1, h2, h3, ha]
  · simp [brK_eq, h0]

def VS.sec (s : VS) (n : Int) : List D := match findD n s.es with
  | some (.agg xs) => xs
  | _ => List.replicate 32 (.int .u8 0)
theorem sec_bytes {s : VS} (h : s.Ok) (n : Int) : Bytes (s.sec n) := by
  unfold VS.sec
  cases hf : findD n s.es with
  | none => exact ⟨rfl, fun d hd => ⟨0, (List.mem_replicate.1 hd).2⟩⟩
  | some x =>
    obtain ⟨xs, rfl, hb⟩ := h.es n x hf
    exact hb
theorem clone_byte {xs : List D} (hx : Bytes xs) (tg : Tag) : F_slices_Clone_byte_byte [.sl tg xs] = some (.sl .own xs) := by
  rw [F_slices_Clone_byte_byte_eq, lentL_bytes hx.2]
  unfold g_slices_Clone_byte_byte
  have he : xs.isEmpty = false := by
    cases xs with
    | nil => exact absurd hx.1 (by simp)
    | cons _ _ => rfl
  simp [brK_eq, he, hx.1, okEls_bytes hx.2, free_bytes hx.2]
def VS.read (s : VS) (n : Int) : List D × Int := if n < 0 ∨ s.a.cap ≤ n then ([], 4) else if s.sync.err ≠ 0 then ([], s.sync.err) else (s.sec n, 0)
theorem v_read {T : Tb} {i : Nat} {s : VS} (h : T[i]? = some s.cells) (hs : s.Ok) (n : Int) :
    F_virtual_Virtual_Read [.h 4160 i 0, .int .i64 n] [T] = some (Ans.mk (.tup [.sl .own (s.read n).1, iD (s.read n).2]) [] [T.set i s.sync.cells]) := by
  rw [F_virtual_Virtual_Read_eq]
  unfold g_virtual_Virtual_Read VS.read
  rw [v_sync h hs]
  have h' := set_here h s.sync.cells
  have hs' := sync_ok hs
  simp only [bindK_some_eq, nilK_nil, consK_cons, asTup_tup]
  rw [v_cap h', v_lost h' hs']
  simp only [getK_of h']
  have ha : s.sync.a = s.a := rfl
  have hsec := sec_bytes hs n
  have hlook : lookD n (.agg (List.replicate 32 (.int .u8 0))) s.sync.es = .agg (s.sec n) := by
    show lookD n _ s.es = _
    unfold lookD VS.sec
    cases hf : findD n s.es with
    | none => rfl
    | some x => obtain ⟨xs, rfl, hb⟩ := hs.es n x hf; rfl
  have hz : List.replicate 32 (D.int .u8 0) = [D.int IntKind.u8 (0 : Int), D.int IntKind.u8 (0 : Int), D.int IntKind.u8 (0 : Int), D.int IntKind.u8 (0 : Int), D.int IntKind.u8 (0 : Int), D.int IntKind.u8 (0 : Int), D.int IntKind.u8 (0 : Int), D.int IntKind.u8 (0 : Int),
    D.int IntKind.u8 (0 : Int), D.int IntKind.u8 (0 : Int), D.int IntKind.u8 (0 : Int), D.int IntKind.u8 (0 : Int), D.int IntKind.u8 (0 : Int), D.int IntKind.u8 (0 : Int), D.int IntKind.u8 (0 : Int), D.int IntKind.u8 (0 : Int),
    D.int IntKind.u8 (0 : Int), D.int IntKind.u8 (0 : Int), D.int IntKind.u8 (0 : Int), D.int IntKind.u8 (0 : Int), D.int IntKind.u8 (0 : Int), D.int IntKind.u8 (0 : Int), D.int IntKind.u8 (0 : Int), D.int IntKind.u8 (0 : Int),
    D.int IntKind.u8 (0 : Int), D.int IntKind.u8 (0 : Int), D.int IntKind.u8 (0 : Int), D.int IntKind.u8 (0 : Int), D.int IntKind.u8 (0 : Int), D.int IntKind.u8 (0 : Int), D.int IntKind.u8 (0 : Int), D.int IntKind.u8 (0 : Int)] := rfl
  rw [hz] at hlook
  by_cases h1 : n < 0
  · simp [brK_eq, h1]
  · by_cases h2 : s.a.cap ≤ n
    · simp [brK_eq, h1, h2, ha]
    · by_cases h3 : s.sync.err = 0
      · have hcut : cut 0 32 (s.sec n) = s.sec n := by
          have := cut_whole (s.sec n); rw [hsec.1] at this; exact this
        have hfr := free_bytes hsec.2
        simp [-List.all_eq_true, brK_eq, h1, h2, h3, ha, hlook, hsec.1, hcut, clone_byte hsec, hfr]
      · simp [brK_eq, h1, h2, h3, ha]
end Wf

/-
  Sectors without disks: the other functions.
-/
namespace Wf
open Go Go.RowKit Go.Proofs
set_option linter.unusedSimpArgs false
set_option linter.unusedVariables false

theorem lentL_bools (l : List Bool) : D.lentL (l.map D.bool) = l.map D.bool := by
  induction l with
  | nil => rfl
  | cons b l ih => simp [ih]
theorem index_bool (l : List Bool) (hl : l.length < 1000) (tg : Tag) : ∃ n : Int, F_slices_Index_bool_bool [.sl tg (l.map D.bool), .bool true] = some (iD n) ∧ (0 ≤ n ↔ true ∈ l) := by
  rw [F_slices_Index_bool_bool_eq, lentL_bools]
  unfold g_slices_Index_bool_bool
  have hlen : ((List.length (l.map D.bool) : Nat) : Int) = l.length := by simp
  rw [hlen]
  by_cases hm : true ∈ l
  · obtain ⟨j, hj, hjt⟩ : ∃ j : Nat, l[j]? = some true ∧ ∀ k, k < j → l[k]? = some false := by
      clear hl hlen
      induction l with
      | nil => simp at hm
      | cons b l ih =>
        cases b with
        | true => exact ⟨0, rfl, fun k hk => by omega⟩
        | false =>
          obtain ⟨j, h1, h2⟩ := ih (by simpa using hm)
          refine ⟨j + 1, by simpa using h1, fun k hk => ?_⟩
          cases k with
          | zero => rfl
          | succ k => simpa using h2 k (by omega)
    refine ⟨j, ?_, by simp [hm]⟩
    refine loopN_spec (α := (List D × Bool × Int × Int × PUnit) × PUnit) (fun x => (l.length : Int).toNat - x.1.2.2.2.1.toNat) (fun _ => some (iD j))
      (fun x => ∃ k : Nat, k ≤ j ∧ x = ((l.map D.bool, true, (l.length : Int), (k : Int), PUnit.unit), PUnit.unit)) ?_ ⟨0, Nat.zero_le _, rfl⟩ (by simp; omega)
    rintro again _ ⟨k, hk, rfl⟩ hag
    have hjl := lt_of_get hj
    have hkl : k < l.length := by omega
    by_cases hkj : k = j
    · subst hkj
      simp [brK_eq, hkl, getK_of (mapBool_get hj)]
    · have hf := hjt k (by omega)
      have hw : IntKind.i64.wrap ((k : Int) + 1) = ((k + 1 : Nat) : Int) := by rw [wrap_fit (by omega) (by omega)]; rfl
      have hres := hag ((l.map D.bool, true, (l.length : Int), ((k + 1 : Nat) : Int), PUnit.unit), PUnit.unit) ⟨k + 1, by omega, rfl⟩ (by simp; omega)
      simp [brK_eq, hkl, getK_of (mapBool_get hf), hw]
      simpa using hres
  · have hall : ∀ k, k < l.length → l[k]? = some false := by
      intro k hk
      rw [List.getElem?_eq_getElem hk]
      cases hb : l[k] with
      | false => rfl
      | true => exact absurd (hb ▸ List.getElem_mem hk) hm
    refine ⟨-1, ?_, by simp [hm]⟩
    refine loopN_spec (α := (List D × Bool × Int × Int × PUnit) × PUnit) (fun x => (l.length : Int).toNat - x.1.2.2.2.1.toNat) (fun _ => some (iD (-1)))
      (fun x => ∃ k : Nat, k ≤ l.length ∧ x = ((l.map D.bool, true, (l.length : Int), (k : Int), PUnit.unit), PUnit.unit)) ?_ ⟨0, Nat.zero_le _, rfl⟩ (by simp; omega)
    rintro again _ ⟨k, hk, rfl⟩ hag
    by_cases hkl : k < l.length
    · have hf := hall k hkl
      have hw : IntKind.i64.wrap ((k : Int) + 1) = ((k + 1 : Nat) : Int) := by rw [wrap_fit (by omega) (by omega)]; rfl
      have hres := hag ((l.map D.bool, true, (l.length : Int), ((k + 1 : Nat) : Int), PUnit.unit), PUnit.unit) ⟨k + 1, by omega, rfl⟩ (by simp; omega)
      simp [brK_eq, hkl, getK_of (mapBool_get hf), hw]
      simpa using hres
    · have : k = l.length := by omega
      subst this
      simp [brK_eq]
theorem contains_bool (l : List Bool) (hl : l.length < 1000) (tg : Tag) : F_slices_Contains_bool_bool [.sl tg (l.map D.bool), .bool true] = some (.bool (decide (true ∈ l))) := by
  rw [F_slices_Contains_bool_bool_eq, lentL_bools]
  unfold g_slices_Contains_bool_bool
  obtain ⟨n, h1, h2⟩ := index_bool l hl .lent
  rw [h1]
  simp [h2]

def VS.replace (s : VS) (d : Int) : Int × VS :=
  if d < 0 ∨ (s.mem : Int) ≤ d then (1, s.sync) else if s.sync.ou.getD d.toNat false = false then (9, s.sync) else
    (s.sync.err, if s.sync.err = 0 then { s.sync with fl := s.fl.set d.toNat false, ou := s.sync.ou.set d.toNat false } else { s.sync with fl := s.fl.set d.toNat false })
theorem v_replace {T : Tb} {i : Nat} {s : VS} (h : T[i]? = some s.cells) (hs : s.Ok) (d : Int) : F_virtual_Virtual_Replace [.h 4160 i 0, .int .i64 d] [T] = some (Ans.mk (iD (s.replace d).1) [] [T.set i (s.replace d).2.cells]) := by
  rw [F_virtual_Virtual_Replace_eq]
  unfold g_virtual_Virtual_Replace VS.replace
  rw [v_sync h hs]
  have h' := set_here h s.sync.cells
  have hs' := sync_ok hs
  have hm := hs.mem_le.1
  simp only [bindK_some_eq, nilK_nil, consK_cons, asTup_tup]
  rw [v_members h' hs', v_lost h' hs']
  simp only [getK_of h']
  have hmem : s.sync.mem = s.mem := rfl
  by_cases h1 : d < 0
  · simp [brK_eq, h1]
  · by_cases h2 : (s.mem : Int) ≤ d
    · simp [brK_eq, h1, h2, hmem]
    · have hdl : d.toNat < s.fl.length := by omega
      have hol : d.toNat < s.sync.ou.length := by rw [hs'.len]; exact hdl
      obtain ⟨o, ho⟩ : ∃ o, s.sync.ou[d.toNat]? = some o := ⟨_, List.getElem?_eq_getElem hol⟩
      obtain ⟨f, hf⟩ : ∃ f, s.sync.fl[d.toNat]? = some f := ⟨_, List.getElem?_eq_getElem hdl⟩
      have hod : s.sync.ou.getD d.toNat false = o := by rw [List.getD_eq_getElem?_getD, ho]; rfl
      have h0 : 0 ≤ d := by omega
      have hdl' : d.toNat < s.sync.fl.length := hdl
      have hdi : d < (s.sync.ou.length : Int) := by omega
      have hdf : d < (s.sync.fl.length : Int) := by omega
      rw [hod]
      cases o with
      | false => simp [-Int.toNat_lt', brK_eq, h1, h2, h0, hmem, hol, hdi, getK_of (mapBool_get ho)]
      | true =>
        have e1 : setT (T.set i s.sync.cells) i 1 (.sl .own ((s.sync.fl.map D.bool).set d.toNat (.bool false))) = T.set i ({ s.sync with fl := s.fl.set d.toNat false } : VS).cells := by
          rw [setT_of h', List.set_set, show D.bool false = D.bool false from rfl, ← List.map_set, vs_fl]; rfl
        have h'' := set_here h ({ s.sync with fl := s.fl.set d.toNat false } : VS).cells
        have e2 : setT (T.set i ({ s.sync with fl := s.fl.set d.toNat false } : VS).cells) i 2 (.sl .own ((s.sync.ou.map D.bool).set d.toNat (.bool false))) = T.set i ({ s.sync with fl := s.fl.set d.toNat false, ou := s.sync.ou.set d.toNat false } : VS).cells := by
          rw [setT_of h'', List.set_set, ← List.map_set, vs_ou]
        by_cases h3 : s.sync.err = 0
        · simp [-Int.toNat_lt', brK_eq, h1, h2, h3, h0, hmem, hol, hdl', hdi, hdf, getK_of (mapBool_get ho), getK_of (mapBool_get hf), D.isAgg, e1, getK_of h'', e2]
        · simp [-Int.toNat_lt', brK_eq, h1, h2, h3, h0, hmem, hol, hdl', hdi, hdf, getK_of (mapBool_get ho), getK_of (mapBool_get hf), D.isAgg, e1]

def VS.start (s : VS) (g : Geo) : Int × VS :=
  if s.run then (8, s.sync) else if s.a.can g = false ∨ (s.fl.length : Int) < g.d then (1, s.sync) else
    if true ∈ s.fl.take g.d.toNat ∨ true ∈ s.sync.ou.take g.d.toNat then (5, s.sync) else (0, { s.sync with b := g, run := true, win := 0 })
theorem v_start {T : Tb} {i : Nat} {s : VS} (h : T[i]? = some s.cells) (hs : s.Ok) (g : Geo) : F_virtual_Virtual_Start [.h 4160 i 0, gD g.l g.d g.c] [T] = some (Ans.mk (iD (s.start g).1) [] [T.set i (s.start g).2.cells]) := by
  rw [F_virtual_Virtual_Start_eq]
  unfold g_virtual_Virtual_Start VS.start
  rw [v_sync h hs]
  have h' := set_here h s.sync.cells
  have hs' := sync_ok hs
  simp only [bindK_some_eq, nilK_nil, consK_cons, asTup_tup]
  simp only [getK_of h']
  have hr : s.sync.run = s.run := rfl
  have ha : s.sync.a = s.a := rfl
  have hf : s.sync.fl = s.fl := rfl
  have hcan : F_geom_Can [gD s.a.l s.a.d s.a.c, gD g.l g.d g.c] = some (.bool (s.a.can g)) := can_geom ..
  cases hrun : s.run
  · cases hc : s.a.can g
    · simp [brK_eq, hrun, hr, ha, hcan, hc]
    · by_cases h1 : (s.fl.length : Int) < g.d
      · simp [brK_eq, hrun, hr, ha, hf, hcan, hc, h1]
      · have hg := ok_iff.1 (can_iff.1 hc).2.1
        have h0 : 0 ≤ g.d := by omega
        have h2 : g.d ≤ s.fl.length := by omega
        have h3 : g.d.toNat ≤ s.fl.length := by omega
        have hol : s.sync.ou.length = s.fl.length := by rw [hs'.len]; rfl
        have hcutf : cut 0 g.d.toNat (s.fl.map D.bool) = (s.fl.take g.d.toNat).map D.bool := by rw [cut_eq]; simp [List.map_take]
        have hcuto : cut 0 g.d.toNat (s.sync.ou.map D.bool) = (s.sync.ou.take g.d.toNat).map D.bool := by rw [cut_eq]; simp [List.map_take]
        have hcf := contains_bool (s.fl.take g.d.toNat) (by have := hs.n; rw [List.length_take]; omega) .lent
        have hco := contains_bool (s.sync.ou.take g.d.toNat) (by have := hs.n; rw [List.length_take]; omega) .lent
        by_cases k1 : true ∈ s.fl.take g.d.toNat
        · simp [-Int.toNat_lt', -List.map_take, brK_eq, hrun, hr, ha, hf, hcan, hc, h1, h0, h2, h3, hcutf, hcf, k1]
        · by_cases k2 : true ∈ s.sync.ou.take g.d.toNat
          · simp [-Int.toNat_lt', -List.map_take, brK_eq, hrun, hr, ha, hf, hcan, hc, h1, h0, h2, h3, hol, hcutf, hcf, k1, hcuto, hco, k2]
          · obtain ⟨q1, e1⟩ : ∃ q : VS, q = { s.sync with b := g } := ⟨_, rfl⟩
            obtain ⟨q2, e2⟩ : ∃ q : VS, q = { q1 with run := true } := ⟨_, rfl⟩
            obtain ⟨q3, e3⟩ : ∃ q : VS, q = { q2 with win := 0 } := ⟨_, rfl⟩
            have t1 : setCells (T.set i s.sync.cells) i 6 [.int .i64 g.l, .int .i64 g.d, .int .i64 g.c] = T.set i q1.cells := by
              rw [setCells_of h', List.set_set, e1]; rfl
            have k1' := set_here h q1.cells
            have t2 : setCells (T.set i q1.cells) i 9 [.bool true] = T.set i q2.cells := by
              rw [setCells_of k1', List.set_set, e2]; rfl
            have k2' := set_here h q2.cells
            have t3 : setCells (T.set i q2.cells) i 10 [.int .i64 0] = T.set i q3.cells := by
              rw [setCells_of k2', List.set_set, e3]; rfl
            have e4 : ({ s.sync with b := g, run := true, win := 0 } : VS) = q3 := by rw [e3, e2, e1]
            rw [e4]
            simp [-Int.toNat_lt', -List.map_take, brK_eq, hrun, hr, ha, hf, hcan, hc, h1, h0, h2, h3, hol, hcutf, hcf, k1, hcuto, hco, k2, t1, getK_of k1', t2, getK_of k2', t3]
  · simp [brK_eq, hrun, hr]

def VS.step (s : VS) : Int × VS :=
  if s.run = false then (9, s.sync) else if s.sync.err ≠ 0 then (s.sync.err, s.sync) else
    if IntKind.i64.wrap (s.win + 1) = winP s.a s.b then (0, { s.sync with a := s.b, b := ⟨0, 0, 0⟩, run := false, win := 0 }) else (0, { s.sync with win := IntKind.i64.wrap (s.win + 1) })
theorem v_step {T : Tb} {i : Nat} {s : VS} (h : T[i]? = some s.cells) (hs : s.Ok) : F_virtual_Virtual_Step [.h 4160 i 0] [T] = some (Ans.mk (iD s.step.1) [] [T.set i s.step.2.cells]) := by
  rw [F_virtual_Virtual_Step_eq]
  unfold g_virtual_Virtual_Step VS.step
  rw [v_sync h hs]
  have h' := set_here h s.sync.cells
  have hs' := sync_ok hs
  simp only [bindK_some_eq, nilK_nil, consK_cons, asTup_tup]
  rw [v_lost h' hs']
  simp only [getK_of h']
  have hr : s.sync.run = s.run := rfl
  cases hrun : s.run
  · simp [brK_eq, hrun, hr]
  · by_cases h3 : s.sync.err = 0
    · obtain ⟨w, hw⟩ : ∃ w, IntKind.i64.wrap (s.win + 1) = w := ⟨_, rfl⟩
      have hwin : s.sync.win = s.win := rfl
      obtain ⟨q1, e1⟩ : ∃ q : VS, q = { s.sync with win := w } := ⟨_, rfl⟩
      have t1 : setCells (T.set i s.sync.cells) i 10 [.int .i64 w] = T.set i q1.cells := by
        rw [setCells_of h', List.set_set, e1]; rfl
      have k1 := set_here h q1.cells
      have hwd : F_plan_Windows [gD s.a.l s.a.d s.a.c, gD s.b.l s.b.d s.b.c] = some (iD (winP s.a s.b)) := plan_windows s.a s.b
      have ha : q1.a = s.a := by rw [e1]; rfl
      have hb : q1.b = s.b := by rw [e1]; rfl
      have hq1w : q1.win = w := by rw [e1]
      rw [hw]
      by_cases h4 : w = winP s.a s.b
      · obtain ⟨q2, e2⟩ : ∃ q : VS, q = { q1 with a := s.b } := ⟨_, rfl⟩
        obtain ⟨q3, e3⟩ : ∃ q : VS, q = { q2 with b := ⟨0, 0, 0⟩ } := ⟨_, rfl⟩
        obtain ⟨q4, e4⟩ : ∃ q : VS, q = { q3 with run := false } := ⟨_, rfl⟩
        obtain ⟨q5, e5⟩ : ∃ q : VS, q = { q4 with win := 0 } := ⟨_, rfl⟩
        have t2 : setCells (T.set i q1.cells) i 3 [.int .i64 s.b.l, .int .i64 s.b.d, .int .i64 s.b.c] = T.set i q2.cells := by
          rw [setCells_of k1, List.set_set, e2]; rfl
        have k2 := set_here h q2.cells
        have t3 : setCells (T.set i q2.cells) i 6 [.int .i64 0, .int .i64 0, .int .i64 0] = T.set i q3.cells := by
          rw [setCells_of k2, List.set_set, e3]; rfl
        have k3 := set_here h q3.cells
        have t4 : setCells (T.set i q3.cells) i 9 [.bool false] = T.set i q4.cells := by
          rw [setCells_of k3, List.set_set, e4]; rfl
        have k4 := set_here h q4.cells
        have t5 : setCells (T.set i q4.cells) i 10 [.int .i64 0] = T.set i q5.cells := by
          rw [setCells_of k4, List.set_set, e5]; rfl
        have e6 : ({ s.sync with a := s.b, b := ⟨0, 0, 0⟩, run := false, win := 0 } : VS) = q5 := by rw [e5, e4, e3, e2, e1]
        rw [if_pos h4, e6]
        have h4' := h4.symm
        simp [brK_eq, hrun, hr, h3, hwin, hw, t1, getK_of k1, ha, hb, hwd, h4', hq1w, t2, getK_of k2, t3, getK_of k3, t4, getK_of k4, t5]
      · have e6 : ({ s.sync with win := w } : VS) = q1 := e1.symm
        rw [if_neg h4, e6]
        simp [brK_eq, hrun, hr, h3, hwin, hw, t1, getK_of k1, ha, hb, hwd, h4, hq1w]
    · simp [brK_eq, hrun, hr, h3]
end Wf

/-
  Sectors without disks: how they start; when two are alike.
-/
namespace Wf
open Go Go.RowKit Go.Proofs
set_option linter.unusedSimpArgs false
set_option linter.unusedVariables false

def VS.new (n : Nat) (g : Geo) : VS := { es := [], fl := List.replicate n false, ou := List.replicate n false, a := g, b := ⟨0, 0, 0⟩, run := false, win := 0 }
theorem new_ok {n : Nat} {g : Geo} (hn : n ≤ 8) (hg : g.ok = true) (hd : g.d ≤ n) : (VS.new n g).Ok := by
  refine ⟨by simpa [VS.new] using hn, by simp [VS.new], hg, by simpa [VS.new] using hd, fun h => (by cases h), fun k x h => (by cases h)⟩
theorem v_new {T : Tb} {n : Int} {g : Geo} (h1 : 1 ≤ n) (h8 : n ≤ 8) (hg : g.ok = true) (hd : g.d ≤ n) :
    F_virtual_New [.int .i64 n, gD g.l g.d g.c] [T] = some (Ans.mk (.tup [.h 4160 T.length 0, iD 0]) [] [T ++ [(VS.new n.toNat g).cells]]) := by
  rw [F_virtual_New_eq]
  unfold g_virtual_New
  have hc : F_geom_Check [gD g.l g.d g.c] = some (iD 0) := by rw [check_geom]; rw [show validG g.l g.d g.c = true from hg]; rfl
  have e1 : ¬ n < 1 := by omega
  have e2 : ¬ 8 < n := by omega
  have e3 : ¬ n < g.d := by omega
  have e4 : 0 ≤ n := by omega
  have e5 : n ≤ 140737488355328 := by omega
  have e6 : flatEls (List.replicate n.toNat (D.bool false)) = true := by
    unfold flatEls; rw [List.all_eq_true]; intro d hd; rw [(List.mem_replicate.1 hd).2]; rfl
  have e7 : okElsW 1 (List.replicate n.toNat (D.bool false)) = true := by
    unfold okElsW; rw [List.all_eq_true]; intro d hd; rw [(List.mem_replicate.1 hd).2]; rfl
  simp [brK_eq, e1, e2, e3, hc, e4, e5, e6, e7]
  simp [VS.cells, VS.new, D.own0]

/-- A test's sector. -/
theorem sector_play (n : Int) : ∃ xs, Bytes xs ∧ F_wattleplay_Sector [.int .i64 n] = some (.sl .own xs) := by
  rw [F_wattleplay_Sector_eq]
  unfold g_wattleplay_Sector
  rw [within n 11 (by decide) (by decide)]
  simp only [bindK_some_eq, iD, asI_int]
  by_cases h : n % 11 = 10
  · refine ⟨List.replicate 32 (.int .u8 0), ⟨rfl, fun d hd => ⟨0, (List.mem_replicate.1 hd).2⟩⟩, ?_⟩
    simp [brK_eq, h]
  · have h' : (n % 11 == 10) = false := by simpa using h
    rw [h', brK_false]
    suffices hs : ∃ r, loopN _ _ = some r ∧ ∃ xs, Bytes xs ∧ r = D.sl .own xs by
      obtain ⟨r, h1, xs, h2, h3⟩ := hs
      subst h3
      exact ⟨xs, h2, h1⟩
    refine loopN_ex (α := (Int × List D × Int × Int × PUnit) × PUnit) (fun x => (32 : Int).toNat - x.1.2.2.2.1.toNat) _
      (fun x => ∃ (k : Nat) (xs : List D), k ≤ 32 ∧ Bytes xs ∧ x = ((n, xs, 32, (k : Int), PUnit.unit), PUnit.unit)) ?_ ⟨0, List.replicate 32 (.int .u8 0), Nat.zero_le _, ⟨rfl, fun d hd => ⟨0, (List.mem_replicate.1 hd).2⟩⟩, rfl⟩ (by simp)
    rintro again _ ⟨k, xs, hk, hx, rfl⟩ hag
    by_cases hlt : k < 32
    · obtain ⟨d, hd⟩ : ∃ d, xs[k]? = some d := ⟨_, List.getElem?_eq_getElem (by rw [hx.1]; exact hlt)⟩
      obtain ⟨q, rfl⟩ := hx.2 d (List.mem_of_getElem? hd)
      obtain ⟨v, hv⟩ : ∃ v, IntKind.u8.wrap (IntKind.i64.wrap (n + IntKind.i64.wrap ((k : Int) * bits .or .i64 (IntKind.i64.wrap (n.tdiv 7)) 1))) = v := ⟨_, rfl⟩
      have hw : IntKind.i64.wrap ((k : Int) + 1) = ((k + 1 : Nat) : Int) := by rw [wrap_fit (by omega) (by omega)]; rfl
      have hb : Bytes (xs.set k (.int .u8 v)) := ⟨by simp [hx.1], fun d hd => by
        rcases List.mem_or_eq_of_mem_set hd with h | h
        · exact hx.2 d h
        · exact ⟨_, h⟩⟩
      have hres := hag ((n, xs.set k (.int .u8 v), 32, ((k + 1 : Nat) : Int), PUnit.unit), PUnit.unit) ⟨k + 1, _, by omega, hb, rfl⟩ (by simp; omega)
      have hkl : k < xs.length := by rw [hx.1]; exact hlt
      have hki : (k : Int) < 32 := by omega
      simp [brK_eq, hki, hkl, getK_of hd, D.isAgg, hv, hw]
      simpa using hres
    · have hki : ¬ (k : Int) < 32 := by omega
      have hfr := free_bytes hx.2
      refine ⟨_, ?_, xs, hx, rfl⟩
      simp [-List.all_eq_true, brK_eq, hki, hfr]

theorem same_refl {xs : List D} (h : ∀ d ∈ xs, ∃ n, d = D.int .u8 n) (hl : xs.length < 1000) (t u : Tag) : F_wattlekeep_Same_byte [.sl t xs, .sl u xs] = some (.bool true) := by
  rw [F_wattlekeep_Same_byte_eq, lentL_bytes h]
  unfold g_wattlekeep_Same_byte
  simp only [bne_self_eq_false, brK_false]
  refine loopN_spec (α := (List D × List D × Int × PUnit) × PUnit) (fun x => (xs.length : Int).toNat - x.1.2.2.1.toNat) (fun _ => some (D.bool true))
    (fun x => ∃ k : Nat, k ≤ xs.length ∧ x = ((xs, xs, (k : Int), PUnit.unit), PUnit.unit)) ?_ ⟨0, Nat.zero_le _, rfl⟩ (by simp; omega)
  rintro again _ ⟨k, hk, rfl⟩ hag
  by_cases hlt : k < xs.length
  · obtain ⟨d, hd⟩ : ∃ d, xs[k]? = some d := ⟨_, List.getElem?_eq_getElem hlt⟩
    obtain ⟨q, rfl⟩ := h d (List.mem_of_getElem? hd)
    have hw : IntKind.i64.wrap ((k : Int) + 1) = ((k + 1 : Nat) : Int) := by rw [wrap_fit (by omega) (by omega)]; rfl
    have hres := hag ((xs, xs, ((k + 1 : Nat) : Int), PUnit.unit), PUnit.unit) ⟨k + 1, hlt, rfl⟩ (by simp; omega)
    simp [brK_eq, hlt, getK_of hd, hw]
    simpa using hres
  · have : k = xs.length := by omega
    subst this
    simp [brK_eq]
theorem copy_byte {xs : List D} (hx : Bytes xs) (tg : Tag) : F_wattlekeep_Copy_byte [.sl tg xs] = some (.sl .own xs) := by
  rw [F_wattlekeep_Copy_byte_eq, lentL_bytes hx.2]
  unfold g_wattlekeep_Copy_byte
  have hfr := free_bytes hx.2
  simp [-List.all_eq_true, hx.1, okEls_bytes hx.2, hfr]

theorem read_bytes {s : VS} (h : s.Ok) (n : Int) : (∀ d ∈ (s.read n).1, ∃ n, d = D.int .u8 n) ∧ (s.read n).1.length ≤ 32 := by
  have hb := sec_bytes h n
  unfold VS.read
  split
  · exact ⟨by simp, by simp⟩
  · split
    · exact ⟨by simp, by simp⟩
    · exact ⟨hb.2, by rw [hb.1]; exact Nat.le_refl _⟩

theorem wakes24 : F_wattlelaw24_wakes [] = some (.bool true) := by
  rw [F_wattlelaw24_wakes_eq]
  unfold g_wattlelaw24_wakes
  have hn := v_new (T := []) (n := 3) (g := ⟨5, 3, 1⟩) (by decide) (by decide) (by decide) (by decide)
  have hok : (VS.new 3 ⟨5, 3, 1⟩).Ok := new_ok (by decide) (by decide) (by decide)
  have hr := v_read (T := [(VS.new 3 ⟨5, 3, 1⟩).cells]) (i := 0) rfl hok 3
  have hc := v_cap (T := [(VS.new 3 ⟨5, 3, 1⟩).sync.cells]) (i := 0) rfl
  have e1 : (VS.new 3 ⟨5, 3, 1⟩).read 3 = (List.replicate 32 (.int .u8 0), 0) := rfl
  have e2 : (VS.new 3 ⟨5, 3, 1⟩).sync.a.cap = 32 := rfl
  have hs := same_refl (xs := List.replicate 32 (.int .u8 0)) (fun d hd => ⟨0, (List.mem_replicate.1 hd).2⟩) (by decide) .lent .lent
  rw [e1] at hr
  rw [e2] at hc
  simp [gD, hn, hr, hc, okData, brK_eq]
  simp at hs
  simp [D.nohL, hs]

-- when two are alike
theorem sync_mem (s : VS) : s.sync.mem = s.mem := rfl
theorem syncO_idem (m : Nat) (fl ou : List Bool) : syncO m fl (syncO m fl ou) = syncO m fl ou := by
  apply List.ext_getElem?
  intro j
  rw [syncO_get, syncO_get]
  cases ou[j]? with
  | none => rfl
  | some o => cases o <;> simp
theorem sync_idem (s : VS) : s.sync.sync = s.sync := by
  show ({ s.sync with ou := syncO s.sync.mem s.sync.fl s.sync.ou } : VS) = s.sync
  rw [sync_mem]
  show ({ s with ou := syncO s.mem s.fl (syncO s.mem s.fl s.ou) } : VS) = { s with ou := syncO s.mem s.fl s.ou }
  rw [syncO_idem]
theorem syncO_getD (m : Nat) (fl ou : List Bool) (j : Nat) (hj : j < ou.length) : (syncO m fl ou).getD j false = (ou.getD j false || (decide (j < m) && fl.getD j false)) := by
  simp [List.getD_eq_getElem?_getD, syncO_get, hj]
theorem lostN_sync (fl ou : List Bool) (m : Nat) : ∀ k, k ≤ m → k ≤ ou.length → lostN fl (syncO m fl ou) k = lostN fl ou k
  | 0, _, _ => rfl
  | k + 1, h, hl => by
    simp only [lostN]
    rw [lostN_sync fl ou m k (by omega) (by omega), syncO_getD _ _ _ _ (by omega)]
    have : decide (k < m) = true := by simp; omega
    rw [this]
    cases fl.getD k false <;> cases ou.getD k false <;> rfl
theorem lost_sync {s : VS} (h : s.Ok) : s.sync.lost = s.lost := lostN_sync s.fl s.ou s.mem s.mem (Nat.le_refl _) (by rw [h.len]; exact h.mem_le.1)
theorem err_sync {s : VS} (h : s.Ok) : s.sync.err = s.err := by unfold VS.err; rw [lost_sync h]; rfl

/-- Alike, but for disks that have failed and are not told out yet. -/
def Alike (p q : VS) : Prop := p.sync = q.sync
theorem Alike.fields {p q : VS} (h : Alike p q) : p.es = q.es ∧ p.fl = q.fl ∧ p.a = q.a ∧ p.b = q.b ∧ p.run = q.run ∧ p.win = q.win ∧ p.mem = q.mem := by
  have e : p.sync = q.sync := h
  have h1 : p.es = q.es := (congrArg VS.es e : p.sync.es = q.sync.es)
  have h2 : p.fl = q.fl := (congrArg VS.fl e : p.sync.fl = q.sync.fl)
  have h3 : p.a = q.a := (congrArg VS.a e : p.sync.a = q.sync.a)
  have h4 : p.b = q.b := (congrArg VS.b e : p.sync.b = q.sync.b)
  have h5 : p.run = q.run := (congrArg VS.run e : p.sync.run = q.sync.run)
  have h6 : p.win = q.win := (congrArg VS.win e : p.sync.win = q.sync.win)
  exact ⟨h1, h2, h3, h4, h5, h6, by unfold VS.mem; rw [h3, h4, h5]⟩
theorem Alike.lost {p q : VS} (h : Alike p q) (hp : p.Ok) (hq : q.Ok) : p.lost = q.lost := by rw [← lost_sync hp, ← lost_sync hq]; exact congrArg VS.lost h
theorem Alike.write {p q : VS} (h : Alike p q) (n : Int) (xs : List D) : p.write n xs = q.write n xs := by
  obtain ⟨h1, h2, h3, h4, h5, h6, h7⟩ := h.fields
  unfold VS.write
  rw [show p.sync = q.sync from h, h1, h3]
theorem Alike.read {p q : VS} (h : Alike p q) (n : Int) : p.read n = q.read n := by
  obtain ⟨h1, h2, h3, h4, h5, h6, h7⟩ := h.fields
  unfold VS.read VS.sec
  rw [show p.sync = q.sync from h, h1, h3]
theorem Alike.replace {p q : VS} (h : Alike p q) (n : Int) : p.replace n = q.replace n := by
  obtain ⟨h1, h2, h3, h4, h5, h6, h7⟩ := h.fields
  unfold VS.replace
  rw [show p.sync = q.sync from h, h2, h7]
theorem Alike.start {p q : VS} (h : Alike p q) (g : Geo) : p.start g = q.start g := by
  obtain ⟨h1, h2, h3, h4, h5, h6, h7⟩ := h.fields
  unfold VS.start
  rw [show p.sync = q.sync from h, h2, h3, h5]
theorem Alike.step {p q : VS} (h : Alike p q) : p.step = q.step := by
  obtain ⟨h1, h2, h3, h4, h5, h6, h7⟩ := h.fields
  unfold VS.step
  rw [show p.sync = q.sync from h, h3, h4, h5, h6]
theorem sync_fail (s : VS) (j : Nat) (hs : s.Ok) : ({ s.sync with fl := s.fl.set j true } : VS).sync = ({ s with fl := s.fl.set j true } : VS).sync := by
  show ({ s with fl := s.fl.set j true, ou := syncO s.mem (s.fl.set j true) (syncO s.mem s.fl s.ou) } : VS) = { s with fl := s.fl.set j true, ou := syncO s.mem (s.fl.set j true) s.ou }
  congr 1
  apply List.ext_getElem?
  intro k
  rw [syncO_get, syncO_get, syncO_get]
  cases s.ou[k]? with
  | none => rfl
  | some o =>
    simp only [Option.map_some]
    congr 1
    by_cases e : j = k
    · subst e
      by_cases hj : j < s.fl.length
      · have : (s.fl.set j true).getD j false = true := by rw [List.getD_eq_getElem?_getD, List.getElem?_set]; simp [hj]
        rw [this]
        cases o <;> cases decide (j < s.mem) <;> simp
      · rw [List.set_eq_of_length_le (by omega)]
        cases o <;> simp
    · have : (s.fl.set j true).getD k false = s.fl.getD k false := by rw [List.getD_eq_getElem?_getD, List.getElem?_set_ne e, ← List.getD_eq_getElem?_getD]
      rw [this]
      cases o <;> simp
theorem Alike.fail {p q : VS} (h : Alike p q) (hp : p.Ok) (hq : q.Ok) (d : Int) : (p.fail d).1 = (q.fail d).1 ∧ Alike (p.fail d).2 (q.fail d).2 := by
  obtain ⟨h1, h2, h3, h4, h5, h6, h7⟩ := h.fields
  unfold VS.fail
  rw [h2]
  split
  · exact ⟨rfl, h⟩
  · refine ⟨rfl, ?_⟩
    show VS.sync _ = VS.sync _
    have e1 := sync_fail p d.toNat hp
    have e2 := sync_fail q d.toNat hq
    rw [h2] at e1
    rw [← e1, ← e2, show p.sync = q.sync from h]

-- what goes on being in order
theorem findD_setD (k n : Int) (v : D) (es : List (Int × D)) : findD k (setD n v es) = if k = n then some v else findD k es := by
  induction es with
  | nil => simp [setD, findD]
  | cons p es ih =>
    obtain ⟨a, u⟩ := p
    simp only [setD]
    by_cases h : n = a
    · subst h
      simp only [if_true, findD]
      by_cases h2 : k = n <;> simp [h2]
    · rw [if_neg h]
      simp only [findD]
      by_cases h2 : k = a
      · subst h2
        rw [if_pos rfl, if_pos rfl, if_neg (Ne.symm h)]
      · rw [if_neg h2, if_neg h2, ih]
theorem write_ok {s : VS} (h : s.Ok) (n : Int) {xs : List D} (hx : Bytes xs) : (s.write n xs).2.Ok := by
  unfold VS.write
  have hs := sync_ok h
  split
  · exact hs
  · split
    · exact hs
    · split
      · exact hs
      · refine ⟨hs.n, hs.len, hs.a, hs.ad, hs.b, fun k x hk => ?_⟩
        have hk : findD k (setD n (.agg xs) s.es) = some x := hk
        rw [findD_setD] at hk
        split at hk
        · injection hk with hk; exact ⟨xs, hk.symm, hx⟩
        · exact h.es k x hk
theorem fail_ok {s : VS} (h : s.Ok) (d : Int) : (s.fail d).2.Ok := by
  unfold VS.fail
  split
  · exact h
  · exact ⟨by simpa using h.n, by simpa using h.len, h.a, by simpa using h.ad, by simpa using h.b, h.es⟩
theorem replace_ok {s : VS} (h : s.Ok) (d : Int) : (s.replace d).2.Ok := by
  unfold VS.replace
  have hs := sync_ok h
  split
  · exact hs
  · split
    · exact hs
    · dsimp only
      split
      · exact ⟨by simp only [List.length_set]; exact h.n, by simp only [List.length_set]; exact hs.len, h.a, by simp only [List.length_set]; exact h.ad, by simp only [List.length_set]; exact h.b, h.es⟩
      · exact ⟨by simp only [List.length_set]; exact h.n, by simp only [List.length_set]; exact hs.len, h.a, by simp only [List.length_set]; exact h.ad, by simp only [List.length_set]; exact h.b, h.es⟩
theorem start_ok {s : VS} (h : s.Ok) (g : Geo) : (s.start g).2.Ok := by
  unfold VS.start
  have hs := sync_ok h
  split
  · exact hs
  · split
    · exact hs
    · rename_i hc
      split
      · exact hs
      · simp only [not_or, Bool.not_eq_false, Int.not_lt] at hc
        exact ⟨hs.n, hs.len, hs.a, hs.ad, fun _ => ⟨hc.1, hc.2⟩, hs.es⟩
theorem step_ok {s : VS} (h : s.Ok) : s.step.2.Ok := by
  unfold VS.step
  have hs := sync_ok h
  split
  · exact hs
  · rename_i hr
    split
    · exact hs
    · simp only [Bool.not_eq_false] at hr
      obtain ⟨b1, b2⟩ := h.b hr
      split
      · exact ⟨hs.n, hs.len, (can_iff.1 b1).2.1, b2, fun h => (by cases h), hs.es⟩
      · exact ⟨hs.n, hs.len, hs.a, hs.ad, hs.b, hs.es⟩
end Wf

