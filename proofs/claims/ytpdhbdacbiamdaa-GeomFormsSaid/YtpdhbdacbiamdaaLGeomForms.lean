/-
  A law's function, read off.
-/
import Derived.Test.YtpdhbdacbiamdaaX
import Derived.Test.YtpdhbdacbiamdaaY
set_option linter.unusedVariables false
set_option linter.unusedSimpArgs false
set_option linter.unnecessarySimpa false
namespace Wf
open Go Go.RowKit Go.Proofs
def ann_wattlelaw07_GeomForms : Ann := [(0, [.dead, .dead, .dead, .dead, .dead, .dead, .dead, .dead, .dead, .dead, .dead, .dead, .dead, .dead, .dead, .dead, .dead, .dead, .dead, .dead, .dead, .dead, .dead, .dead, .dead, .val (.cell .sl), .val (.cell (.int .i64)), .val (.cell (.int .i64))]), (3, [.dead, .dead, .dead, .dead, .dead, .dead, .box true [(.int .i64), (.int .i64), (.int .i64)], .dead, .dead, .dead, .dead, .dead, .dead, .dead, .dead, .dead, .dead, .dead, .dead, .dead, .dead, .dead, .dead, .dead, .dead, .dead, .dead, .dead, .dead, .dead, .dead, .dead, .dead, .dead, .dead, .dead, .dead, .dead, .dead, .dead, .dead, .dead, .dead, .dead, .dead, .dead, .dead, .dead, .dead, .dead, .dead, .dead, .dead, .dead, .dead, .dead, .dead, .dead, .dead, .dead, .dead, .dead, .dead, .dead, .dead, .dead, .dead, .dead, .dead, .dead, .dead, .dead, .dead, .dead, .dead, .dead, .dead, .dead, .dead, .dead, .dead, .dead, .dead, .val (.cell .sl), .val (.cell (.int .i64)), .val (.cell (.int .i64))])]
noncomputable def F_wattlelaw07_GeomForms : List D → Option D := denP Try.prog (penv' [(ID.geom_Check, [0], F_geom_Check), (ID.geom_Budget, [0], F_geom_Budget), (ID.geom_Width, [0], F_geom_Width), (ID.geom_Capacity, [0], F_geom_Capacity), (ID.geom_Can, [0], F_geom_Can), (ID.wattlelaw07_wakes, [0], F_wattlelaw07_wakes)]) ann_wattlelaw07_GeomForms [0] ID.wattlelaw07_GeomForms
theorem sound_wattlelaw07_GeomForms : SoundP Try.prog ID.wattlelaw07_GeomForms [0] F_wattlelaw07_GeomForms := denP_sound (penv_ok [fact_geom_Check, fact_geom_Budget, fact_geom_Width, fact_geom_Capacity, fact_geom_Can, fact_wattlelaw07_wakes]) mixed ⟨Try.f3, by kernel_rfl, by kernel_rfl, by kernel_rfl⟩
noncomputable def fact_wattlelaw07_GeomForms : Fact Try.prog := ⟨ID.wattlelaw07_GeomForms, [0], F_wattlelaw07_GeomForms, sound_wattlelaw07_GeomForms⟩
noncomputable def g_wattlelaw07_GeomForms (F_geom_Check : List D → Option D) (F_geom_Budget : List D → Option D) (F_geom_Width : List D → Option D) (F_geom_Capacity : List D → Option D) (F_geom_Can : List D → Option D) (F_wattlelaw07_wakes : List D → Option D) (a0 : Int) : Option D :=
  letN (Int.tmod (IntKind.wrap IntKind.i64 ((0 : Int) - a0)) (100 : Int)) fun n1 =>
  loopN (α := ((Tag × List D) × Int × Int × PUnit) × PUnit) (fun again2 (((t3, l4), (i5, (i6, _))), _) =>
    brK (decide (i6 < i5))
      (sif ((0 : Int) ≤ i6) <|
      getK l4 (Int.toNat i6) fun d7 =>
      asAgg d7 fun cs8 =>
      getCells ([Lf.int IntKind.i64, Lf.int IntKind.i64, Lf.int IntKind.i64, Lf.int IntKind.i64, Lf.int IntKind.i64]) cs8 fun c9 =>
      bindK (F_geom_Check [D.agg [D.int IntKind.i64 c9.fst, D.int IntKind.i64 c9.snd.fst, D.int IntKind.i64 c9.snd.snd.fst]]) fun r10 =>
      asI IntKind.i64 r10 fun i11 =>
      brK ((i11 == (0 : Int)) != decide (c9.snd.snd.snd.fst > (0 : Int)))
        (some (D.bool false))
        (bindK (F_geom_Budget [D.agg [D.int IntKind.i64 c9.fst, D.int IntKind.i64 c9.snd.fst, D.int IntKind.i64 c9.snd.snd.fst]]) fun r12 =>
        asI IntKind.i64 r12 fun i13 =>
        brK (i13 != c9.snd.snd.snd.fst)
          (some (D.bool false))
          (bindK (F_geom_Width [D.agg [D.int IntKind.i64 c9.fst, D.int IntKind.i64 c9.snd.fst, D.int IntKind.i64 c9.snd.snd.fst]]) fun r14 =>
          asI IntKind.i64 r14 fun i15 =>
          brK (i15 != c9.snd.snd.snd.snd.fst)
            (some (D.bool false))
            (bindK (F_geom_Capacity [D.agg [D.int IntKind.i64 c9.fst, D.int IntKind.i64 c9.snd.fst, D.int IntKind.i64 c9.snd.snd.fst]]) fun r16 =>
            asI IntKind.i64 r16 fun i17 =>
            letN (IntKind.wrap IntKind.i64 ((16 : Int) * c9.snd.snd.snd.snd.fst)) fun n18 =>
            brK (i17 != n18)
              (some (D.bool false))
              (letN (IntKind.wrap IntKind.i64 (i6 + (1 : Int))) fun n19 =>
              again2 ((((t3, l4), i5, n19, PUnit.unit), PUnit.unit)))))))
      (loopN (α := ((Int × Int × Int × PUnit) × (Tag × List D) × Int × Int × PUnit) × PUnit) (fun again20 (((i21, (i22, (i23, _))), ((t24, l25), (i26, (i27, _)))), _) =>
        brK (decide (i27 < i26))
          (sif ((0 : Int) ≤ i27) <|
          getK l25 (Int.toNat i27) fun d28 =>
          asAgg d28 fun cs29 =>
          getCells ([Lf.int IntKind.i64, Lf.int IntKind.i64, Lf.int IntKind.i64, Lf.bool]) cs29 fun c30 =>
          bindK (F_geom_Can   [D.agg [D.int IntKind.i64 i21, D.int IntKind.i64 i22, D.int IntKind.i64 i23],     D.agg [D.int IntKind.i64 c30.fst, D.int IntKind.i64 c30.snd.fst, D.int IntKind.i64 c30.snd.snd.fst]]) fun r31 =>
          asB r31 fun b32 =>
          brK (b32 != c30.snd.snd.snd.fst)
            (some (D.bool false))
            (bindK (F_geom_Can   [D.agg [D.int IntKind.i64 (0 : Int), D.int IntKind.i64 (0 : Int), D.int IntKind.i64 (0 : Int)],     D.agg [D.int IntKind.i64 c30.fst, D.int IntKind.i64 c30.snd.fst, D.int IntKind.i64 c30.snd.snd.fst]]) fun r33 =>
            asB r33 fun b34 =>
            brK b34
              (some (D.bool false))
              (letN (IntKind.wrap IntKind.i64 (i27 + (1 : Int))) fun n35 =>
              again20 ((((i21, i22, i23, PUnit.unit), (t24, l25), i26, n35, PUnit.unit), PUnit.unit)))))
          (bindK (F_wattlelaw07_wakes []) fun r36 =>
          asB r36 fun b37 =>
          some (D.bool b37)))
        (((((5 : Int), (4 : Int), (2 : Int), PUnit.unit),     (Tag.full,       [D.agg [D.int IntKind.i64 (5 : Int), D.int IntKind.i64 (4 : Int), D.int IntKind.i64 (2 : Int), D.bool false],         D.agg [D.int IntKind.i64 (5 : Int), D.int IntKind.i64 (4 : Int), D.int IntKind.i64 (4 : Int), D.bool true],         D.agg [D.int IntKind.i64 (5 : Int), D.int IntKind.i64 (3 : Int), D.int IntKind.i64 (2 : Int), D.bool false],         D.agg [D.int IntKind.i64 (6 : Int), D.int IntKind.i64 (4 : Int), D.int IntKind.i64 (2 : Int), D.bool false],         D.agg [D.int IntKind.i64 (6 : Int), D.int IntKind.i64 (5 : Int), D.int IntKind.i64 (1 : Int), D.bool true],         D.agg [D.int IntKind.i64 (5 : Int), D.int IntKind.i64 (8 : Int), D.int IntKind.i64 (2 : Int), D.bool true],         D.agg [D.int IntKind.i64 (0 : Int), D.int IntKind.i64 (0 : Int), D.int IntKind.i64 (0 : Int), D.bool false]]),     ↑(7 : Nat), (0 : Int), PUnit.unit),   PUnit.unit))))
    ((((Tag.full,       [D.agg           [D.int IntKind.i64 (5 : Int), D.int IntKind.i64 (3 : Int), D.int IntKind.i64 (1 : Int),             D.int IntKind.i64 (1 : Int), D.int IntKind.i64 (2 : Int)],         D.agg           [D.int IntKind.i64 (5 : Int), D.int IntKind.i64 (8 : Int), D.int IntKind.i64 (4 : Int),             D.int IntKind.i64 (1 : Int), D.int IntKind.i64 (7 : Int)],         D.agg           [D.int IntKind.i64 (6 : Int), D.int IntKind.i64 (4 : Int), D.int IntKind.i64 (2 : Int),             D.int IntKind.i64 (2 : Int), D.int IntKind.i64 (2 : Int)],         D.agg           [D.int IntKind.i64 (6 : Int), D.int IntKind.i64 (8 : Int), D.int IntKind.i64 (1 : Int),             D.int IntKind.i64 (2 : Int), D.int IntKind.i64 (6 : Int)],         D.agg           [D.int IntKind.i64 (5 : Int), D.int IntKind.i64 (2 : Int), D.int IntKind.i64 (1 : Int),             D.int IntKind.i64 (0 : Int), D.int IntKind.i64 (0 : Int)],         D.agg           [D.int IntKind.i64 (6 : Int), D.int IntKind.i64 (3 : Int), D.int IntKind.i64 (1 : Int),             D.int IntKind.i64 (0 : Int), D.int IntKind.i64 (0 : Int)],         D.agg           [D.int IntKind.i64 (5 : Int), D.int IntKind.i64 (9 : Int), D.int IntKind.i64 (1 : Int),             D.int IntKind.i64 (0 : Int), D.int IntKind.i64 (0 : Int)],         D.agg           [D.int IntKind.i64 (5 : Int), D.int IntKind.i64 (4 : Int), D.int IntKind.i64 (3 : Int),             D.int IntKind.i64 (0 : Int), D.int IntKind.i64 (0 : Int)],         D.agg           [D.int IntKind.i64 (5 : Int), D.int IntKind.i64 (4 : Int), D.int IntKind.i64 (0 : Int),             D.int IntKind.i64 (0 : Int), D.int IntKind.i64 (0 : Int)],         D.agg           [D.int IntKind.i64 (4 : Int), D.int IntKind.i64 (4 : Int), D.int IntKind.i64 (1 : Int),             D.int IntKind.i64 (0 : Int), D.int IntKind.i64 (0 : Int)],         D.agg           [D.int IntKind.i64 (7 : Int), D.int IntKind.i64 (5 : Int), D.int IntKind.i64 (1 : Int),             D.int IntKind.i64 (0 : Int), D.int IntKind.i64 (0 : Int)],         D.agg           [D.int IntKind.i64 (5 : Int), D.int IntKind.i64 (4 : Int), D.int IntKind.i64 (8 : Int),             D.int IntKind.i64 (0 : Int), D.int IntKind.i64 (0 : Int)],         D.agg           [D.int IntKind.i64 (5 : Int), D.int IntKind.i64 n1, D.int IntKind.i64 (1048576 : Int),             D.int IntKind.i64 (0 : Int), D.int IntKind.i64 (0 : Int)]]),     ↑(13 : Nat), (0 : Int), PUnit.unit),   PUnit.unit))
theorem G_wattlelaw07_GeomForms (F_geom_Check : List D → Option D) (F_geom_Budget : List D → Option D) (F_geom_Width : List D → Option D) (F_geom_Capacity : List D → Option D) (F_geom_Can : List D → Option D) (F_wattlelaw07_wakes : List D → Option D) (a0 : Int) : denP Try.prog (penv' [(ID.geom_Check, [0], F_geom_Check), (ID.geom_Budget, [0], F_geom_Budget), (ID.geom_Width, [0], F_geom_Width), (ID.geom_Capacity, [0], F_geom_Capacity), (ID.geom_Can, [0], F_geom_Can), (ID.wattlelaw07_wakes, [0], F_wattlelaw07_wakes)]) ann_wattlelaw07_GeomForms [0] ID.wattlelaw07_GeomForms [.int .i64 a0] = g_wattlelaw07_GeomForms F_geom_Check F_geom_Budget F_geom_Width F_geom_Capacity F_geom_Can F_wattlelaw07_wakes a0 := by kernel_rfl
theorem F_wattlelaw07_GeomForms_eq (a0 : Int) : F_wattlelaw07_GeomForms [.int .i64 a0] = g_wattlelaw07_GeomForms F_geom_Check F_geom_Budget F_geom_Width F_geom_Capacity F_geom_Can F_wattlelaw07_wakes a0 := G_wattlelaw07_GeomForms F_geom_Check F_geom_Budget F_geom_Width F_geom_Capacity F_geom_Can F_wattlelaw07_wakes a0
end Wf

/-
  A few geometries by hand.
-/
namespace Wf
open Go Go.RowKit Go.Proofs
set_option linter.unusedSimpArgs false
set_option linter.unusedVariables false

def tabA (q : Int) : List D := [.agg [.int .i64 (5), .int .i64 (3), .int .i64 (1), .int .i64 (1), .int .i64 (2)], .agg [.int .i64 (5), .int .i64 (8), .int .i64 (4), .int .i64 (1), .int .i64 (7)], .agg [.int .i64 (6), .int .i64 (4), .int .i64 (2), .int .i64 (2), .int .i64 (2)], .agg [.int .i64 (6), .int .i64 (8), .int .i64 (1), .int .i64 (2), .int .i64 (6)], .agg [.int .i64 (5), .int .i64 (2), .int .i64 (1), .int .i64 (0), .int .i64 (0)], .agg [.int .i64 (6), .int .i64 (3), .int .i64 (1), .int .i64 (0), .int .i64 (0)], .agg [.int .i64 (5), .int .i64 (9), .int .i64 (1), .int .i64 (0), .int .i64 (0)], .agg [.int .i64 (5), .int .i64 (4), .int .i64 (3), .int .i64 (0), .int .i64 (0)], .agg [.int .i64 (5), .int .i64 (4), .int .i64 (0), .int .i64 (0), .int .i64 (0)], .agg [.int .i64 (4), .int .i64 (4), .int .i64 (1), .int .i64 (0), .int .i64 (0)], .agg [.int .i64 (7), .int .i64 (5), .int .i64 (1), .int .i64 (0), .int .i64 (0)], .agg [.int .i64 (5), .int .i64 (4), .int .i64 (8), .int .i64 (0), .int .i64 (0)], .agg [.int .i64 (5), .int .i64 q, .int .i64 (1048576), .int .i64 (0), .int .i64 (0)]]
def tabB : List D := [.agg [.int .i64 (5), .int .i64 (4), .int .i64 (2), .bool false], .agg [.int .i64 (5), .int .i64 (4), .int .i64 (4), .bool true], .agg [.int .i64 (5), .int .i64 (3), .int .i64 (2), .bool false], .agg [.int .i64 (6), .int .i64 (4), .int .i64 (2), .bool false], .agg [.int .i64 (6), .int .i64 (5), .int .i64 (1), .bool true], .agg [.int .i64 (5), .int .i64 (8), .int .i64 (2), .bool true], .agg [.int .i64 (0), .int .i64 (0), .int .i64 (0), .bool false]]

set_option maxRecDepth 100000 in
set_option maxHeartbeats 2000000 in
theorem geomForms (n : Int) : F_wattlelaw07_GeomForms [.int .i64 n] = some (D.bool true) := by
  rw [F_wattlelaw07_GeomForms_eq]
  unfold g_wattlelaw07_GeomForms
  simp only [letN_eq]
  obtain ⟨q, hq⟩ : ∃ q, Int.tmod (IntKind.wrap IntKind.i64 (0 - n)) 100 = q := ⟨_, rfl⟩
  rw [hq]
  have hv : validG 5 q 1048576 = false := by rw [invalid_iff]; omega
  refine loopN_spec (fun a => (13 - a.1.2.2.1).toNat) (fun _ => some (D.bool true)) (fun a => ∃ i : Int, 0 ≤ i ∧ i ≤ 13 ∧ a = (((Tag.full, tabA q), 13, i, PUnit.unit), PUnit.unit)) ?_ ⟨0, by omega, by omega, rfl⟩ ?_
  rotate_left
  · simp
  rintro again _ ⟨i, h0, h1, rfl⟩ ih
  dsimp only
  by_cases hi : i < 13
  · have hn : ∀ k : Int, 0 ≤ k → k ≤ 12 → k = i → again (((Tag.full, tabA q), 13, k + 1, PUnit.unit), PUnit.unit) = some (D.bool true) := fun k k0 k1 e => ih _ ⟨k + 1, by omega, by omega, rfl⟩ (by dsimp only; omega)
    have hc : i = 0 ∨ i = 1 ∨ i = 2 ∨ i = 3 ∨ i = 4 ∨ i = 5 ∨ i = 6 ∨ i = 7 ∨ i = 8 ∨ i = 9 ∨ i = 10 ∨ i = 11 ∨ i = 12 := by omega
    rcases hc with rfl | rfl | rfl | rfl | rfl | rfl | rfl | rfl | rfl | rfl | rfl | rfl | rfl
    · have := hn 0 (by omega) (by omega) rfl
      simpa [tabA, getK, brK_eq, check_geom, budget_geom, width_geom, capacity_geom, budgetG, widthG, capG, show validG 5 3 1 = true from rfl, wrap_fit] using this
    · have := hn 1 (by omega) (by omega) rfl
      simpa [tabA, getK, brK_eq, check_geom, budget_geom, width_geom, capacity_geom, budgetG, widthG, capG, show validG 5 8 4 = true from rfl, wrap_fit] using this
    · have := hn 2 (by omega) (by omega) rfl
      simpa [tabA, getK, brK_eq, check_geom, budget_geom, width_geom, capacity_geom, budgetG, widthG, capG, show validG 6 4 2 = true from rfl, wrap_fit] using this
    · have := hn 3 (by omega) (by omega) rfl
      simpa [tabA, getK, brK_eq, check_geom, budget_geom, width_geom, capacity_geom, budgetG, widthG, capG, show validG 6 8 1 = true from rfl, wrap_fit] using this
    · have := hn 4 (by omega) (by omega) rfl
      simpa [tabA, getK, brK_eq, check_geom, budget_geom, width_geom, capacity_geom, budgetG, widthG, capG, show validG 5 2 1 = false from rfl, wrap_fit] using this
    · have := hn 5 (by omega) (by omega) rfl
      simpa [tabA, getK, brK_eq, check_geom, budget_geom, width_geom, capacity_geom, budgetG, widthG, capG, show validG 6 3 1 = false from rfl, wrap_fit] using this
    · have := hn 6 (by omega) (by omega) rfl
      simpa [tabA, getK, brK_eq, check_geom, budget_geom, width_geom, capacity_geom, budgetG, widthG, capG, show validG 5 9 1 = false from rfl, wrap_fit] using this
    · have := hn 7 (by omega) (by omega) rfl
      simpa [tabA, getK, brK_eq, check_geom, budget_geom, width_geom, capacity_geom, budgetG, widthG, capG, show validG 5 4 3 = false from rfl, wrap_fit] using this
    · have := hn 8 (by omega) (by omega) rfl
      simpa [tabA, getK, brK_eq, check_geom, budget_geom, width_geom, capacity_geom, budgetG, widthG, capG, show validG 5 4 0 = false from rfl, wrap_fit] using this
    · have := hn 9 (by omega) (by omega) rfl
      simpa [tabA, getK, brK_eq, check_geom, budget_geom, width_geom, capacity_geom, budgetG, widthG, capG, show validG 4 4 1 = false from rfl, wrap_fit] using this
    · have := hn 10 (by omega) (by omega) rfl
      simpa [tabA, getK, brK_eq, check_geom, budget_geom, width_geom, capacity_geom, budgetG, widthG, capG, show validG 7 5 1 = false from rfl, wrap_fit] using this
    · have := hn 11 (by omega) (by omega) rfl
      simpa [tabA, getK, brK_eq, check_geom, budget_geom, width_geom, capacity_geom, budgetG, widthG, capG, show validG 5 4 8 = false from rfl, wrap_fit] using this
    · have := hn 12 (by omega) (by omega) rfl
      simpa [tabA, getK, brK_eq, check_geom, budget_geom, width_geom, capacity_geom, budgetG, widthG, capG, hv, wrap_fit] using this
  · have : i = 13 := by omega
    subst this
    simp only [show decide ((13 : Int) < 13) = false from rfl, brK_false]
    refine loopN_spec (fun a => (7 - a.1.2.2.2.1).toNat) (fun _ => some (D.bool true)) (fun a => ∃ i : Int, 0 ≤ i ∧ i ≤ 7 ∧ a = (((5, 4, 2, PUnit.unit), (Tag.full, tabB), 7, i, PUnit.unit), PUnit.unit)) ?_ ⟨0, by omega, by omega, rfl⟩ ?_
    rotate_left
    · simp
    rintro again _ ⟨i, h0, h1, rfl⟩ ih
    dsimp only
    by_cases hi : i < 7
    · have hn : ∀ k : Int, 0 ≤ k → k ≤ 6 → k = i → again (((5, 4, 2, PUnit.unit), (Tag.full, tabB), 7, k + 1, PUnit.unit), PUnit.unit) = some (D.bool true) := fun k k0 k1 e => ih _ ⟨k + 1, by omega, by omega, rfl⟩ (by dsimp only; omega)
      have hc : i = 0 ∨ i = 1 ∨ i = 2 ∨ i = 3 ∨ i = 4 ∨ i = 5 ∨ i = 6 := by omega
      rcases hc with rfl | rfl | rfl | rfl | rfl | rfl | rfl
      · have := hn 0 (by omega) (by omega) rfl
        simpa [tabB, getK, brK_eq, can_geom, show canG 5 4 2 5 4 2 = false from rfl, show canG 0 0 0 5 4 2 = false from rfl, wrap_fit] using this
      · have := hn 1 (by omega) (by omega) rfl
        simpa [tabB, getK, brK_eq, can_geom, show canG 5 4 2 5 4 4 = true from rfl, show canG 0 0 0 5 4 4 = false from rfl, wrap_fit] using this
      · have := hn 2 (by omega) (by omega) rfl
        simpa [tabB, getK, brK_eq, can_geom, show canG 5 4 2 5 3 2 = false from rfl, show canG 0 0 0 5 3 2 = false from rfl, wrap_fit] using this
      · have := hn 3 (by omega) (by omega) rfl
        simpa [tabB, getK, brK_eq, can_geom, show canG 5 4 2 6 4 2 = false from rfl, show canG 0 0 0 6 4 2 = false from rfl, wrap_fit] using this
      · have := hn 4 (by omega) (by omega) rfl
        simpa [tabB, getK, brK_eq, can_geom, show canG 5 4 2 6 5 1 = true from rfl, show canG 0 0 0 6 5 1 = false from rfl, wrap_fit] using this
      · have := hn 5 (by omega) (by omega) rfl
        simpa [tabB, getK, brK_eq, can_geom, show canG 5 4 2 5 8 2 = true from rfl, show canG 0 0 0 5 8 2 = false from rfl, wrap_fit] using this
      · have := hn 6 (by omega) (by omega) rfl
        simpa [tabB, getK, brK_eq, can_geom, show canG 5 4 2 0 0 0 = false from rfl, show canG 0 0 0 0 0 0 = false from rfl, wrap_fit] using this
    · have : i = 7 := by omega
      subst this
      simp [wakes07, brK_eq]
end Wf

