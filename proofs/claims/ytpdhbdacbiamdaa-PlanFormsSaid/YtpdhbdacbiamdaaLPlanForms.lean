/-
  A law's function, read off.
-/
import Derived.Test.YtpdhbdacbiamdaaX
import Derived.Test.YtpdhbdacbiamdaaY3
set_option linter.unusedVariables false
set_option linter.unusedSimpArgs false
set_option linter.unnecessarySimpa false
namespace Wf
open Go Go.RowKit Go.Proofs
def ann_wattlelaw18_PlanForms : Ann := [(1, [.val (.cell (.int .i64)), .dead, .dead, .box true [(.int .i64), (.int .i64), (.int .i64)], .box true [(.int .i64), (.int .i64), (.int .i64)], .dead, .dead, .dead, .dead, .dead, .dead, .dead, .dead, .dead, .dead, .dead, .dead, .dead, .dead, .dead, .dead, .dead, .dead, .dead, .dead, .dead, .dead, .dead, .dead, .dead, .dead, .dead, .dead, .dead, .dead, .dead, .dead, .dead, .dead, .dead, .dead, .dead, .dead, .dead, .dead, .dead, .dead, .dead, .dead, .dead, .dead, .dead, .dead, .dead, .dead, .dead, .dead, .val (.cell .sl), .val (.cell (.int .i64)), .val (.cell (.int .i64))]), (4, [.val (.cell (.int .i64)), .dead, .dead, .box true [(.int .i64), (.int .i64), (.int .i64)], .box true [(.int .i64), (.int .i64), (.int .i64)], .dead, .dead, .dead, .dead, .dead, .dead, .dead, .dead, .dead, .dead, .dead, .dead, .dead, .dead, .dead, .dead, .dead, .dead, .dead, .dead, .dead, .dead, .dead, .dead, .dead, .dead, .dead, .dead, .dead, .dead, .dead, .dead, .dead, .dead, .dead, .dead, .dead, .dead, .dead, .dead, .dead, .dead, .dead, .dead, .dead, .dead, .dead, .dead, .dead, .dead, .dead, .dead, .dead, .dead, .dead, .dead, .dead, .dead, .dead, .dead, .dead, .dead, .dead, .dead, .dead, .dead, .dead, .dead, .dead, .dead, .dead, .dead, .dead, .dead, .dead, .dead, .dead, .val (.cell .sl), .val (.cell (.int .i64)), .val (.cell (.int .i64))])]
noncomputable def F_wattlelaw18_PlanForms : List D → Option D := denP Try.prog (penv' [(ID.plan_Rows, [0], F_plan_Rows), (ID.plan_Windows, [0], F_plan_Windows), (ID.plan_Span, [0, 0], F_plan_Span), (ID.plan_Cursor, [0], F_plan_Cursor), (ID.wattlelaw18_wakes, [0], F_wattlelaw18_wakes)]) ann_wattlelaw18_PlanForms [0] ID.wattlelaw18_PlanForms
theorem sound_wattlelaw18_PlanForms : SoundP Try.prog ID.wattlelaw18_PlanForms [0] F_wattlelaw18_PlanForms := denP_sound (penv_ok [fact_plan_Rows, fact_plan_Windows, fact_plan_Span, fact_plan_Cursor, fact_wattlelaw18_wakes]) mixed ⟨Try.f8, by kernel_rfl, by kernel_rfl, by kernel_rfl⟩
noncomputable def fact_wattlelaw18_PlanForms : Fact Try.prog := ⟨ID.wattlelaw18_PlanForms, [0], F_wattlelaw18_PlanForms, sound_wattlelaw18_PlanForms⟩
noncomputable def g_wattlelaw18_PlanForms (F_plan_Rows : List D → Option D) (F_plan_Windows : List D → Option D) (F_plan_Span : List D → Option D) (F_plan_Cursor : List D → Option D) (F_wattlelaw18_wakes : List D → Option D) (a0 : Int) : Option D :=
  bindK (F_plan_Rows   [D.agg [D.int IntKind.i64 (5 : Int), D.int IntKind.i64 (3 : Int), D.int IntKind.i64 (1 : Int)],     D.agg [D.int IntKind.i64 (6 : Int), D.int IntKind.i64 (5 : Int), D.int IntKind.i64 (4 : Int)]]) fun r1 =>
  asI IntKind.i64 r1 fun i2 =>
  brK (i2 != (4 : Int))
    (some (D.bool false))
    (bindK (F_plan_Windows   [D.agg [D.int IntKind.i64 (5 : Int), D.int IntKind.i64 (3 : Int), D.int IntKind.i64 (1 : Int)],     D.agg [D.int IntKind.i64 (6 : Int), D.int IntKind.i64 (5 : Int), D.int IntKind.i64 (4 : Int)]]) fun r3 =>
    asI IntKind.i64 r3 fun i4 =>
    brK (i4 != (4 : Int))
      (some (D.bool false))
      (bindK (F_plan_Rows   [D.agg [D.int IntKind.i64 (5 : Int), D.int IntKind.i64 (3 : Int), D.int IntKind.i64 (1 : Int)],     D.agg [D.int IntKind.i64 (5 : Int), D.int IntKind.i64 (3 : Int), D.int IntKind.i64 (2 : Int)]]) fun r5 =>
      asI IntKind.i64 r5 fun i6 =>
      brK (i6 != (2 : Int))
        (some (D.bool false))
        (bindK (F_plan_Windows   [D.agg [D.int IntKind.i64 (5 : Int), D.int IntKind.i64 (3 : Int), D.int IntKind.i64 (2 : Int)],     D.agg [D.int IntKind.i64 (6 : Int), D.int IntKind.i64 (5 : Int), D.int IntKind.i64 (4 : Int)]]) fun r7 =>
        asI IntKind.i64 r7 fun i8 =>
        brK (i8 != (4 : Int))
          (some (D.bool false))
          (bindK (F_plan_Rows   [D.agg [D.int IntKind.i64 (5 : Int), D.int IntKind.i64 (3 : Int), D.int IntKind.i64 (1 : Int)],     D.agg [D.int IntKind.i64 (5 : Int), D.int IntKind.i64 (3 : Int), D.int IntKind.i64 (1 : Int)]]) fun r9 =>
          asI IntKind.i64 r9 fun i10 =>
          brK (i10 != (0 : Int))
            (some (D.bool false))
            (bindK (F_plan_Windows   [D.agg [D.int IntKind.i64 (6 : Int), D.int IntKind.i64 (5 : Int), D.int IntKind.i64 (4 : Int)],     D.agg [D.int IntKind.i64 (5 : Int), D.int IntKind.i64 (3 : Int), D.int IntKind.i64 (1 : Int)]]) fun r11 =>
            asI IntKind.i64 r11 fun i12 =>
            brK (i12 != (0 : Int))
              (some (D.bool false))
              (loopN (α := (Int × (Int × Int × Int × PUnit) × (Int × Int × Int × PUnit) × (Tag × List D) × Int × Int × PUnit) × PUnit) (fun again13 ((i14, ((i15, (i16, (i17, _))), ((i18, (i19, (i20, _))), ((t21, l22), (i23, (i24, _)))))), _) =>
                brK (decide (i24 < i23))
                  (sif ((0 : Int) ≤ i24) <|
                  getK l22 (Int.toNat i24) fun d25 =>
                  asAgg d25 fun cs26 =>
                  sif (List.length cs26 = (2 : Nat)) <|
                  sif (D.width (D.agg cs26) = (2 : Nat)) <|
                  sif (List.length cs26 = (2 : Nat)) <|
                  sif (D.width (D.agg cs26) = (2 : Nat)) <|
                  sif (List.length cs26 = (2 : Nat)) <|
                  bindK (F_plan_Span   [D.agg [D.int IntKind.i64 i15, D.int IntKind.i64 i16, D.int IntKind.i64 i17],     D.agg [D.int IntKind.i64 i18, D.int IntKind.i64 i19, D.int IntKind.i64 i20], D.int IntKind.i64 i24]) fun r27 =>
                  asTup r27 fun ts28 =>
                  getCells ([Lf.any, Lf.any]) ts28 fun c29 =>
                  asI IntKind.i64 c29.fst fun i30 =>
                  asI IntKind.i64 c29.snd.fst fun i31 =>
                  getK ([] ++ cs26 ++ []) ((0 : Nat)) fun d32 =>
                  asI IntKind.i64 d32 fun i33 =>
                  brK (i30 != i33)
                    (some (D.bool false))
                    (getK ([] ++ cs26 ++ []) ((1 : Nat)) fun d34 =>
                    asI IntKind.i64 d34 fun i35 =>
                    brK (i31 != i35)
                      (some (D.bool false))
                      (letN (IntKind.wrap IntKind.i64 (i24 + (1 : Int))) fun n36 =>
                      again13 (((i14, (i15, i16, i17, PUnit.unit), (i18, i19, i20, PUnit.unit), (t21, l22), i23, n36, PUnit.unit), PUnit.unit)))))
                  (loopN (α := (Int × (Int × Int × Int × PUnit) × (Int × Int × Int × PUnit) × (Tag × List D) × Int × Int × PUnit) × PUnit) (fun again37 ((i38, ((i39, (i40, (i41, _))), ((i42, (i43, (i44, _))), ((t45, l46), (i47, (i48, _)))))), _) =>
                    brK (decide (i48 < i47))
                      (sif ((0 : Int) ≤ i48) <|
                      getK l46 (Int.toNat i48) fun d49 =>
                      asI IntKind.i64 d49 fun i50 =>
                      bindK (F_plan_Cursor   [D.agg [D.int IntKind.i64 i39, D.int IntKind.i64 i40, D.int IntKind.i64 i41],     D.agg [D.int IntKind.i64 i42, D.int IntKind.i64 i43, D.int IntKind.i64 i44], D.int IntKind.i64 i48]) fun r51 =>
                      asI IntKind.i64 r51 fun i52 =>
                      brK (i52 != i50)
                        (some (D.bool false))
                        (letN (IntKind.wrap IntKind.i64 (i48 + (1 : Int))) fun n53 =>
                        again37 (((i38, (i39, i40, i41, PUnit.unit), (i42, i43, i44, PUnit.unit), (t45, l46), i47, n53, PUnit.unit), PUnit.unit))))
                      (bindK (F_plan_Span   [D.agg [D.int IntKind.i64 i39, D.int IntKind.i64 i40, D.int IntKind.i64 i41],     D.agg [D.int IntKind.i64 i42, D.int IntKind.i64 i43, D.int IntKind.i64 i44], D.int IntKind.i64 (4 : Int)]) fun r54 =>
                      asTup r54 fun ts55 =>
                      getCells ([Lf.any, Lf.any]) ts55 fun c56 =>
                      asI IntKind.i64 c56.fst fun i57 =>
                      asI IntKind.i64 c56.snd.fst fun i58 =>
                      letN (bits BinOp.and IntKind.i64 i38 (1023 : Int)) fun n59 =>
                      letN (IntKind.wrap IntKind.i64 ((-1 : Int) - n59)) fun n60 =>
                      bindK (F_plan_Span   [D.agg [D.int IntKind.i64 i39, D.int IntKind.i64 i40, D.int IntKind.i64 i41],     D.agg [D.int IntKind.i64 i42, D.int IntKind.i64 i43, D.int IntKind.i64 i44], D.int IntKind.i64 n60]) fun r61 =>
                      asTup r61 fun ts62 =>
                      getCells ([Lf.any, Lf.any]) ts62 fun c63 =>
                      asI IntKind.i64 c63.fst fun i64 =>
                      asI IntKind.i64 c63.snd.fst fun i65 =>
                      brK (i57 == (0 : Int))
                        (brK (i58 == (0 : Int))
                          (brK (i64 == (0 : Int))
                            (brK (i65 == (0 : Int))
                              (bindK (F_plan_Cursor   [D.agg [D.int IntKind.i64 i39, D.int IntKind.i64 i40, D.int IntKind.i64 i41],     D.agg [D.int IntKind.i64 i42, D.int IntKind.i64 i43, D.int IntKind.i64 i44], D.int IntKind.i64 (-1 : Int)]) fun r66 =>
                              asI IntKind.i64 r66 fun i67 =>
                              brK (i67 == (0 : Int))
                                (bindK (F_plan_Cursor   [D.agg [D.int IntKind.i64 i42, D.int IntKind.i64 i43, D.int IntKind.i64 i44],     D.agg [D.int IntKind.i64 i39, D.int IntKind.i64 i40, D.int IntKind.i64 i41], D.int IntKind.i64 (1 : Int)]) fun r68 =>
                                asI IntKind.i64 r68 fun i69 =>
                                brK (i69 == (0 : Int))
                                  (bindK (F_wattlelaw18_wakes []) fun r70 =>
                                  asB r70 fun b71 =>
                                  some (D.bool b71))
                                  (some (D.bool false)))
                                (some (D.bool false)))
                              (some (D.bool false)))
                            (some (D.bool false)))
                          (some (D.bool false)))
                        (some (D.bool false))))
                    (((i14, (i15, i16, i17, PUnit.unit), (i18, i19, i20, PUnit.unit),     (Tag.full,       [D.int IntKind.i64 (0 : Int), D.int IntKind.i64 (12 : Int), D.int IntKind.i64 (24 : Int),         D.int IntKind.i64 (32 : Int), D.int IntKind.i64 (32 : Int), D.int IntKind.i64 (0 : Int)]),     (6 : Int), (0 : Int), PUnit.unit),   PUnit.unit))))
                (((a0, ((5 : Int), (3 : Int), (1 : Int), PUnit.unit), ((6 : Int), (5 : Int), (4 : Int), PUnit.unit),     (Tag.full,       [D.agg [D.int IntKind.i64 (0 : Int), D.int IntKind.i64 (12 : Int)],         D.agg [D.int IntKind.i64 (12 : Int), D.int IntKind.i64 (24 : Int)],         D.agg [D.int IntKind.i64 (24 : Int), D.int IntKind.i64 (36 : Int)],         D.agg [D.int IntKind.i64 (36 : Int), D.int IntKind.i64 (48 : Int)]]),     ↑(4 : Nat), (0 : Int), PUnit.unit),   PUnit.unit))))))))
theorem G_wattlelaw18_PlanForms (F_plan_Rows : List D → Option D) (F_plan_Windows : List D → Option D) (F_plan_Span : List D → Option D) (F_plan_Cursor : List D → Option D) (F_wattlelaw18_wakes : List D → Option D) (a0 : Int) : denP Try.prog (penv' [(ID.plan_Rows, [0], F_plan_Rows), (ID.plan_Windows, [0], F_plan_Windows), (ID.plan_Span, [0, 0], F_plan_Span), (ID.plan_Cursor, [0], F_plan_Cursor), (ID.wattlelaw18_wakes, [0], F_wattlelaw18_wakes)]) ann_wattlelaw18_PlanForms [0] ID.wattlelaw18_PlanForms [.int .i64 a0] = g_wattlelaw18_PlanForms F_plan_Rows F_plan_Windows F_plan_Span F_plan_Cursor F_wattlelaw18_wakes a0 := by kernel_rfl
theorem F_wattlelaw18_PlanForms_eq (a0 : Int) : F_wattlelaw18_PlanForms [.int .i64 a0] = g_wattlelaw18_PlanForms F_plan_Rows F_plan_Windows F_plan_Span F_plan_Cursor F_wattlelaw18_wakes a0 := G_wattlelaw18_PlanForms F_plan_Rows F_plan_Windows F_plan_Span F_plan_Cursor F_wattlelaw18_wakes a0
end Wf

/-
  A few pairs of geometries by hand.
-/
namespace Wf
open Go Go.RowKit Go.Proofs
set_option linter.unusedSimpArgs false
set_option linter.unusedVariables false

def tabC : List D := [.agg [.int .i64 0, .int .i64 12], .agg [.int .i64 12, .int .i64 24], .agg [.int .i64 24, .int .i64 36], .agg [.int .i64 36, .int .i64 48]]
def tabE : List D := [.int .i64 0, .int .i64 12, .int .i64 24, .int .i64 32, .int .i64 32, .int .i64 0]

theorem and_1023 (n : Int) : 0 ≤ bits .and .i64 n 1023 ∧ bits .and .i64 n 1023 ≤ 1023 := by
  have e : bits .and .i64 n 1023 = IntKind.i64.wrap (((BitVec.ofInt 64 n &&& BitVec.ofInt 64 1023).toNat : Nat) : Int) := rfl
  have h : (BitVec.ofInt 64 n &&& BitVec.ofInt 64 1023).toNat ≤ 1023 := by
    rw [BitVec.toNat_and]
    exact Nat.le_trans Nat.and_le_right (by decide)
  rw [e, wrap_fit (by omega) (by omega)]
  omega

set_option maxRecDepth 100000 in
set_option maxHeartbeats 2000000 in
theorem planForms (n : Int) : F_wattlelaw18_PlanForms [.int .i64 n] = some (.bool true) := by
  rw [F_wattlelaw18_PlanForms_eq]
  unfold g_wattlelaw18_PlanForms
  have r1 : rowsP ⟨5, 3, 1⟩ ⟨6, 5, 4⟩ = 4 := rfl
  have r2 : winP ⟨5, 3, 1⟩ ⟨6, 5, 4⟩ = 4 := rfl
  have r3 : rowsP ⟨5, 3, 1⟩ ⟨5, 3, 2⟩ = 2 := rfl
  have r4 : winP ⟨5, 3, 2⟩ ⟨6, 5, 4⟩ = 4 := rfl
  have r5 : rowsP ⟨5, 3, 1⟩ ⟨5, 3, 1⟩ = 0 := rfl
  have r6 : winP ⟨6, 5, 4⟩ ⟨5, 3, 1⟩ = 0 := rfl
  simp only [bindK_some_eq, plan_rows', plan_windows', iD, asI_int, r1, r2, r3, r4, r5, r6, bne_self_eq_false, brK_false]
  refine loopN_spec (fun a => (4 - a.1.2.2.2.2.2.1).toNat) (fun _ => some (D.bool true)) (fun a => ∃ i : Int, 0 ≤ i ∧ i ≤ 4 ∧ a = ((n, (5, 3, 1, PUnit.unit), (6, 5, 4, PUnit.unit), (Tag.full, tabC), 4, i, PUnit.unit), PUnit.unit)) ?_ ⟨0, by omega, by omega, rfl⟩ ?_
  rotate_left
  · simp
  rintro again _ ⟨i, h0, h1, rfl⟩ ih
  dsimp only
  by_cases hi : i < 4
  · have hn : ∀ k : Int, 0 ≤ k → k ≤ 3 → k = i → again ((n, (5, 3, 1, PUnit.unit), (6, 5, 4, PUnit.unit), (Tag.full, tabC), 4, k + 1, PUnit.unit), PUnit.unit) = some (D.bool true) := fun k k0 k1 e => ih _ ⟨k + 1, by omega, by omega, rfl⟩ (by dsimp only; omega)
    have hc : i = 0 ∨ i = 1 ∨ i = 2 ∨ i = 3 := by omega
    rcases hc with rfl | rfl | rfl | rfl
    · have := hn 0 (by omega) (by omega) rfl
      simpa [tabC, getK, D.width, plan_span', show spanP ⟨5, 3, 1⟩ ⟨6, 5, 4⟩ 0 = (0, 12) from rfl, wrap_fit] using this
    · have := hn 1 (by omega) (by omega) rfl
      simpa [tabC, getK, D.width, plan_span', show spanP ⟨5, 3, 1⟩ ⟨6, 5, 4⟩ 1 = (12, 24) from rfl, wrap_fit] using this
    · have := hn 2 (by omega) (by omega) rfl
      simpa [tabC, getK, D.width, plan_span', show spanP ⟨5, 3, 1⟩ ⟨6, 5, 4⟩ 2 = (24, 36) from rfl, wrap_fit] using this
    · have := hn 3 (by omega) (by omega) rfl
      simpa [tabC, getK, D.width, plan_span', show spanP ⟨5, 3, 1⟩ ⟨6, 5, 4⟩ 3 = (36, 48) from rfl, wrap_fit] using this
  · have : i = 4 := by omega
    subst this
    simp only [show decide ((4 : Int) < 4) = false from rfl, brK_false]
    refine loopN_spec (fun a => (6 - a.1.2.2.2.2.2.1).toNat) (fun _ => some (D.bool true)) (fun a => ∃ i : Int, 0 ≤ i ∧ i ≤ 6 ∧ a = ((n, (5, 3, 1, PUnit.unit), (6, 5, 4, PUnit.unit), (Tag.full, tabE), 6, i, PUnit.unit), PUnit.unit)) ?_ ⟨0, by omega, by omega, rfl⟩ ?_
    rotate_left
    · simp
    rintro again _ ⟨i, h0, h1, rfl⟩ ih
    dsimp only
    by_cases hi : i < 6
    · have hn : ∀ k : Int, 0 ≤ k → k ≤ 5 → k = i → again ((n, (5, 3, 1, PUnit.unit), (6, 5, 4, PUnit.unit), (Tag.full, tabE), 6, k + 1, PUnit.unit), PUnit.unit) = some (D.bool true) := fun k k0 k1 e => ih _ ⟨k + 1, by omega, by omega, rfl⟩ (by dsimp only; omega)
      have hc : i = 0 ∨ i = 1 ∨ i = 2 ∨ i = 3 ∨ i = 4 ∨ i = 5 := by omega
      rcases hc with rfl | rfl | rfl | rfl | rfl | rfl
      · have := hn 0 (by omega) (by omega) rfl
        simpa [tabE, getK, plan_cursor', show cursorP ⟨5, 3, 1⟩ ⟨6, 5, 4⟩ 0 = 0 from rfl, wrap_fit] using this
      · have := hn 1 (by omega) (by omega) rfl
        simpa [tabE, getK, plan_cursor', show cursorP ⟨5, 3, 1⟩ ⟨6, 5, 4⟩ 1 = 12 from rfl, wrap_fit] using this
      · have := hn 2 (by omega) (by omega) rfl
        simpa [tabE, getK, plan_cursor', show cursorP ⟨5, 3, 1⟩ ⟨6, 5, 4⟩ 2 = 24 from rfl, wrap_fit] using this
      · have := hn 3 (by omega) (by omega) rfl
        simpa [tabE, getK, plan_cursor', show cursorP ⟨5, 3, 1⟩ ⟨6, 5, 4⟩ 3 = 32 from rfl, wrap_fit] using this
      · have := hn 4 (by omega) (by omega) rfl
        simpa [tabE, getK, plan_cursor', show cursorP ⟨5, 3, 1⟩ ⟨6, 5, 4⟩ 4 = 32 from rfl, wrap_fit] using this
      · have := hn 5 (by omega) (by omega) rfl
        simpa [tabE, getK, plan_cursor', show cursorP ⟨5, 3, 1⟩ ⟨6, 5, 4⟩ 5 = 0 from rfl, wrap_fit] using this
    · have : i = 6 := by omega
      subst this
      have hb := and_1023 n
      have hs : spanP ⟨5, 3, 1⟩ ⟨6, 5, 4⟩ (IntKind.i64.wrap (-1 - bits .and .i64 n 1023)) = (0, 0) := by
        rw [wrap_fit (by omega) (by omega)]
        unfold spanP; rw [if_pos (by left; omega)]
      simp [plan_span', plan_cursor', hs, show spanP ⟨5, 3, 1⟩ ⟨6, 5, 4⟩ 4 = (0, 0) from rfl, show cursorP ⟨5, 3, 1⟩ ⟨6, 5, 4⟩ (-1) = 0 from rfl, show cursorP ⟨6, 5, 4⟩ ⟨5, 3, 1⟩ 1 = 0 from rfl, wakes18]
end Wf

