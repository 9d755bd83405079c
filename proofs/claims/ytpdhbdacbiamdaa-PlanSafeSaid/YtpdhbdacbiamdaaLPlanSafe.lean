/-
  A law's function, read off.
-/
import Derived.Test.YtpdhbdacbiamdaaX
import Derived.Test.YtpdhbdacbiamdaaY5
set_option linter.unusedVariables false
set_option linter.unusedSimpArgs false
set_option linter.unnecessarySimpa false
namespace Wf
open Go Go.RowKit Go.Proofs
def ann_wattlelaw18_PlanSafe : Ann := [(1, [.dead, .dead, .dead, .dead, .dead, .box true [(.int .i64), (.int .i64), (.int .i64)], .box true [(.int .i64), (.int .i64), (.int .i64)], .val (.cell (.int .i64)), .val (.cell (.int .i64)), .val (.cell (.int .i64)), .val (.cell (.int .i64))]), (4, [.dead, .dead, .dead, .dead, .dead, .box true [(.int .i64), (.int .i64), (.int .i64)], .box true [(.int .i64), (.int .i64), (.int .i64)], .val (.cell (.int .i64)), .val (.cell (.int .i64)), .val (.cell (.int .i64)), .val (.cell (.int .i64)), .val (.cell (.int .i64)), .val (.cell (.int .i64)), .val (.cell (.int .i64))]), (6, [.dead, .dead, .dead, .dead, .dead, .box true [(.int .i64), (.int .i64), (.int .i64)], .box true [(.int .i64), (.int .i64), (.int .i64)], .val (.cell (.int .i64)), .val (.cell (.int .i64)), .val (.cell (.int .i64)), .val (.cell (.int .i64)), .val (.cell (.int .i64)), .val (.cell (.int .i64)), .val (.cell (.int .i64)), .dead, .dead, .dead, .dead, .dead, .dead, .dead, .dead, .dead, .dead, .dead, .dead, .dead, .dead, .dead, .dead, .dead, .dead, .dead, .dead, .dead, .dead, .dead, .dead, .dead, .dead, .dead, .dead, .dead, .dead, .dead, .dead, .dead, .dead, .dead, .dead, .dead, .dead, .dead, .dead, .dead, .dead, .dead, .dead, .dead, .dead, .dead, .dead, .dead, .dead, .dead, .dead, .dead, .dead, .dead, .dead, .dead, .dead, .dead, .dead, .dead, .dead, .dead, .dead, .dead, .dead, .dead, .dead, .dead, .dead, .dead, .dead, .dead, .dead, .dead, .dead, .dead, .dead, .dead, .dead, .dead, .dead, .dead, .dead, .dead, .dead, .dead, .dead, .dead, .dead, .dead, .dead, .dead, .own 1, .val (.cell (.int .i64)), .val (.cell (.int .i64))]), (9, [.dead, .dead, .dead, .dead, .dead, .box true [(.int .i64), (.int .i64), (.int .i64)], .box true [(.int .i64), (.int .i64), (.int .i64)], .val (.cell (.int .i64)), .val (.cell (.int .i64)), .val (.cell (.int .i64)), .val (.cell (.int .i64)), .val (.cell (.int .i64)), .val (.cell (.int .i64)), .val (.cell (.int .i64)), .dead, .dead, .dead, .dead, .dead, .dead, .dead, .dead, .dead, .dead, .dead, .dead, .dead, .dead, .dead, .dead, .dead, .dead, .dead, .dead, .dead, .dead, .dead, .dead, .dead, .dead, .dead, .dead, .dead, .dead, .dead, .dead, .dead, .dead, .dead, .dead, .dead, .dead, .dead, .dead, .dead, .dead, .dead, .dead, .dead, .dead, .dead, .dead, .dead, .dead, .dead, .dead, .dead, .dead, .dead, .dead, .dead, .dead, .dead, .dead, .dead, .dead, .dead, .dead, .dead, .dead, .dead, .dead, .dead, .dead, .dead, .dead, .dead, .dead, .dead, .dead, .dead, .dead, .dead, .dead, .dead, .dead, .dead, .dead, .dead, .dead, .dead, .dead, .dead, .dead, .dead, .dead, .dead, .dead, .dead, .dead, .dead, .dead, .dead, .dead, .dead, .dead, .dead, .dead, .dead, .own 1, .val (.cell (.int .i64)), .val (.cell (.int .i64))])]
noncomputable def F_wattlelaw18_PlanSafe : List D → Option D := denP Try.prog (penv' [(ID.wattleplay_Pair, [0, 0], F_wattleplay_Pair), (ID.plan_Rows, [0], F_plan_Rows), (ID.plan_Windows, [0], F_plan_Windows), (ID.plan_Span, [0, 0], F_plan_Span), (ID.plan_Cursor, [0], F_plan_Cursor), (ID.wattleref01_Capacity, [0], F_wattleref01_Capacity), (ID.wattleref01_Numbers, [1], F_wattleref01_Numbers), (ID.wattlelaw18_wakes, [0], F_wattlelaw18_wakes)]) ann_wattlelaw18_PlanSafe [0] ID.wattlelaw18_PlanSafe
theorem sound_wattlelaw18_PlanSafe : SoundP Try.prog ID.wattlelaw18_PlanSafe [0] F_wattlelaw18_PlanSafe := denP_sound (penv_ok [fact_wattleplay_Pair, fact_plan_Rows, fact_plan_Windows, fact_plan_Span, fact_plan_Cursor, fact_wattleref01_Capacity, fact_wattleref01_Numbers, fact_wattlelaw18_wakes]) mixed ⟨Try.f11, by kernel_rfl, by kernel_rfl, by kernel_rfl⟩
noncomputable def fact_wattlelaw18_PlanSafe : Fact Try.prog := ⟨ID.wattlelaw18_PlanSafe, [0], F_wattlelaw18_PlanSafe, sound_wattlelaw18_PlanSafe⟩
noncomputable def g_wattlelaw18_PlanSafe (F_wattleplay_Pair : List D → Option D) (F_plan_Rows : List D → Option D) (F_plan_Windows : List D → Option D) (F_plan_Span : List D → Option D) (F_plan_Cursor : List D → Option D) (F_wattleref01_Capacity : List D → Option D) (F_wattleref01_Numbers : List D → Option D) (F_wattlelaw18_wakes : List D → Option D) (a0 : Int) (a1 : Int) : Option D :=
  bindK (F_wattleplay_Pair [D.int IntKind.i64 a0, D.int IntKind.i64 a1]) fun r1 =>
  asTup r1 fun ts2 =>
  getCells ([Lf.any, Lf.any]) ts2 fun c3 =>
  asAgg c3.fst fun cs4 =>
  getCells ([Lf.int IntKind.i64, Lf.int IntKind.i64, Lf.int IntKind.i64]) cs4 fun c5 =>
  asAgg c3.snd.fst fun cs6 =>
  getCells ([Lf.int IntKind.i64, Lf.int IntKind.i64, Lf.int IntKind.i64]) cs6 fun c7 =>
  bindK (F_plan_Rows   [D.agg [D.int IntKind.i64 c5.fst, D.int IntKind.i64 c5.snd.fst, D.int IntKind.i64 c5.snd.snd.fst],     D.agg [D.int IntKind.i64 c7.fst, D.int IntKind.i64 c7.snd.fst, D.int IntKind.i64 c7.snd.snd.fst]]) fun r8 =>
  asI IntKind.i64 r8 fun i9 =>
  bindK (F_plan_Windows   [D.agg [D.int IntKind.i64 c5.fst, D.int IntKind.i64 c5.snd.fst, D.int IntKind.i64 c5.snd.snd.fst],     D.agg [D.int IntKind.i64 c7.fst, D.int IntKind.i64 c7.snd.fst, D.int IntKind.i64 c7.snd.snd.fst]]) fun r10 =>
  asI IntKind.i64 r10 fun i11 =>
  brK (decide (i9 < (1 : Int)))
    (some (D.bool false))
    (brK (decide (i9 > (4 : Int)))
      (some (D.bool false))
      (letN (IntKind.wrap IntKind.i64 (i9 * i11)) fun n12 =>
      brK (n12 != (16 : Int))
        (some (D.bool false))
        (sif (c5.snd.snd.fst ≠ (0 : Int)) <|
        letN (Int.tmod i9 c5.snd.snd.fst) fun n13 =>
        brK (n13 != (0 : Int))
          (some (D.bool false))
          (sif (c7.snd.snd.fst ≠ (0 : Int)) <|
          letN (Int.tmod i9 c7.snd.snd.fst) fun n14 =>
          brK (n14 != (0 : Int))
            (some (D.bool false))
            (loopN (α := ((Int × Int × Int × PUnit) × (Int × Int × Int × PUnit) × Int × Int × Int × Int × PUnit) × PUnit) (fun again15 (((i16, (i17, (i18, _))), ((i19, (i20, (i21, _))), (i22, (i23, (i24, (i25, _)))))), _) =>
              brK (decide (i25 < i23))
                (bindK (F_plan_Span   [D.agg [D.int IntKind.i64 i16, D.int IntKind.i64 i17, D.int IntKind.i64 i18],     D.agg [D.int IntKind.i64 i19, D.int IntKind.i64 i20, D.int IntKind.i64 i21], D.int IntKind.i64 i25]) fun r26 =>
                asTup r26 fun ts27 =>
                getCells ([Lf.any, Lf.any]) ts27 fun c28 =>
                asI IntKind.i64 c28.fst fun i29 =>
                asI IntKind.i64 c28.snd.fst fun i30 =>
                brK (i29 != i24)
                  (some (D.bool false))
                  (brK (decide (i30 ≤ i29))
                    (some (D.bool false))
                    (letN (IntKind.wrap IntKind.i64 (i30 - i29)) fun n31 =>
                    brK (decide (n31 > (28 : Int)))
                      (some (D.bool false))
                      (bindK (F_plan_Cursor   [D.agg [D.int IntKind.i64 i16, D.int IntKind.i64 i17, D.int IntKind.i64 i18],     D.agg [D.int IntKind.i64 i19, D.int IntKind.i64 i20, D.int IntKind.i64 i21], D.int IntKind.i64 i25]) fun r32 =>
                      asI IntKind.i64 r32 fun i33 =>
                      bindK (F_wattleref01_Capacity [D.agg [D.int IntKind.i64 i16, D.int IntKind.i64 i17, D.int IntKind.i64 i18]]) fun r34 =>
                      asI IntKind.i64 r34 fun i35 =>
                      letN (min i29 i35) fun n36 =>
                      brK (i33 != n36)
                        (some (D.bool false))
                        (letN (IntKind.wrap IntKind.i64 (i25 * i22)) fun n37 =>
                        loopN (α := ((Int × Int × Int × PUnit) × (Int × Int × Int × PUnit) × Int × Int × Int × Int × Int × Int × Int × PUnit) × PUnit) (fun again38 (((i39, (i40, (i41, _))), ((i42, (i43, (i44, _))), (i45, (i46, (i47, (i48, (i49, (i50, (i51, _))))))))), _) =>
                          letN (IntKind.wrap IntKind.i64 (i48 + (1 : Int))) fun n52 =>
                          letN (IntKind.wrap IntKind.i64 (n52 * i45)) fun n53 =>
                          brK (decide (i51 < n53))
                            (bindK (F_wattleref01_Numbers   [D.agg [D.int IntKind.i64 i39, D.int IntKind.i64 i40, D.int IntKind.i64 i41], D.int IntKind.i64 i51]) fun r54 =>
                            asOwn r54 fun l55 =>
                            sif ((0 : Nat) + List.length l55 ≤ List.length l55) <|
                            sif (List.length l55 = List.length l55) <|
                            loopN (α := ((Int × Int × Int × PUnit) ×     (Int × Int × Int × PUnit) × Int × Int × Int × Int × Int × Int × Int × List D × Int × Int × PUnit) ×   PUnit) (fun again56 (((i57, (i58, (i59, _))), ((i60, (i61, (i62, _))), (i63, (i64, (i65, (i66, (i67, (i68, (i69, (l70, (i71, (i72, _)))))))))))), _) =>
                              brK (decide (i72 < i71))
                                (sif ((0 : Int) ≤ i72) <|
                                sif (Int.toNat i72 < List.length l70) <|
                                getK l70 ((0 : Nat) + Int.toNat i72) fun d73 =>
                                asI IntKind.i64 d73 fun i74 =>
                                brK (decide (i74 ≥ i68))
                                  (some (D.bool false))
                                  (letN (IntKind.wrap IntKind.i64 (i72 + (1 : Int))) fun n75 =>
                                  sif (List.length l70 = List.length l70) <|
                                  again56 ((((i57, i58, i59, PUnit.unit), (i60, i61, i62, PUnit.unit), i63, i64, i65, i66, i67, i68, i69, l70, i71, n75,     PUnit.unit),   PUnit.unit))))
                                (bindK (F_wattleref01_Numbers   [D.agg [D.int IntKind.i64 i60, D.int IntKind.i64 i61, D.int IntKind.i64 i62], D.int IntKind.i64 i69]) fun r76 =>
                                asOwn r76 fun l77 =>
                                sif ((0 : Nat) + List.length l77 ≤ List.length l77) <|
                                sif (List.length l77 = List.length l77) <|
                                loopN (α := ((Int × Int × Int × PUnit) ×     (Int × Int × Int × PUnit) × Int × Int × Int × Int × Int × Int × Int × List D × Int × Int × PUnit) ×   PUnit) (fun again78 (((i79, (i80, (i81, _))), ((i82, (i83, (i84, _))), (i85, (i86, (i87, (i88, (i89, (i90, (i91, (l92, (i93, (i94, _)))))))))))), _) =>
                                  brK (decide (i94 < i93))
                                    (sif ((0 : Int) ≤ i94) <|
                                    sif (Int.toNat i94 < List.length l92) <|
                                    getK l92 ((0 : Nat) + Int.toNat i94) fun d95 =>
                                    asI IntKind.i64 d95 fun i96 =>
                                    brK (decide (i96 < i89))
                                      (some (D.bool false))
                                      (brK (decide (i96 ≥ i90))
                                        (some (D.bool false))
                                        (letN (IntKind.wrap IntKind.i64 (i94 + (1 : Int))) fun n97 =>
                                        sif (List.length l92 = List.length l92) <|
                                        again78 ((((i79, i80, i81, PUnit.unit), (i82, i83, i84, PUnit.unit), i85, i86, i87, i88, i89, i90, i91, l92, i93, n97,     PUnit.unit),   PUnit.unit)))))
                                    (letN (IntKind.wrap IntKind.i64 (i91 + (1 : Int))) fun n98 =>
                                    again38 ((((i79, i80, i81, PUnit.unit), (i82, i83, i84, PUnit.unit), i85, i86, i87, i88, i89, i90, n98, PUnit.unit), PUnit.unit))))
                                  ((((i57, i58, i59, PUnit.unit), (i60, i61, i62, PUnit.unit), i63, i64, i65, i66, i67, i68, i69, l77, ↑(List.length l77),     (0 : Int), PUnit.unit),   PUnit.unit))))
                              ((((i39, i40, i41, PUnit.unit), (i42, i43, i44, PUnit.unit), i45, i46, i47, i48, i49, i50, i51, l55, ↑(List.length l55),     (0 : Int), PUnit.unit),   PUnit.unit)))
                            (letN (IntKind.wrap IntKind.i64 (i48 + (1 : Int))) fun n99 =>
                            again15 ((((i39, i40, i41, PUnit.unit), (i42, i43, i44, PUnit.unit), i45, i46, i47, n99, PUnit.unit), PUnit.unit))))
                          ((((i16, i17, i18, PUnit.unit), (i19, i20, i21, PUnit.unit), i22, i23, i30, i25, i29, i30, n37, PUnit.unit), PUnit.unit)))))))
                (bindK (F_wattleref01_Capacity [D.agg [D.int IntKind.i64 i19, D.int IntKind.i64 i20, D.int IntKind.i64 i21]]) fun r100 =>
                asI IntKind.i64 r100 fun i101 =>
                brK (i24 == i101)
                  (bindK (F_plan_Cursor   [D.agg [D.int IntKind.i64 i16, D.int IntKind.i64 i17, D.int IntKind.i64 i18],     D.agg [D.int IntKind.i64 i19, D.int IntKind.i64 i20, D.int IntKind.i64 i21], D.int IntKind.i64 i23]) fun r102 =>
                  asI IntKind.i64 r102 fun i103 =>
                  bindK (F_wattleref01_Capacity [D.agg [D.int IntKind.i64 i16, D.int IntKind.i64 i17, D.int IntKind.i64 i18]]) fun r104 =>
                  asI IntKind.i64 r104 fun i105 =>
                  brK (i103 == i105)
                    (bindK (F_wattlelaw18_wakes []) fun r106 =>
                    asB r106 fun b107 =>
                    some (D.bool b107))
                    (some (D.bool false)))
                  (some (D.bool false))))
              ((((c5.fst, c5.snd.fst, c5.snd.snd.fst, PUnit.unit), (c7.fst, c7.snd.fst, c7.snd.snd.fst, PUnit.unit), i9, i11,     (0 : Int), (0 : Int), PUnit.unit),   PUnit.unit)))))))
theorem G_wattlelaw18_PlanSafe (F_wattleplay_Pair : List D → Option D) (F_plan_Rows : List D → Option D) (F_plan_Windows : List D → Option D) (F_plan_Span : List D → Option D) (F_plan_Cursor : List D → Option D) (F_wattleref01_Capacity : List D → Option D) (F_wattleref01_Numbers : List D → Option D) (F_wattlelaw18_wakes : List D → Option D) (a0 : Int) (a1 : Int) : denP Try.prog (penv' [(ID.wattleplay_Pair, [0, 0], F_wattleplay_Pair), (ID.plan_Rows, [0], F_plan_Rows), (ID.plan_Windows, [0], F_plan_Windows), (ID.plan_Span, [0, 0], F_plan_Span), (ID.plan_Cursor, [0], F_plan_Cursor), (ID.wattleref01_Capacity, [0], F_wattleref01_Capacity), (ID.wattleref01_Numbers, [1], F_wattleref01_Numbers), (ID.wattlelaw18_wakes, [0], F_wattlelaw18_wakes)]) ann_wattlelaw18_PlanSafe [0] ID.wattlelaw18_PlanSafe [.int .i64 a0, .int .i64 a1] = g_wattlelaw18_PlanSafe F_wattleplay_Pair F_plan_Rows F_plan_Windows F_plan_Span F_plan_Cursor F_wattleref01_Capacity F_wattleref01_Numbers F_wattlelaw18_wakes a0 a1 := by kernel_rfl
theorem F_wattlelaw18_PlanSafe_eq (a0 : Int) (a1 : Int) : F_wattlelaw18_PlanSafe [.int .i64 a0, .int .i64 a1] = g_wattlelaw18_PlanSafe F_wattleplay_Pair F_plan_Rows F_plan_Windows F_plan_Span F_plan_Cursor F_wattleref01_Capacity F_wattleref01_Numbers F_wattlelaw18_wakes a0 a1 := G_wattlelaw18_PlanSafe F_wattleplay_Pair F_plan_Rows F_plan_Windows F_plan_Span F_plan_Cursor F_wattleref01_Capacity F_wattleref01_Numbers F_wattlelaw18_wakes a0 a1
end Wf

/-
  A window's rows hold nothing of another window.
-/
namespace Wf
open Go Go.RowKit Go.Proofs
set_option linter.unusedSimpArgs false
set_option linter.unusedVariables false

theorem num_low {c r w m row j : Int} (hc : c = 1 ∨ c = 2 ∨ c = 4) (hr : r = 1 ∨ r = 2 ∨ r = 4) (hcr : c ≤ r) (hw : 2 ≤ w ∧ w ≤ 7) (j0 : 0 ≤ j) (j1 : j < w) (h0 : 0 ≤ row) (h : row < m * r) : (row / c * w + j) * c + row % c < m * (r * w) := by
  have hw : w = 2 ∨ w = 3 ∨ w = 4 ∨ w = 5 ∨ w = 6 ∨ w = 7 := by omega
  rcases hc with rfl | rfl | rfl <;> rcases hr with rfl | rfl | rfl <;> first | (exfalso; omega) | (rcases hw with rfl | rfl | rfl | rfl | rfl | rfl <;> omega)
theorem num_high {c r w m row j : Int} (hc : c = 1 ∨ c = 2 ∨ c = 4) (hr : r = 1 ∨ r = 2 ∨ r = 4) (hcr : c ≤ r) (hw : 2 ≤ w ∧ w ≤ 7) (j0 : 0 ≤ j) (j1 : j < w) (h0 : 0 ≤ row) (h : m * r ≤ row) : m * (r * w) ≤ (row / c * w + j) * c + row % c := by
  have hw : w = 2 ∨ w = 3 ∨ w = 4 ∨ w = 5 ∨ w = 6 ∨ w = 7 := by omega
  rcases hc with rfl | rfl | rfl <;> rcases hr with rfl | rfl | rfl <;> first | (exfalso; omega) | (rcases hw with rfl | rfl | rfl | rfl | rfl | rfl <;> omega)
theorem max_mod {a b r : Int} (ha : a = 1 ∨ a = 2 ∨ a = 4) (hb : b = 1 ∨ b = 2 ∨ b = 4) (h : r = max a b) : r % a = 0 ∧ r % b = 0 := by
  rcases ha with rfl | rfl | rfl <;> rcases hb with rfl | rfl | rfl <;> omega
theorem cursor_at {x y : Geo} {k : Int} (h0 : 0 ≤ k) (h1 : k ≤ winP x y) : cursorP x y k = min (k * (rowsP x y * y.width)) x.cap := by
  unfold cursorP; rw [if_neg (by omega), Int.mul_assoc]
theorem span_at {x y : Geo} {k : Int} (h0 : 0 ≤ k) (h1 : k < winP x y) : spanP x y k = (k * (rowsP x y * y.width), (k + 1) * (rowsP x y * y.width)) := by
  unfold spanP; rw [if_neg (by omega)]

set_option maxHeartbeats 4000000 in
theorem planSafe (m n : Int) : F_wattlelaw18_PlanSafe [.int .i64 m, .int .i64 n] = some (.bool true) := by
  rw [F_wattlelaw18_PlanSafe_eq]
  unfold g_wattlelaw18_PlanSafe
  obtain ⟨⟨p1, p2, p3⟩, ⟨q1, q2, q3⟩, hp, hc, _, _⟩ := pair_play m n
  rw [hp]
  have hok := can_iff.1 hc
  have hx := ok_iff.1 hok.1
  have hy := ok_iff.1 hok.2.1
  have hwy2 := width_ok hok.2.1
  have hwx2 := width_ok hok.1
  have hcx : Geo.cap ⟨p1, p2, p3⟩ = Geo.width ⟨p1, p2, p3⟩ * 16 := rfl
  have hcy : Geo.cap ⟨q1, q2, q3⟩ = Geo.width ⟨q1, q2, q3⟩ * 16 := rfl
  have hle : Geo.width ⟨p1, p2, p3⟩ ≤ Geo.width ⟨q1, q2, q3⟩ := hok.2.2.2.2.2
  obtain ⟨hr0, hr⟩ := rows_of hc
  obtain ⟨_, hw, hrw⟩ := win_of hc
  simp only at hr0 hx hy
  have hfit := fun k h0 h1 => @span_fit ⟨p1, p2, p3⟩ ⟨q1, q2, q3⟩ k hc h0 h1
  have hcur := fun k => @cursor_at ⟨p1, p2, p3⟩ ⟨q1, q2, q3⟩ k
  have hspan := fun k => @span_at ⟨p1, p2, p3⟩ ⟨q1, q2, q3⟩ k
  have hpr := plan_rows' p1 p2 p3 q1 q2 q3
  have hpw := plan_windows' p1 p2 p3 q1 q2 q3
  have hps := fun k => plan_span' p1 p2 p3 q1 q2 q3 k
  have hpc := fun k => plan_cursor' p1 p2 p3 q1 q2 q3 k
  have hnx : ∀ row, 0 ≤ row → row < 16 → F_wattleref01_Numbers [gD p1 p2 p3, .int .i64 row] = some (.sl .own (numD ⟨p1, p2, p3⟩ row (Geo.width ⟨p1, p2, p3⟩).toNat)) := by
    intro row h0 h1; rw [nums_ref']; unfold numsD; rw [if_pos (fine_iff.2 ⟨hok.1, h0, h1⟩)]
  have hny : ∀ row, 0 ≤ row → row < 16 → F_wattleref01_Numbers [gD q1 q2 q3, .int .i64 row] = some (.sl .own (numD ⟨q1, q2, q3⟩ row (Geo.width ⟨q1, q2, q3⟩).toNat)) := by
    intro row h0 h1; rw [nums_ref']; unfold numsD; rw [if_pos (fine_iff.2 ⟨hok.2.1, h0, h1⟩)]
  have hlx : ∀ k row j : Int, 0 ≤ row → row < k * rowsP ⟨p1, p2, p3⟩ ⟨q1, q2, q3⟩ → 0 ≤ k → 0 ≤ j → j < Geo.width ⟨p1, p2, p3⟩ → numP ⟨p1, p2, p3⟩ row j < k * (rowsP ⟨p1, p2, p3⟩ ⟨q1, q2, q3⟩ * Geo.width ⟨q1, q2, q3⟩) := by
    intro k row j h0 h1 hk j0 j1
    refine Int.lt_of_lt_of_le (num_low hx.2.2 hr (by simp only; omega) hwx2 j0 j1 h0 h1) ?_
    exact Int.mul_le_mul_of_nonneg_left (Int.mul_le_mul_of_nonneg_left hle (by omega)) hk
  have hly : ∀ k row j : Int, 0 ≤ row → row < k * rowsP ⟨p1, p2, p3⟩ ⟨q1, q2, q3⟩ → 0 ≤ k → 0 ≤ j → j < Geo.width ⟨q1, q2, q3⟩ → numP ⟨q1, q2, q3⟩ row j < k * (rowsP ⟨p1, p2, p3⟩ ⟨q1, q2, q3⟩ * Geo.width ⟨q1, q2, q3⟩) :=
    fun k row j h0 h1 hk j0 j1 => num_low hy.2.2 hr (by simp only; omega) hwy2 j0 j1 h0 h1
  have hhy : ∀ k row j : Int, 0 ≤ row → k * rowsP ⟨p1, p2, p3⟩ ⟨q1, q2, q3⟩ ≤ row → 0 ≤ k → 0 ≤ j → j < Geo.width ⟨q1, q2, q3⟩ → k * (rowsP ⟨p1, p2, p3⟩ ⟨q1, q2, q3⟩ * Geo.width ⟨q1, q2, q3⟩) ≤ numP ⟨q1, q2, q3⟩ row j :=
    fun k row j h0 h1 hk j0 j1 => num_high hy.2.2 hr (by simp only; omega) hwy2 j0 j1 h0 h1
  simp only [bindK_some_eq, Geo.D, asAgg_agg, asTup_tup, getCells_int, getCells_any, getCells_nil, hpr, hpw, iD, asI_int]
  simp only [iD] at hps hpc
  generalize winP ⟨p1, p2, p3⟩ ⟨q1, q2, q3⟩ = w at *
  generalize rowsP ⟨p1, p2, p3⟩ ⟨q1, q2, q3⟩ = r at *
  have hcapx := cap_ref' p1 p2 p3
  have hcapy := cap_ref' q1 q2 q3
  simp only [iD] at hcapx hcapy
  have hgx := @numD_get ⟨p1, p2, p3⟩
  have hgy := @numD_get ⟨q1, q2, q3⟩
  have hLx := numD_len ⟨p1, p2, p3⟩
  have hLy := numD_len ⟨q1, q2, q3⟩
  generalize Geo.width ⟨p1, p2, p3⟩ = wx at *
  generalize Geo.width ⟨q1, q2, q3⟩ = wy at *
  have e1 : IntKind.i64.wrap (r * w) = 16 := by rw [Int.mul_comm, hrw]; rfl
  have e2 : r.tmod p3 = 0 := by rw [tmod_n (by omega)]; exact (max_mod hx.2.2 hy.2.2 hr0).1
  have e3 : r.tmod q3 = 0 := by rw [tmod_n (by omega)]; exact (max_mod hx.2.2 hy.2.2 hr0).2
  have hs : 1 ≤ r * wy ∧ r * wy ≤ 28 := by rcases hr with rfl | rfl | rfl <;> omega
  have hsw : w * (r * wy) = 16 * wy := by rw [← Int.mul_assoc, hrw]
  simp only [show ¬ r < 1 by omega, show ¬ r > 4 by omega, e1, e2, e3, brK_eq, letN_eq', sif_pos, show p3 ≠ 0 by omega, show q3 ≠ 0 by omega, decide_false, Bool.false_eq_true, if_false, bne_self_eq_false, ne_eq, not_false_eq_true]
  refine loopN_spec (fun a => (17 - a.1.2.2.2.2.2.1).toNat) (fun _ => some (D.bool true)) (fun a => ∃ k : Int, 0 ≤ k ∧ k ≤ w ∧
    a = (((p1, p2, p3, PUnit.unit), (q1, q2, q3, PUnit.unit), r, w, k * (r * wy), k, PUnit.unit), PUnit.unit)) ?_ ⟨0, by omega, by omega, by simp⟩ ?_
  rotate_left
  · simp
  rintro again _ ⟨k, h0, h1, rfl⟩ ih
  dsimp only
  by_cases hk : k < w
  · have ihk := ih _ ⟨k + 1, by omega, by omega, rfl⟩ (by dsimp only; omega)
    obtain ⟨f1, f2, f3, f4, f5, f6⟩ := hfit k h0 (by omega)
    have c1 := hcur k h0 (by omega)
    have s1 := hspan k h0 hk
    have hstep : (k + 1) * (r * wy) = k * (r * wy) + r * wy := by rw [Int.add_mul]; omega
    have hkr : (k + 1) * r = k * r + r := by rw [Int.add_mul]; omega
    have hkr16 : (k + 1) * r ≤ 16 := by rw [← hrw]; exact Int.mul_le_mul_of_nonneg_right (by omega) (by omega)
    have hkr0 : 0 ≤ k * r := Int.mul_nonneg h0 (by omega)
    have w4 : IntKind.i64.wrap ((k + 1) * (r * wy) - k * (r * wy)) = r * wy := by rw [hstep]; exact (congrArg _ (by omega)).trans (wrap_fit (n := r * wy) (by omega) (by omega))
    have w5 : IntKind.i64.wrap ((k + 1) * r) = (k + 1) * r := wrap_fit (by omega) (by omega)
    simp only [hk, decide_true, if_true, hps, hpc, s1, c1, bindK_some_eq, asTup_tup, getCells_any, getCells_nil, asI_int, bne_self_eq_false, Bool.false_eq_true, if_false, show ¬ (k + 1) * (r * wy) ≤ k * (r * wy) by omega, decide_false, w4, show ¬ r * wy > 28 by omega, hcapx, f5, letN_eq']
    refine loopN_spec (fun a => (17 - a.1.2.2.2.2.2.2.2.2.1).toNat) (fun _ => some (D.bool true)) (fun a => ∃ row : Int, k * r ≤ row ∧ row ≤ (k + 1) * r ∧
      a = (((p1, p2, p3, PUnit.unit), (q1, q2, q3, PUnit.unit), r, w, (k + 1) * (r * wy), k, k * (r * wy), (k + 1) * (r * wy), row, PUnit.unit), PUnit.unit)) ?_ ⟨k * r, by omega, by omega, rfl⟩ ?_
    rotate_left
    · simp; omega
    rintro again2 _ ⟨row, r0, r1, rfl⟩ ih2
    dsimp only
    simp only [f3, w5]
    by_cases hrow : row < (k + 1) * r
    · have ihr := ih2 _ ⟨row + 1, by omega, by omega, rfl⟩ (by dsimp only; omega)
      have wr : IntKind.i64.wrap (row + 1) = row + 1 := wrap_fit (by omega) (by omega)
      simp only [hrow, decide_true, if_true, hnx row (by omega) (by omega), hny row (by omega) (by omega), bindK_some_eq, asOwn_own, hLx, hLy]
      rw [sif_pos (by omega)]
      refine loopN_spec (fun a => (wx - a.1.2.2.2.2.2.2.2.2.2.2.2.1).toNat) (fun _ => some (D.bool true)) (fun a => ∃ i : Nat, i ≤ wx.toNat ∧
        a = (((p1, p2, p3, PUnit.unit), (q1, q2, q3, PUnit.unit), r, w, (k + 1) * (r * wy), k, k * (r * wy), (k + 1) * (r * wy), row, numD ⟨p1, p2, p3⟩ row wx.toNat, (wx.toNat : Int), (i : Int), PUnit.unit), PUnit.unit)) ?_ ⟨0, by omega, rfl⟩ ?_
      rotate_left
      · simp; omega
      rintro again3 _ ⟨i, i0, rfl⟩ ih3
      dsimp only
      by_cases hi : i < wx.toNat
      · have ihi := ih3 _ ⟨i + 1, by omega, rfl⟩ (by dsimp only; omega)
        have wi : IntKind.i64.wrap ((i : Int) + 1) = (i : Int) + 1 := wrap_fit (by omega) (by omega)
        have g1 := hlx (k + 1) row i (by omega) hrow (by omega) (by omega) (by omega)
        simp only [show (i : Int) < (wx.toNat : Int) by omega, decide_true, if_true, hLx, Int.toNat_natCast, Nat.zero_add]
        rw [sif_pos (by omega), sif_pos hi, getK_of (hgx row wx.toNat hi)]
        simp only [iD, asI_int, ge_iff_le, show ¬ (k + 1) * (r * wy) ≤ numP ⟨p1, p2, p3⟩ row i by omega, decide_false, Bool.false_eq_true, if_false, letN_eq', wi]
        exact ihi
      · simp only [show ¬ (i : Int) < (wx.toNat : Int) by omega, decide_false, Bool.false_eq_true, if_false, hny row (by omega) (by omega), bindK_some_eq, asOwn_own, hLy]
        rw [sif_pos (by omega)]
        refine loopN_spec (fun a => (wy - a.1.2.2.2.2.2.2.2.2.2.2.2.1).toNat) (fun _ => some (D.bool true)) (fun a => ∃ i : Nat, i ≤ wy.toNat ∧
          a = (((p1, p2, p3, PUnit.unit), (q1, q2, q3, PUnit.unit), r, w, (k + 1) * (r * wy), k, k * (r * wy), (k + 1) * (r * wy), row, numD ⟨q1, q2, q3⟩ row wy.toNat, (wy.toNat : Int), (i : Int), PUnit.unit), PUnit.unit)) ?_ ⟨0, by omega, rfl⟩ ?_
        rotate_left
        · simp; omega
        rintro again4 _ ⟨i, i0, rfl⟩ ih4
        dsimp only
        by_cases hi : i < wy.toNat
        · have ihi := ih4 _ ⟨i + 1, by omega, rfl⟩ (by dsimp only; omega)
          have wi : IntKind.i64.wrap ((i : Int) + 1) = (i : Int) + 1 := wrap_fit (by omega) (by omega)
          have g1 := hly (k + 1) row i (by omega) hrow (by omega) (by omega) (by omega)
          have g2 := hhy k row i (by omega) r0 (by omega) (by omega) (by omega)
          simp only [show (i : Int) < (wy.toNat : Int) by omega, decide_true, if_true, hLy, Int.toNat_natCast, Nat.zero_add]
          rw [sif_pos (by omega), sif_pos hi, getK_of (hgy row wy.toNat hi)]
          simp only [iD, asI_int, ge_iff_le, show ¬ (k + 1) * (r * wy) ≤ numP ⟨q1, q2, q3⟩ row i by omega, show ¬ numP ⟨q1, q2, q3⟩ row i < k * (r * wy) by omega, decide_false, Bool.false_eq_true, if_false, letN_eq', wi]
          exact ihi
        · simp only [show ¬ (i : Int) < (wy.toNat : Int) by omega, decide_false, Bool.false_eq_true, if_false, letN_eq', wr]
          exact ihr
    · simp only [hrow, decide_false, Bool.false_eq_true, if_false, letN_eq', f3]
      exact ihk
  · have hkw : k = w := by omega
    subst hkw
    have c1 := hcur k h0 (by omega)
    simp only [hk, decide_false, Bool.false_eq_true, if_false, hcapx, hcapy, bindK_some_eq, asI_int, hpc, c1]
    rw [hsw, hcx, hcy]
    simp [show 16 * wy = wy * 16 by omega, show min (wy * 16) (wx * 16) = wx * 16 by omega, wakes18]
end Wf

