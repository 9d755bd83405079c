/-
  A law's function, read off.
-/
import Derived.Test.YtpdhbdacbiamdaaX
import Derived.Test.YtpdhbdacbiamdaaY3
set_option linter.unusedVariables false
set_option linter.unusedSimpArgs false
set_option linter.unnecessarySimpa false
namespace Wf
open Go Go.RowKit Go.Proofs
def ann_wattlelaw18_PlanTells : Ann := [(2, [.dead, .dead, .val (.cell (.int .i64)), .dead, .dead, .dead, .dead, .dead, .dead, .box true [(.int .i64), (.int .i64), (.int .i64)], .box true [(.int .i64), (.int .i64), (.int .i64)], .val (.cell (.int .i64))])]
noncomputable def F_wattlelaw18_PlanTells : List D → Option D := denP Try.prog (penv' [(ID.wattleplay_Geom, [0], F_wattleplay_Geom), (ID.wattleplay_Pair, [0, 0], F_wattleplay_Pair), (ID.plan_Rows, [0], F_plan_Rows), (ID.wattleref01_Rows, [0], F_wattleref01_Rows), (ID.plan_Windows, [0], F_plan_Windows), (ID.wattleref01_Windows, [0], F_wattleref01_Windows), (ID.plan_Span, [0, 0], F_plan_Span), (ID.wattleref01_Span, [0, 0], F_wattleref01_Span), (ID.plan_Cursor, [0], F_plan_Cursor), (ID.wattleref01_Cursor, [0], F_wattleref01_Cursor), (ID.wattlelaw18_wakes, [0], F_wattlelaw18_wakes)]) ann_wattlelaw18_PlanTells [0] ID.wattlelaw18_PlanTells
theorem sound_wattlelaw18_PlanTells : SoundP Try.prog ID.wattlelaw18_PlanTells [0] F_wattlelaw18_PlanTells := denP_sound (penv_ok [fact_wattleplay_Geom, fact_wattleplay_Pair, fact_plan_Rows, fact_wattleref01_Rows, fact_plan_Windows, fact_wattleref01_Windows, fact_plan_Span, fact_wattleref01_Span, fact_plan_Cursor, fact_wattleref01_Cursor, fact_wattlelaw18_wakes]) mixed ⟨Try.f10, by kernel_rfl, by kernel_rfl, by kernel_rfl⟩
noncomputable def fact_wattlelaw18_PlanTells : Fact Try.prog := ⟨ID.wattlelaw18_PlanTells, [0], F_wattlelaw18_PlanTells, sound_wattlelaw18_PlanTells⟩
noncomputable def g_wattlelaw18_PlanTells (F_wattleplay_Geom : List D → Option D) (F_wattleplay_Pair : List D → Option D) (F_plan_Rows : List D → Option D) (F_wattleref01_Rows : List D → Option D) (F_plan_Windows : List D → Option D) (F_wattleref01_Windows : List D → Option D) (F_plan_Span : List D → Option D) (F_wattleref01_Span : List D → Option D) (F_plan_Cursor : List D → Option D) (F_wattleref01_Cursor : List D → Option D) (F_wattlelaw18_wakes : List D → Option D) (a0 : Int) (a1 : Int) (a2 : Int) (a3 : Bool) : Option D :=
  bindK (F_wattleplay_Geom [D.int IntKind.i64 a0]) fun r1 =>
  asAgg r1 fun cs2 =>
  getCells ([Lf.int IntKind.i64, Lf.int IntKind.i64, Lf.int IntKind.i64]) cs2 fun c3 =>
  bindK (F_wattleplay_Geom [D.int IntKind.i64 a1]) fun r4 =>
  asAgg r4 fun cs5 =>
  getCells ([Lf.int IntKind.i64, Lf.int IntKind.i64, Lf.int IntKind.i64]) cs5 fun c6 =>
  brK a3
    (bindK (F_wattleplay_Pair [D.int IntKind.i64 a0, D.int IntKind.i64 a1]) fun r7 =>
    asTup r7 fun ts8 =>
    getCells ([Lf.any, Lf.any]) ts8 fun c9 =>
    asAgg c9.fst fun cs10 =>
    getCells ([Lf.int IntKind.i64, Lf.int IntKind.i64, Lf.int IntKind.i64]) cs10 fun c11 =>
    asAgg c9.snd.fst fun cs12 =>
    getCells ([Lf.int IntKind.i64, Lf.int IntKind.i64, Lf.int IntKind.i64]) cs12 fun c13 =>
    bindK (F_plan_Rows   [D.agg [D.int IntKind.i64 c11.fst, D.int IntKind.i64 c11.snd.fst, D.int IntKind.i64 c11.snd.snd.fst],     D.agg [D.int IntKind.i64 c13.fst, D.int IntKind.i64 c13.snd.fst, D.int IntKind.i64 c13.snd.snd.fst]]) fun r14 =>
    asI IntKind.i64 r14 fun i15 =>
    bindK (F_wattleref01_Rows   [D.agg [D.int IntKind.i64 c11.fst, D.int IntKind.i64 c11.snd.fst, D.int IntKind.i64 c11.snd.snd.fst],     D.agg [D.int IntKind.i64 c13.fst, D.int IntKind.i64 c13.snd.fst, D.int IntKind.i64 c13.snd.snd.fst]]) fun r16 =>
    asI IntKind.i64 r16 fun i17 =>
    brK (i15 != i17)
      (some (D.bool false))
      (bindK (F_plan_Windows   [D.agg [D.int IntKind.i64 c11.fst, D.int IntKind.i64 c11.snd.fst, D.int IntKind.i64 c11.snd.snd.fst],     D.agg [D.int IntKind.i64 c13.fst, D.int IntKind.i64 c13.snd.fst, D.int IntKind.i64 c13.snd.snd.fst]]) fun r18 =>
      asI IntKind.i64 r18 fun i19 =>
      bindK (F_wattleref01_Windows   [D.agg [D.int IntKind.i64 c11.fst, D.int IntKind.i64 c11.snd.fst, D.int IntKind.i64 c11.snd.snd.fst],     D.agg [D.int IntKind.i64 c13.fst, D.int IntKind.i64 c13.snd.fst, D.int IntKind.i64 c13.snd.snd.fst]]) fun r20 =>
      asI IntKind.i64 r20 fun i21 =>
      brK (i19 != i21)
        (some (D.bool false))
        (loopN (α := (Int × (Int × Int × Int × PUnit) × (Int × Int × Int × PUnit) × Int × PUnit) × PUnit) (fun again22 ((i23, ((i24, (i25, (i26, _))), ((i27, (i28, (i29, _))), (i30, _)))), _) =>
          brK (decide (i30 < (19 : Int)))
            (bindK (F_plan_Span   [D.agg [D.int IntKind.i64 i24, D.int IntKind.i64 i25, D.int IntKind.i64 i26],     D.agg [D.int IntKind.i64 i27, D.int IntKind.i64 i28, D.int IntKind.i64 i29], D.int IntKind.i64 i30]) fun r31 =>
            asTup r31 fun ts32 =>
            getCells ([Lf.any, Lf.any]) ts32 fun c33 =>
            asI IntKind.i64 c33.fst fun i34 =>
            asI IntKind.i64 c33.snd.fst fun i35 =>
            bindK (F_wattleref01_Span   [D.agg [D.int IntKind.i64 i24, D.int IntKind.i64 i25, D.int IntKind.i64 i26],     D.agg [D.int IntKind.i64 i27, D.int IntKind.i64 i28, D.int IntKind.i64 i29], D.int IntKind.i64 i30]) fun r36 =>
            asTup r36 fun ts37 =>
            getCells ([Lf.any, Lf.any]) ts37 fun c38 =>
            asI IntKind.i64 c38.fst fun i39 =>
            asI IntKind.i64 c38.snd.fst fun i40 =>
            brK (i34 != i39)
              (some (D.bool false))
              (brK (i35 != i40)
                (some (D.bool false))
                (bindK (F_plan_Cursor   [D.agg [D.int IntKind.i64 i24, D.int IntKind.i64 i25, D.int IntKind.i64 i26],     D.agg [D.int IntKind.i64 i27, D.int IntKind.i64 i28, D.int IntKind.i64 i29], D.int IntKind.i64 i30]) fun r41 =>
                asI IntKind.i64 r41 fun i42 =>
                bindK (F_wattleref01_Cursor   [D.agg [D.int IntKind.i64 i24, D.int IntKind.i64 i25, D.int IntKind.i64 i26],     D.agg [D.int IntKind.i64 i27, D.int IntKind.i64 i28, D.int IntKind.i64 i29], D.int IntKind.i64 i30]) fun r43 =>
                asI IntKind.i64 r43 fun i44 =>
                brK (i42 != i44)
                  (some (D.bool false))
                  (letN (IntKind.wrap IntKind.i64 (i30 + (1 : Int))) fun n45 =>
                  again22 (((i23, (i24, i25, i26, PUnit.unit), (i27, i28, i29, PUnit.unit), n45, PUnit.unit), PUnit.unit))))))
            (bindK (F_plan_Span   [D.agg [D.int IntKind.i64 i24, D.int IntKind.i64 i25, D.int IntKind.i64 i26],     D.agg [D.int IntKind.i64 i27, D.int IntKind.i64 i28, D.int IntKind.i64 i29], D.int IntKind.i64 i23]) fun r46 =>
            asTup r46 fun ts47 =>
            getCells ([Lf.any, Lf.any]) ts47 fun c48 =>
            asI IntKind.i64 c48.fst fun i49 =>
            asI IntKind.i64 c48.snd.fst fun i50 =>
            bindK (F_wattleref01_Span   [D.agg [D.int IntKind.i64 i24, D.int IntKind.i64 i25, D.int IntKind.i64 i26],     D.agg [D.int IntKind.i64 i27, D.int IntKind.i64 i28, D.int IntKind.i64 i29], D.int IntKind.i64 i23]) fun r51 =>
            asTup r51 fun ts52 =>
            getCells ([Lf.any, Lf.any]) ts52 fun c53 =>
            asI IntKind.i64 c53.fst fun i54 =>
            asI IntKind.i64 c53.snd.fst fun i55 =>
            brK (i49 == i54)
              (brK (i50 == i55)
                (bindK (F_plan_Cursor   [D.agg [D.int IntKind.i64 i24, D.int IntKind.i64 i25, D.int IntKind.i64 i26],     D.agg [D.int IntKind.i64 i27, D.int IntKind.i64 i28, D.int IntKind.i64 i29], D.int IntKind.i64 i23]) fun r56 =>
                asI IntKind.i64 r56 fun i57 =>
                bindK (F_wattleref01_Cursor   [D.agg [D.int IntKind.i64 i24, D.int IntKind.i64 i25, D.int IntKind.i64 i26],     D.agg [D.int IntKind.i64 i27, D.int IntKind.i64 i28, D.int IntKind.i64 i29], D.int IntKind.i64 i23]) fun r58 =>
                asI IntKind.i64 r58 fun i59 =>
                brK (i57 == i59)
                  (bindK (F_wattlelaw18_wakes []) fun r60 =>
                  asB r60 fun b61 =>
                  some (D.bool b61))
                  (some (D.bool false)))
                (some (D.bool false)))
              (some (D.bool false))))
          (((a2, (c11.fst, c11.snd.fst, c11.snd.snd.fst, PUnit.unit), (c13.fst, c13.snd.fst, c13.snd.snd.fst, PUnit.unit),     (-1 : Int), PUnit.unit),   PUnit.unit)))))
    (bindK (F_plan_Rows   [D.agg [D.int IntKind.i64 c3.fst, D.int IntKind.i64 c3.snd.fst, D.int IntKind.i64 c3.snd.snd.fst],     D.agg [D.int IntKind.i64 c6.fst, D.int IntKind.i64 c6.snd.fst, D.int IntKind.i64 c6.snd.snd.fst]]) fun r62 =>
    asI IntKind.i64 r62 fun i63 =>
    bindK (F_wattleref01_Rows   [D.agg [D.int IntKind.i64 c3.fst, D.int IntKind.i64 c3.snd.fst, D.int IntKind.i64 c3.snd.snd.fst],     D.agg [D.int IntKind.i64 c6.fst, D.int IntKind.i64 c6.snd.fst, D.int IntKind.i64 c6.snd.snd.fst]]) fun r64 =>
    asI IntKind.i64 r64 fun i65 =>
    brK (i63 != i65)
      (some (D.bool false))
      (bindK (F_plan_Windows   [D.agg [D.int IntKind.i64 c3.fst, D.int IntKind.i64 c3.snd.fst, D.int IntKind.i64 c3.snd.snd.fst],     D.agg [D.int IntKind.i64 c6.fst, D.int IntKind.i64 c6.snd.fst, D.int IntKind.i64 c6.snd.snd.fst]]) fun r66 =>
      asI IntKind.i64 r66 fun i67 =>
      bindK (F_wattleref01_Windows   [D.agg [D.int IntKind.i64 c3.fst, D.int IntKind.i64 c3.snd.fst, D.int IntKind.i64 c3.snd.snd.fst],     D.agg [D.int IntKind.i64 c6.fst, D.int IntKind.i64 c6.snd.fst, D.int IntKind.i64 c6.snd.snd.fst]]) fun r68 =>
      asI IntKind.i64 r68 fun i69 =>
      brK (i67 != i69)
        (some (D.bool false))
        (loopN (α := (Int × (Int × Int × Int × PUnit) × (Int × Int × Int × PUnit) × Int × PUnit) × PUnit) (fun again70 ((i71, ((i72, (i73, (i74, _))), ((i75, (i76, (i77, _))), (i78, _)))), _) =>
          brK (decide (i78 < (19 : Int)))
            (bindK (F_plan_Span   [D.agg [D.int IntKind.i64 i72, D.int IntKind.i64 i73, D.int IntKind.i64 i74],     D.agg [D.int IntKind.i64 i75, D.int IntKind.i64 i76, D.int IntKind.i64 i77], D.int IntKind.i64 i78]) fun r79 =>
            asTup r79 fun ts80 =>
            getCells ([Lf.any, Lf.any]) ts80 fun c81 =>
            asI IntKind.i64 c81.fst fun i82 =>
            asI IntKind.i64 c81.snd.fst fun i83 =>
            bindK (F_wattleref01_Span   [D.agg [D.int IntKind.i64 i72, D.int IntKind.i64 i73, D.int IntKind.i64 i74],     D.agg [D.int IntKind.i64 i75, D.int IntKind.i64 i76, D.int IntKind.i64 i77], D.int IntKind.i64 i78]) fun r84 =>
            asTup r84 fun ts85 =>
            getCells ([Lf.any, Lf.any]) ts85 fun c86 =>
            asI IntKind.i64 c86.fst fun i87 =>
            asI IntKind.i64 c86.snd.fst fun i88 =>
            brK (i82 != i87)
              (some (D.bool false))
              (brK (i83 != i88)
                (some (D.bool false))
                (bindK (F_plan_Cursor   [D.agg [D.int IntKind.i64 i72, D.int IntKind.i64 i73, D.int IntKind.i64 i74],     D.agg [D.int IntKind.i64 i75, D.int IntKind.i64 i76, D.int IntKind.i64 i77], D.int IntKind.i64 i78]) fun r89 =>
                asI IntKind.i64 r89 fun i90 =>
                bindK (F_wattleref01_Cursor   [D.agg [D.int IntKind.i64 i72, D.int IntKind.i64 i73, D.int IntKind.i64 i74],     D.agg [D.int IntKind.i64 i75, D.int IntKind.i64 i76, D.int IntKind.i64 i77], D.int IntKind.i64 i78]) fun r91 =>
                asI IntKind.i64 r91 fun i92 =>
                brK (i90 != i92)
                  (some (D.bool false))
                  (letN (IntKind.wrap IntKind.i64 (i78 + (1 : Int))) fun n93 =>
                  again70 (((i71, (i72, i73, i74, PUnit.unit), (i75, i76, i77, PUnit.unit), n93, PUnit.unit), PUnit.unit))))))
            (bindK (F_plan_Span   [D.agg [D.int IntKind.i64 i72, D.int IntKind.i64 i73, D.int IntKind.i64 i74],     D.agg [D.int IntKind.i64 i75, D.int IntKind.i64 i76, D.int IntKind.i64 i77], D.int IntKind.i64 i71]) fun r94 =>
            asTup r94 fun ts95 =>
            getCells ([Lf.any, Lf.any]) ts95 fun c96 =>
            asI IntKind.i64 c96.fst fun i97 =>
            asI IntKind.i64 c96.snd.fst fun i98 =>
            bindK (F_wattleref01_Span   [D.agg [D.int IntKind.i64 i72, D.int IntKind.i64 i73, D.int IntKind.i64 i74],     D.agg [D.int IntKind.i64 i75, D.int IntKind.i64 i76, D.int IntKind.i64 i77], D.int IntKind.i64 i71]) fun r99 =>
            asTup r99 fun ts100 =>
            getCells ([Lf.any, Lf.any]) ts100 fun c101 =>
            asI IntKind.i64 c101.fst fun i102 =>
            asI IntKind.i64 c101.snd.fst fun i103 =>
            brK (i97 == i102)
              (brK (i98 == i103)
                (bindK (F_plan_Cursor   [D.agg [D.int IntKind.i64 i72, D.int IntKind.i64 i73, D.int IntKind.i64 i74],     D.agg [D.int IntKind.i64 i75, D.int IntKind.i64 i76, D.int IntKind.i64 i77], D.int IntKind.i64 i71]) fun r104 =>
                asI IntKind.i64 r104 fun i105 =>
                bindK (F_wattleref01_Cursor   [D.agg [D.int IntKind.i64 i72, D.int IntKind.i64 i73, D.int IntKind.i64 i74],     D.agg [D.int IntKind.i64 i75, D.int IntKind.i64 i76, D.int IntKind.i64 i77], D.int IntKind.i64 i71]) fun r106 =>
                asI IntKind.i64 r106 fun i107 =>
                brK (i105 == i107)
                  (bindK (F_wattlelaw18_wakes []) fun r108 =>
                  asB r108 fun b109 =>
                  some (D.bool b109))
                  (some (D.bool false)))
                (some (D.bool false)))
              (some (D.bool false))))
          (((a2, (c3.fst, c3.snd.fst, c3.snd.snd.fst, PUnit.unit), (c6.fst, c6.snd.fst, c6.snd.snd.fst, PUnit.unit), (-1 : Int),     PUnit.unit),   PUnit.unit)))))
theorem G_wattlelaw18_PlanTells (F_wattleplay_Geom : List D → Option D) (F_wattleplay_Pair : List D → Option D) (F_plan_Rows : List D → Option D) (F_wattleref01_Rows : List D → Option D) (F_plan_Windows : List D → Option D) (F_wattleref01_Windows : List D → Option D) (F_plan_Span : List D → Option D) (F_wattleref01_Span : List D → Option D) (F_plan_Cursor : List D → Option D) (F_wattleref01_Cursor : List D → Option D) (F_wattlelaw18_wakes : List D → Option D) (a0 : Int) (a1 : Int) (a2 : Int) (a3 : Bool) : denP Try.prog (penv' [(ID.wattleplay_Geom, [0], F_wattleplay_Geom), (ID.wattleplay_Pair, [0, 0], F_wattleplay_Pair), (ID.plan_Rows, [0], F_plan_Rows), (ID.wattleref01_Rows, [0], F_wattleref01_Rows), (ID.plan_Windows, [0], F_plan_Windows), (ID.wattleref01_Windows, [0], F_wattleref01_Windows), (ID.plan_Span, [0, 0], F_plan_Span), (ID.wattleref01_Span, [0, 0], F_wattleref01_Span), (ID.plan_Cursor, [0], F_plan_Cursor), (ID.wattleref01_Cursor, [0], F_wattleref01_Cursor), (ID.wattlelaw18_wakes, [0], F_wattlelaw18_wakes)]) ann_wattlelaw18_PlanTells [0] ID.wattlelaw18_PlanTells [.int .i64 a0, .int .i64 a1, .int .i64 a2, .bool a3] = g_wattlelaw18_PlanTells F_wattleplay_Geom F_wattleplay_Pair F_plan_Rows F_wattleref01_Rows F_plan_Windows F_wattleref01_Windows F_plan_Span F_wattleref01_Span F_plan_Cursor F_wattleref01_Cursor F_wattlelaw18_wakes a0 a1 a2 a3 := by kernel_rfl
theorem F_wattlelaw18_PlanTells_eq (a0 : Int) (a1 : Int) (a2 : Int) (a3 : Bool) : F_wattlelaw18_PlanTells [.int .i64 a0, .int .i64 a1, .int .i64 a2, .bool a3] = g_wattlelaw18_PlanTells F_wattleplay_Geom F_wattleplay_Pair F_plan_Rows F_wattleref01_Rows F_plan_Windows F_wattleref01_Windows F_plan_Span F_wattleref01_Span F_plan_Cursor F_wattleref01_Cursor F_wattlelaw18_wakes a0 a1 a2 a3 := G_wattlelaw18_PlanTells F_wattleplay_Geom F_wattleplay_Pair F_plan_Rows F_wattleref01_Rows F_plan_Windows F_wattleref01_Windows F_plan_Span F_wattleref01_Span F_plan_Cursor F_wattleref01_Cursor F_wattlelaw18_wakes a0 a1 a2 a3
end Wf

/-
  Windows, as the document has them.
-/
namespace Wf
open Go Go.RowKit Go.Proofs
set_option linter.unusedSimpArgs false
set_option linter.unusedVariables false

set_option maxHeartbeats 1000000 in
theorem planTells (m n k : Int) (pair : Bool) : F_wattlelaw18_PlanTells [.int .i64 m, .int .i64 n, .int .i64 k, .bool pair] = some (.bool true) := by
  rw [F_wattlelaw18_PlanTells_eq]
  unfold g_wattlelaw18_PlanTells
  obtain ⟨⟨p1, p2, p3⟩, ⟨q1, q2, q3⟩, hp, _⟩ := pair_play m n
  rw [geom_play, geom_play, hp]
  obtain ⟨⟨a1, a2, a3⟩, ha⟩ : ∃ g, geomOf m = g := ⟨_, rfl⟩
  obtain ⟨⟨b1, b2, b3⟩, hb⟩ : ∃ g, geomOf n = g := ⟨_, rfl⟩
  rw [ha, hb]
  cases pair
  · simp only [bindK_some_eq, Geo.D, asAgg_agg, asTup_tup, getCells_int, getCells_any, getCells_nil, brK_false, plan_rows', ref_rows', plan_windows', ref_windows', iD, asI_int, bne_self_eq_false]
    refine loopN_spec (fun a => (19 - a.1.2.2.2.1).toNat) (fun _ => some (D.bool true)) (fun a => ∃ i : Int, -1 ≤ i ∧ i ≤ 19 ∧ a = ((k, (a1, a2, a3, PUnit.unit), (b1, b2, b3, PUnit.unit), i, PUnit.unit), PUnit.unit)) ?_ ⟨-1, by omega, by omega, rfl⟩ ?_
    rotate_left
    · simp
    rintro again _ ⟨i, h0, h1, rfl⟩ ih
    dsimp only
    by_cases hi : i < 19
    · have := ih _ ⟨i + 1, by omega, by omega, rfl⟩ (by dsimp only; omega)
      have w1 : IntKind.i64.wrap (i + 1) = i + 1 := wrap_fit (by omega) (by omega)
      simpa [hi, plan_span', ref_span', plan_cursor', ref_cursor', w1] using this
    · simp [hi, plan_span', ref_span', plan_cursor', ref_cursor', wakes18]
  · simp only [bindK_some_eq, Geo.D, asAgg_agg, asTup_tup, getCells_int, getCells_any, getCells_nil, brK_true, brK_false, plan_rows', ref_rows', plan_windows', ref_windows', iD, asI_int, bne_self_eq_false]
    refine loopN_spec (fun a => (19 - a.1.2.2.2.1).toNat) (fun _ => some (D.bool true)) (fun a => ∃ i : Int, -1 ≤ i ∧ i ≤ 19 ∧ a = ((k, (p1, p2, p3, PUnit.unit), (q1, q2, q3, PUnit.unit), i, PUnit.unit), PUnit.unit)) ?_ ⟨-1, by omega, by omega, rfl⟩ ?_
    rotate_left
    · simp
    rintro again _ ⟨i, h0, h1, rfl⟩ ih
    dsimp only
    by_cases hi : i < 19
    · have := ih _ ⟨i + 1, by omega, by omega, rfl⟩ (by dsimp only; omega)
      have w1 : IntKind.i64.wrap (i + 1) = i + 1 := wrap_fit (by omega) (by omega)
      simpa [hi, plan_span', ref_span', plan_cursor', ref_cursor', w1] using this
    · simp [hi, plan_span', ref_span', plan_cursor', ref_cursor', wakes18]
end Wf

