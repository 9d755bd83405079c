/-
  A law's function, read off.
-/
import Derived.Test.YtpdhbdacbiamdaaX
import Derived.Test.YtpdhbdacbiamdaaY
set_option linter.unusedVariables false
set_option linter.unusedSimpArgs false
set_option linter.unnecessarySimpa false
namespace Wf
open Go Go.RowKit Go.Proofs
def ann_wattlelaw07_GeomTells : Ann := []
noncomputable def F_wattlelaw07_GeomTells : List D → Option D := denP Try.prog (penv' [(ID.wattleplay_Geom, [0], F_wattleplay_Geom), (ID.wattleref01_Check, [0], F_wattleref01_Check), (ID.geom_Check, [0], F_geom_Check), (ID.geom_Budget, [0], F_geom_Budget), (ID.wattleref01_Budget, [0], F_wattleref01_Budget), (ID.geom_Width, [0], F_geom_Width), (ID.wattleref01_Width, [0], F_wattleref01_Width), (ID.geom_Capacity, [0], F_geom_Capacity), (ID.wattleref01_Capacity, [0], F_wattleref01_Capacity), (ID.geom_Can, [0], F_geom_Can), (ID.wattleref01_Can, [0], F_wattleref01_Can), (ID.wattlelaw07_wakes, [0], F_wattlelaw07_wakes)]) ann_wattlelaw07_GeomTells [0] ID.wattlelaw07_GeomTells
theorem sound_wattlelaw07_GeomTells : SoundP Try.prog ID.wattlelaw07_GeomTells [0] F_wattlelaw07_GeomTells := denP_sound (penv_ok [fact_wattleplay_Geom, fact_wattleref01_Check, fact_geom_Check, fact_geom_Budget, fact_wattleref01_Budget, fact_geom_Width, fact_wattleref01_Width, fact_geom_Capacity, fact_wattleref01_Capacity, fact_geom_Can, fact_wattleref01_Can, fact_wattlelaw07_wakes]) mixed ⟨Try.f4, by kernel_rfl, by kernel_rfl, by kernel_rfl⟩
noncomputable def fact_wattlelaw07_GeomTells : Fact Try.prog := ⟨ID.wattlelaw07_GeomTells, [0], F_wattlelaw07_GeomTells, sound_wattlelaw07_GeomTells⟩
noncomputable def g_wattlelaw07_GeomTells (F_wattleplay_Geom : List D → Option D) (F_wattleref01_Check : List D → Option D) (F_geom_Check : List D → Option D) (F_geom_Budget : List D → Option D) (F_wattleref01_Budget : List D → Option D) (F_geom_Width : List D → Option D) (F_wattleref01_Width : List D → Option D) (F_geom_Capacity : List D → Option D) (F_wattleref01_Capacity : List D → Option D) (F_geom_Can : List D → Option D) (F_wattleref01_Can : List D → Option D) (F_wattlelaw07_wakes : List D → Option D) (a0_0 : Int) (a0_1 : Int) (a0_2 : Int) (a1_0 : Int) (a1_1 : Int) (a1_2 : Int) (a2 : Int) (a3 : Int) (a4 : Bool) : Option D :=
  brK (!a4)
    (bindK (F_wattleplay_Geom [D.int IntKind.i64 a2]) fun r1 =>
    asAgg r1 fun cs2 =>
    getCells ([Lf.int IntKind.i64, Lf.int IntKind.i64, Lf.int IntKind.i64]) cs2 fun c3 =>
    bindK (F_wattleplay_Geom [D.int IntKind.i64 a3]) fun r4 =>
    asAgg r4 fun cs5 =>
    getCells ([Lf.int IntKind.i64, Lf.int IntKind.i64, Lf.int IntKind.i64]) cs5 fun c6 =>
    bindK (F_wattleref01_Check [D.agg [D.int IntKind.i64 c3.fst, D.int IntKind.i64 c3.snd.fst, D.int IntKind.i64 c3.snd.snd.fst]]) fun r7 =>
    asB r7 fun b8 =>
    brK (!b8)
      (bindK (F_geom_Check [D.agg [D.int IntKind.i64 c3.fst, D.int IntKind.i64 c3.snd.fst, D.int IntKind.i64 c3.snd.snd.fst]]) fun r9 =>
      asI IntKind.i64 r9 fun i10 =>
      brK (i10 == (1 : Int))
        (bindK (F_geom_Budget [D.agg [D.int IntKind.i64 c3.fst, D.int IntKind.i64 c3.snd.fst, D.int IntKind.i64 c3.snd.snd.fst]]) fun r11 =>
        asI IntKind.i64 r11 fun i12 =>
        bindK (F_wattleref01_Budget [D.agg [D.int IntKind.i64 c3.fst, D.int IntKind.i64 c3.snd.fst, D.int IntKind.i64 c3.snd.snd.fst]]) fun r13 =>
        asI IntKind.i64 r13 fun i14 =>
        brK (i12 == i14)
          (bindK (F_geom_Width [D.agg [D.int IntKind.i64 c3.fst, D.int IntKind.i64 c3.snd.fst, D.int IntKind.i64 c3.snd.snd.fst]]) fun r15 =>
          asI IntKind.i64 r15 fun i16 =>
          bindK (F_wattleref01_Width [D.agg [D.int IntKind.i64 c3.fst, D.int IntKind.i64 c3.snd.fst, D.int IntKind.i64 c3.snd.snd.fst]]) fun r17 =>
          asI IntKind.i64 r17 fun i18 =>
          brK (i16 == i18)
            (bindK (F_geom_Capacity [D.agg [D.int IntKind.i64 c3.fst, D.int IntKind.i64 c3.snd.fst, D.int IntKind.i64 c3.snd.snd.fst]]) fun r19 =>
            asI IntKind.i64 r19 fun i20 =>
            bindK (F_wattleref01_Capacity   [D.agg [D.int IntKind.i64 c3.fst, D.int IntKind.i64 c3.snd.fst, D.int IntKind.i64 c3.snd.snd.fst]]) fun r21 =>
            asI IntKind.i64 r21 fun i22 =>
            brK (i20 == i22)
              (bindK (F_geom_Can   [D.agg [D.int IntKind.i64 c3.fst, D.int IntKind.i64 c3.snd.fst, D.int IntKind.i64 c3.snd.snd.fst],     D.agg [D.int IntKind.i64 c6.fst, D.int IntKind.i64 c6.snd.fst, D.int IntKind.i64 c6.snd.snd.fst]]) fun r23 =>
              asB r23 fun b24 =>
              bindK (F_wattleref01_Can   [D.agg [D.int IntKind.i64 c3.fst, D.int IntKind.i64 c3.snd.fst, D.int IntKind.i64 c3.snd.snd.fst],     D.agg [D.int IntKind.i64 c6.fst, D.int IntKind.i64 c6.snd.fst, D.int IntKind.i64 c6.snd.snd.fst]]) fun r25 =>
              asB r25 fun b26 =>
              brK (b24 == b26)
                (bindK (F_wattlelaw07_wakes []) fun r27 =>
                asB r27 fun b28 =>
                some (D.bool b28))
                (some (D.bool false)))
              (some (D.bool false)))
            (some (D.bool false)))
          (some (D.bool false)))
        (some (D.bool false)))
      (bindK (F_geom_Check [D.agg [D.int IntKind.i64 c3.fst, D.int IntKind.i64 c3.snd.fst, D.int IntKind.i64 c3.snd.snd.fst]]) fun r29 =>
      asI IntKind.i64 r29 fun i30 =>
      brK (i30 == (0 : Int))
        (bindK (F_geom_Budget [D.agg [D.int IntKind.i64 c3.fst, D.int IntKind.i64 c3.snd.fst, D.int IntKind.i64 c3.snd.snd.fst]]) fun r31 =>
        asI IntKind.i64 r31 fun i32 =>
        bindK (F_wattleref01_Budget [D.agg [D.int IntKind.i64 c3.fst, D.int IntKind.i64 c3.snd.fst, D.int IntKind.i64 c3.snd.snd.fst]]) fun r33 =>
        asI IntKind.i64 r33 fun i34 =>
        brK (i32 == i34)
          (bindK (F_geom_Width [D.agg [D.int IntKind.i64 c3.fst, D.int IntKind.i64 c3.snd.fst, D.int IntKind.i64 c3.snd.snd.fst]]) fun r35 =>
          asI IntKind.i64 r35 fun i36 =>
          bindK (F_wattleref01_Width [D.agg [D.int IntKind.i64 c3.fst, D.int IntKind.i64 c3.snd.fst, D.int IntKind.i64 c3.snd.snd.fst]]) fun r37 =>
          asI IntKind.i64 r37 fun i38 =>
          brK (i36 == i38)
            (bindK (F_geom_Capacity [D.agg [D.int IntKind.i64 c3.fst, D.int IntKind.i64 c3.snd.fst, D.int IntKind.i64 c3.snd.snd.fst]]) fun r39 =>
            asI IntKind.i64 r39 fun i40 =>
            bindK (F_wattleref01_Capacity   [D.agg [D.int IntKind.i64 c3.fst, D.int IntKind.i64 c3.snd.fst, D.int IntKind.i64 c3.snd.snd.fst]]) fun r41 =>
            asI IntKind.i64 r41 fun i42 =>
            brK (i40 == i42)
              (bindK (F_geom_Can   [D.agg [D.int IntKind.i64 c3.fst, D.int IntKind.i64 c3.snd.fst, D.int IntKind.i64 c3.snd.snd.fst],     D.agg [D.int IntKind.i64 c6.fst, D.int IntKind.i64 c6.snd.fst, D.int IntKind.i64 c6.snd.snd.fst]]) fun r43 =>
              asB r43 fun b44 =>
              bindK (F_wattleref01_Can   [D.agg [D.int IntKind.i64 c3.fst, D.int IntKind.i64 c3.snd.fst, D.int IntKind.i64 c3.snd.snd.fst],     D.agg [D.int IntKind.i64 c6.fst, D.int IntKind.i64 c6.snd.fst, D.int IntKind.i64 c6.snd.snd.fst]]) fun r45 =>
              asB r45 fun b46 =>
              brK (b44 == b46)
                (bindK (F_wattlelaw07_wakes []) fun r47 =>
                asB r47 fun b48 =>
                some (D.bool b48))
                (some (D.bool false)))
              (some (D.bool false)))
            (some (D.bool false)))
          (some (D.bool false)))
        (some (D.bool false))))
    (bindK (F_wattleref01_Check [D.agg [D.int IntKind.i64 a0_0, D.int IntKind.i64 a0_1, D.int IntKind.i64 a0_2]]) fun r49 =>
    asB r49 fun b50 =>
    brK (!b50)
      (bindK (F_geom_Check [D.agg [D.int IntKind.i64 a0_0, D.int IntKind.i64 a0_1, D.int IntKind.i64 a0_2]]) fun r51 =>
      asI IntKind.i64 r51 fun i52 =>
      brK (i52 == (1 : Int))
        (bindK (F_geom_Budget [D.agg [D.int IntKind.i64 a0_0, D.int IntKind.i64 a0_1, D.int IntKind.i64 a0_2]]) fun r53 =>
        asI IntKind.i64 r53 fun i54 =>
        bindK (F_wattleref01_Budget [D.agg [D.int IntKind.i64 a0_0, D.int IntKind.i64 a0_1, D.int IntKind.i64 a0_2]]) fun r55 =>
        asI IntKind.i64 r55 fun i56 =>
        brK (i54 == i56)
          (bindK (F_geom_Width [D.agg [D.int IntKind.i64 a0_0, D.int IntKind.i64 a0_1, D.int IntKind.i64 a0_2]]) fun r57 =>
          asI IntKind.i64 r57 fun i58 =>
          bindK (F_wattleref01_Width [D.agg [D.int IntKind.i64 a0_0, D.int IntKind.i64 a0_1, D.int IntKind.i64 a0_2]]) fun r59 =>
          asI IntKind.i64 r59 fun i60 =>
          brK (i58 == i60)
            (bindK (F_geom_Capacity [D.agg [D.int IntKind.i64 a0_0, D.int IntKind.i64 a0_1, D.int IntKind.i64 a0_2]]) fun r61 =>
            asI IntKind.i64 r61 fun i62 =>
            bindK (F_wattleref01_Capacity [D.agg [D.int IntKind.i64 a0_0, D.int IntKind.i64 a0_1, D.int IntKind.i64 a0_2]]) fun r63 =>
            asI IntKind.i64 r63 fun i64 =>
            brK (i62 == i64)
              (bindK (F_geom_Can   [D.agg [D.int IntKind.i64 a0_0, D.int IntKind.i64 a0_1, D.int IntKind.i64 a0_2],     D.agg [D.int IntKind.i64 a1_0, D.int IntKind.i64 a1_1, D.int IntKind.i64 a1_2]]) fun r65 =>
              asB r65 fun b66 =>
              bindK (F_wattleref01_Can   [D.agg [D.int IntKind.i64 a0_0, D.int IntKind.i64 a0_1, D.int IntKind.i64 a0_2],     D.agg [D.int IntKind.i64 a1_0, D.int IntKind.i64 a1_1, D.int IntKind.i64 a1_2]]) fun r67 =>
              asB r67 fun b68 =>
              brK (b66 == b68)
                (bindK (F_wattlelaw07_wakes []) fun r69 =>
                asB r69 fun b70 =>
                some (D.bool b70))
                (some (D.bool false)))
              (some (D.bool false)))
            (some (D.bool false)))
          (some (D.bool false)))
        (some (D.bool false)))
      (bindK (F_geom_Check [D.agg [D.int IntKind.i64 a0_0, D.int IntKind.i64 a0_1, D.int IntKind.i64 a0_2]]) fun r71 =>
      asI IntKind.i64 r71 fun i72 =>
      brK (i72 == (0 : Int))
        (bindK (F_geom_Budget [D.agg [D.int IntKind.i64 a0_0, D.int IntKind.i64 a0_1, D.int IntKind.i64 a0_2]]) fun r73 =>
        asI IntKind.i64 r73 fun i74 =>
        bindK (F_wattleref01_Budget [D.agg [D.int IntKind.i64 a0_0, D.int IntKind.i64 a0_1, D.int IntKind.i64 a0_2]]) fun r75 =>
        asI IntKind.i64 r75 fun i76 =>
        brK (i74 == i76)
          (bindK (F_geom_Width [D.agg [D.int IntKind.i64 a0_0, D.int IntKind.i64 a0_1, D.int IntKind.i64 a0_2]]) fun r77 =>
          asI IntKind.i64 r77 fun i78 =>
          bindK (F_wattleref01_Width [D.agg [D.int IntKind.i64 a0_0, D.int IntKind.i64 a0_1, D.int IntKind.i64 a0_2]]) fun r79 =>
          asI IntKind.i64 r79 fun i80 =>
          brK (i78 == i80)
            (bindK (F_geom_Capacity [D.agg [D.int IntKind.i64 a0_0, D.int IntKind.i64 a0_1, D.int IntKind.i64 a0_2]]) fun r81 =>
            asI IntKind.i64 r81 fun i82 =>
            bindK (F_wattleref01_Capacity [D.agg [D.int IntKind.i64 a0_0, D.int IntKind.i64 a0_1, D.int IntKind.i64 a0_2]]) fun r83 =>
            asI IntKind.i64 r83 fun i84 =>
            brK (i82 == i84)
              (bindK (F_geom_Can   [D.agg [D.int IntKind.i64 a0_0, D.int IntKind.i64 a0_1, D.int IntKind.i64 a0_2],     D.agg [D.int IntKind.i64 a1_0, D.int IntKind.i64 a1_1, D.int IntKind.i64 a1_2]]) fun r85 =>
              asB r85 fun b86 =>
              bindK (F_wattleref01_Can   [D.agg [D.int IntKind.i64 a0_0, D.int IntKind.i64 a0_1, D.int IntKind.i64 a0_2],     D.agg [D.int IntKind.i64 a1_0, D.int IntKind.i64 a1_1, D.int IntKind.i64 a1_2]]) fun r87 =>
              asB r87 fun b88 =>
              brK (b86 == b88)
                (bindK (F_wattlelaw07_wakes []) fun r89 =>
                asB r89 fun b90 =>
                some (D.bool b90))
                (some (D.bool false)))
              (some (D.bool false)))
            (some (D.bool false)))
          (some (D.bool false)))
        (some (D.bool false))))
theorem G_wattlelaw07_GeomTells (F_wattleplay_Geom : List D → Option D) (F_wattleref01_Check : List D → Option D) (F_geom_Check : List D → Option D) (F_geom_Budget : List D → Option D) (F_wattleref01_Budget : List D → Option D) (F_geom_Width : List D → Option D) (F_wattleref01_Width : List D → Option D) (F_geom_Capacity : List D → Option D) (F_wattleref01_Capacity : List D → Option D) (F_geom_Can : List D → Option D) (F_wattleref01_Can : List D → Option D) (F_wattlelaw07_wakes : List D → Option D) (a0_0 : Int) (a0_1 : Int) (a0_2 : Int) (a1_0 : Int) (a1_1 : Int) (a1_2 : Int) (a2 : Int) (a3 : Int) (a4 : Bool) : denP Try.prog (penv' [(ID.wattleplay_Geom, [0], F_wattleplay_Geom), (ID.wattleref01_Check, [0], F_wattleref01_Check), (ID.geom_Check, [0], F_geom_Check), (ID.geom_Budget, [0], F_geom_Budget), (ID.wattleref01_Budget, [0], F_wattleref01_Budget), (ID.geom_Width, [0], F_geom_Width), (ID.wattleref01_Width, [0], F_wattleref01_Width), (ID.geom_Capacity, [0], F_geom_Capacity), (ID.wattleref01_Capacity, [0], F_wattleref01_Capacity), (ID.geom_Can, [0], F_geom_Can), (ID.wattleref01_Can, [0], F_wattleref01_Can), (ID.wattlelaw07_wakes, [0], F_wattlelaw07_wakes)]) ann_wattlelaw07_GeomTells [0] ID.wattlelaw07_GeomTells [.agg [.int .i64 a0_0, .int .i64 a0_1, .int .i64 a0_2], .agg [.int .i64 a1_0, .int .i64 a1_1, .int .i64 a1_2], .int .i64 a2, .int .i64 a3, .bool a4] = g_wattlelaw07_GeomTells F_wattleplay_Geom F_wattleref01_Check F_geom_Check F_geom_Budget F_wattleref01_Budget F_geom_Width F_wattleref01_Width F_geom_Capacity F_wattleref01_Capacity F_geom_Can F_wattleref01_Can F_wattlelaw07_wakes a0_0 a0_1 a0_2 a1_0 a1_1 a1_2 a2 a3 a4 := by kernel_rfl
theorem F_wattlelaw07_GeomTells_eq (a0_0 : Int) (a0_1 : Int) (a0_2 : Int) (a1_0 : Int) (a1_1 : Int) (a1_2 : Int) (a2 : Int) (a3 : Int) (a4 : Bool) : F_wattlelaw07_GeomTells [.agg [.int .i64 a0_0, .int .i64 a0_1, .int .i64 a0_2], .agg [.int .i64 a1_0, .int .i64 a1_1, .int .i64 a1_2], .int .i64 a2, .int .i64 a3, .bool a4] = g_wattlelaw07_GeomTells F_wattleplay_Geom F_wattleref01_Check F_geom_Check F_geom_Budget F_wattleref01_Budget F_geom_Width F_wattleref01_Width F_geom_Capacity F_wattleref01_Capacity F_geom_Can F_wattleref01_Can F_wattlelaw07_wakes a0_0 a0_1 a0_2 a1_0 a1_1 a1_2 a2 a3 a4 := G_wattlelaw07_GeomTells F_wattleplay_Geom F_wattleref01_Check F_geom_Check F_geom_Budget F_wattleref01_Budget F_geom_Width F_wattleref01_Width F_geom_Capacity F_wattleref01_Capacity F_geom_Can F_wattleref01_Can F_wattlelaw07_wakes a0_0 a0_1 a0_2 a1_0 a1_1 a1_2 a2 a3 a4
end Wf

/-
  Laws of geometry.
-/
namespace Wf
open Go Go.RowKit Go.Proofs
set_option linter.unusedSimpArgs false
set_option linter.unusedVariables false

theorem geomTells (l d c x y z m n : Int) (raw : Bool) : F_wattlelaw07_GeomTells [gD l d c, gD x y z, .int .i64 m, .int .i64 n, .bool raw] = some (.bool true) := by
  rw [F_wattlelaw07_GeomTells_eq]
  unfold g_wattlelaw07_GeomTells
  have key : ∀ (a b : Geo) (r : Option D), True := fun _ _ _ => trivial
  obtain ⟨⟨a1, a2, a3⟩, ha⟩ : ∃ g, geomOf m = g := ⟨_, rfl⟩
  obtain ⟨⟨b1, b2, b3⟩, hb⟩ : ∃ g, geomOf n = g := ⟨_, rfl⟩
  cases raw
  · simp only [geom_play, ha, hb, Geo.D]
    cases h : validG a1 a2 a3 <;> simp [check_ref, check_geom, budget_geom, budget_ref, width_geom, width_ref, capacity_geom, capacity_ref, can_geom, can_ref, wakes07, brK_eq, h]
  · cases h : validG l d c <;> simp [check_ref, check_geom, budget_geom, budget_ref, width_geom, width_ref, capacity_geom, capacity_ref, can_geom, can_ref, wakes07, brK_eq, h]
end Wf

