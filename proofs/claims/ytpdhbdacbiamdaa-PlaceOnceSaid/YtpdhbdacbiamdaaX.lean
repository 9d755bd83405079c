/-
  What the program's functions are called here.
-/
import Derived.Test.YtpdhbdacbiamdaaProg
import Derived.ProofKit
import Derived.Test.YtpdhbdacbiamdaaFe
set_option linter.unusedVariables false
set_option linter.unusedSimpArgs false
set_option linter.unnecessarySimpa false
namespace Wf
open Go Go.RowKit Go.Proofs
set_option linter.unusedVariables false
theorem mixed : Try.prog.follows .mixedOrders = true := by kernel_rfl
namespace ID
abbrev wattlekeep_Within : Nat := 36
abbrev wattleplay_Geom : Nat := 22
abbrev wattleref01_Check : Nat := 23
abbrev slices_Index_int_int : Nat := 57
abbrev slices_Contains_int_int : Nat := 52
abbrev geom_Check : Nat := 16
abbrev geom_Budget : Nat := 17
abbrev wattleref01_Budget : Nat := 24
abbrev geom_Width : Nat := 18
abbrev wattleref01_Width : Nat := 25
abbrev geom_Capacity : Nat := 19
abbrev wattleref01_Capacity : Nat := 26
abbrev geom_Can : Nat := 20
abbrev wattleref01_Can : Nat := 27
abbrev wattlelaw07_wakes : Nat := 21
abbrev wattlelaw07_GeomTells : Nat := 4
abbrev wattlelaw07_GeomForms : Nat := 3
abbrev wattleplay_Good : Nat := 28
abbrev wattlelaw07_GeomLaws : Nat := 5
abbrev wattleplay_Pair : Nat := 29
abbrev plan_Rows : Nat := 30
abbrev plan_Windows : Nat := 31
abbrev plan_Cursor : Nat := 32
abbrev wattleref01_fine : Nat := 55
abbrev wattleref01_Parity : Nat := 49
abbrev wattleref01_Disk : Nat := 50
abbrev wattleref01_Of : Nat := 33
abbrev wattlelaw18_wakes : Nat := 34
abbrev wattlelaw18_PlanCovers : Nat := 6
abbrev place_in : Nat := 53
abbrev place_Parity : Nat := 35
abbrev place_Disk : Nat := 48
abbrev place_Of : Nat := 37
abbrev wattlelaw08_wakes : Nat := 38
abbrev wattlelaw08_PlaceTurns : Nat := 7
abbrev plan_Span : Nat := 39
abbrev wattlelaw18_PlanForms : Nat := 8
abbrev wattlelaw18_PlanRises : Nat := 9
abbrev wattleref01_least : Nat := 54
abbrev wattleref01_Rows : Nat := 40
abbrev wattleref01_Windows : Nat := 41
abbrev wattleref01_Span : Nat := 42
abbrev wattleref01_Cursor : Nat := 43
abbrev wattlelaw18_PlanTells : Nat := 10
abbrev wattleref01_Numbers : Nat := 44
abbrev wattlelaw18_PlanSafe : Nat := 11
abbrev place_number : Nat := 56
abbrev place_Back : Nat := 45
abbrev wattlelaw08_PlaceOnce : Nat := 12
abbrev place_Numbers : Nat := 47
abbrev wattlekeep_Same_int : Nat := 46
abbrev wattlelaw08_PlaceForms : Nat := 13
abbrev wattleref01_Back : Nat := 51
abbrev wattlelaw08_PlaceTells : Nat := 14
abbrev wattlelaw08_PlaceRows : Nat := 15
end ID
end Wf

/-
  Functions, read off.
-/
namespace Wf
open Go Go.RowKit Go.Proofs
set_option linter.unusedVariables false
def ann_wattlekeep_Within : Ann := []
noncomputable def F_wattlekeep_Within : List D → Option D := denP Try.prog (penv' []) ann_wattlekeep_Within [0] ID.wattlekeep_Within
theorem sound_wattlekeep_Within : SoundP Try.prog ID.wattlekeep_Within [0] F_wattlekeep_Within := denP_sound (penv_ok []) mixed ⟨Try.f36, by kernel_rfl, by kernel_rfl, by kernel_rfl⟩
noncomputable def fact_wattlekeep_Within : Fact Try.prog := ⟨ID.wattlekeep_Within, [0], F_wattlekeep_Within, sound_wattlekeep_Within⟩
noncomputable def g_wattlekeep_Within (a0 : Int) (a1 : Int) : Option D :=
  brK (decide (a1 < (1 : Int)))
    (some (D.int IntKind.i64 (0 : Int)))
    (sif (a1 ≠ (0 : Int)) <|
    letN (Int.tmod a0 a1) fun n1 =>
    brK (decide (n1 < (0 : Int)))
      (letN (IntKind.wrap IntKind.i64 (n1 + a1)) fun n2 =>
      some (D.int IntKind.i64 n2))
      (some (D.int IntKind.i64 n1)))
theorem G_wattlekeep_Within (a0 : Int) (a1 : Int) : denP Try.prog (penv' []) ann_wattlekeep_Within [0] ID.wattlekeep_Within [.int .i64 a0, .int .i64 a1] = g_wattlekeep_Within a0 a1 := by kernel_rfl
theorem F_wattlekeep_Within_eq (a0 : Int) (a1 : Int) : F_wattlekeep_Within [.int .i64 a0, .int .i64 a1] = g_wattlekeep_Within a0 a1 := G_wattlekeep_Within a0 a1
def ann_wattleplay_Geom : Ann := []
noncomputable def F_wattleplay_Geom : List D → Option D := denP Try.prog (penv' [(ID.wattlekeep_Within, [0], F_wattlekeep_Within)]) ann_wattleplay_Geom [0] ID.wattleplay_Geom
theorem sound_wattleplay_Geom : SoundP Try.prog ID.wattleplay_Geom [0] F_wattleplay_Geom := denP_sound (penv_ok [fact_wattlekeep_Within]) mixed ⟨Try.f22, by kernel_rfl, by kernel_rfl, by kernel_rfl⟩
noncomputable def fact_wattleplay_Geom : Fact Try.prog := ⟨ID.wattleplay_Geom, [0], F_wattleplay_Geom, sound_wattleplay_Geom⟩
noncomputable def g_wattleplay_Geom (F_wattlekeep_Within : List D → Option D) (a0 : Int) : Option D :=
  bindK (F_wattlekeep_Within [D.int IntKind.i64 a0, D.int IntKind.i64 (2 : Int)]) fun r1 =>
  asI IntKind.i64 r1 fun i2 =>
  letN (IntKind.wrap IntKind.i64 ((5 : Int) + i2)) fun n3 =>
  letN (IntKind.wrap IntKind.i64 (Int.tdiv a0 (2 : Int))) fun n4 =>
  bindK (F_wattlekeep_Within [D.int IntKind.i64 n4, D.int IntKind.i64 (3 : Int)]) fun r5 =>
  asI IntKind.i64 r5 fun i6 =>
  sif ((0 : Int) ≤ i6) <|
  getK ([D.int IntKind.i64 (1 : Int), D.int IntKind.i64 (2 : Int), D.int IntKind.i64 (4 : Int)]) (Int.toNat i6) fun d7 =>
  asI IntKind.i64 d7 fun i8 =>
  letN (IntKind.wrap IntKind.i64 (Int.tdiv a0 (6 : Int))) fun n9 =>
  bindK (F_wattlekeep_Within [D.int IntKind.i64 n9, D.int IntKind.i64 (4 : Int)]) fun r10 =>
  asI IntKind.i64 r10 fun i11 =>
  letN (IntKind.wrap IntKind.i64 ((3 : Int) + i11)) fun n12 =>
  brK (n3 == (6 : Int))
    (letN (IntKind.wrap IntKind.i64 (Int.tdiv a0 (6 : Int))) fun n13 =>
    bindK (F_wattlekeep_Within [D.int IntKind.i64 n13, D.int IntKind.i64 (4 : Int)]) fun r14 =>
    asI IntKind.i64 r14 fun i15 =>
    letN (IntKind.wrap IntKind.i64 ((4 : Int) + i15)) fun n16 =>
    letN (IntKind.wrap IntKind.i64 (Int.tdiv a0 (24 : Int))) fun n17 =>
    bindK (F_wattlekeep_Within [D.int IntKind.i64 n17, D.int IntKind.i64 (40 : Int)]) fun r18 =>
    asI IntKind.i64 r18 fun i19 =>
    brK (i19 == (36 : Int))
      (bindK (F_wattlekeep_Within [D.int IntKind.i64 a0, D.int IntKind.i64 (9 : Int)]) fun r20 =>
      asI IntKind.i64 r20 fun i21 =>
      some (D.agg [D.int IntKind.i64 i21, D.int IntKind.i64 n16, D.int IntKind.i64 i8]))
      (brK (i19 == (37 : Int))
        (bindK (F_wattlekeep_Within [D.int IntKind.i64 a0, D.int IntKind.i64 (12 : Int)]) fun r22 =>
        asI IntKind.i64 r22 fun i23 =>
        letN (IntKind.wrap IntKind.i64 (i23 - (1 : Int))) fun n24 =>
        some (D.agg [D.int IntKind.i64 n3, D.int IntKind.i64 n24, D.int IntKind.i64 i8]))
        (brK (i19 == (38 : Int))
          (bindK (F_wattlekeep_Within [D.int IntKind.i64 a0, D.int IntKind.i64 (9 : Int)]) fun r25 =>
          asI IntKind.i64 r25 fun i26 =>
          letN (IntKind.wrap IntKind.i64 (i26 - (1 : Int))) fun n27 =>
          some (D.agg [D.int IntKind.i64 n3, D.int IntKind.i64 n16, D.int IntKind.i64 n27]))
          (brK (i19 == (39 : Int))
            (some (D.agg [D.int IntKind.i64 n3, D.int IntKind.i64 (8 : Int), D.int IntKind.i64 i8]))
            (some (D.agg [D.int IntKind.i64 n3, D.int IntKind.i64 n16, D.int IntKind.i64 i8]))))))
    (letN (IntKind.wrap IntKind.i64 (Int.tdiv a0 (24 : Int))) fun n28 =>
    bindK (F_wattlekeep_Within [D.int IntKind.i64 n28, D.int IntKind.i64 (40 : Int)]) fun r29 =>
    asI IntKind.i64 r29 fun i30 =>
    brK (i30 == (36 : Int))
      (bindK (F_wattlekeep_Within [D.int IntKind.i64 a0, D.int IntKind.i64 (9 : Int)]) fun r31 =>
      asI IntKind.i64 r31 fun i32 =>
      some (D.agg [D.int IntKind.i64 i32, D.int IntKind.i64 n12, D.int IntKind.i64 i8]))
      (brK (i30 == (37 : Int))
        (bindK (F_wattlekeep_Within [D.int IntKind.i64 a0, D.int IntKind.i64 (12 : Int)]) fun r33 =>
        asI IntKind.i64 r33 fun i34 =>
        letN (IntKind.wrap IntKind.i64 (i34 - (1 : Int))) fun n35 =>
        some (D.agg [D.int IntKind.i64 n3, D.int IntKind.i64 n35, D.int IntKind.i64 i8]))
        (brK (i30 == (38 : Int))
          (bindK (F_wattlekeep_Within [D.int IntKind.i64 a0, D.int IntKind.i64 (9 : Int)]) fun r36 =>
          asI IntKind.i64 r36 fun i37 =>
          letN (IntKind.wrap IntKind.i64 (i37 - (1 : Int))) fun n38 =>
          some (D.agg [D.int IntKind.i64 n3, D.int IntKind.i64 n12, D.int IntKind.i64 n38]))
          (brK (i30 == (39 : Int))
            (some (D.agg [D.int IntKind.i64 n3, D.int IntKind.i64 (8 : Int), D.int IntKind.i64 i8]))
            (some (D.agg [D.int IntKind.i64 n3, D.int IntKind.i64 n12, D.int IntKind.i64 i8]))))))
theorem G_wattleplay_Geom (F_wattlekeep_Within : List D → Option D) (a0 : Int) : denP Try.prog (penv' [(ID.wattlekeep_Within, [0], F_wattlekeep_Within)]) ann_wattleplay_Geom [0] ID.wattleplay_Geom [.int .i64 a0] = g_wattleplay_Geom F_wattlekeep_Within a0 := by kernel_rfl
theorem F_wattleplay_Geom_eq (a0 : Int) : F_wattleplay_Geom [.int .i64 a0] = g_wattleplay_Geom F_wattlekeep_Within a0 := G_wattleplay_Geom F_wattlekeep_Within a0
def ann_wattleref01_Check : Ann := []
noncomputable def F_wattleref01_Check : List D → Option D := denP Try.prog (penv' []) ann_wattleref01_Check [0] ID.wattleref01_Check
theorem sound_wattleref01_Check : SoundP Try.prog ID.wattleref01_Check [0] F_wattleref01_Check := denP_sound (penv_ok []) mixed ⟨Try.f23, by kernel_rfl, by kernel_rfl, by kernel_rfl⟩
noncomputable def fact_wattleref01_Check : Fact Try.prog := ⟨ID.wattleref01_Check, [0], F_wattleref01_Check, sound_wattleref01_Check⟩
noncomputable def g_wattleref01_Check (a0_0 : Int) (a0_1 : Int) (a0_2 : Int) : Option D :=
  brK (a0_0 == (6 : Int))
    (brK (a0_0 == (5 : Int))
      (brK (decide (a0_1 ≥ (4 : Int)))
        (brK (decide (a0_1 ≤ (8 : Int)))
          (brK (a0_2 == (1 : Int))
            (some (D.bool true))
            (brK (a0_2 == (2 : Int))
              (some (D.bool true))
              (some (D.bool (a0_2 == (4 : Int))))))
          (some (D.bool false)))
        (some (D.bool false)))
      (brK (a0_0 == (6 : Int))
        (brK (decide (a0_1 ≥ (4 : Int)))
          (brK (decide (a0_1 ≤ (8 : Int)))
            (brK (a0_2 == (1 : Int))
              (some (D.bool true))
              (brK (a0_2 == (2 : Int))
                (some (D.bool true))
                (some (D.bool (a0_2 == (4 : Int))))))
            (some (D.bool false)))
          (some (D.bool false)))
        (some (D.bool false))))
    (brK (a0_0 == (5 : Int))
      (brK (decide (a0_1 ≥ (3 : Int)))
        (brK (decide (a0_1 ≤ (8 : Int)))
          (brK (a0_2 == (1 : Int))
            (some (D.bool true))
            (brK (a0_2 == (2 : Int))
              (some (D.bool true))
              (some (D.bool (a0_2 == (4 : Int))))))
          (some (D.bool false)))
        (some (D.bool false)))
      (brK (a0_0 == (6 : Int))
        (brK (decide (a0_1 ≥ (3 : Int)))
          (brK (decide (a0_1 ≤ (8 : Int)))
            (brK (a0_2 == (1 : Int))
              (some (D.bool true))
              (brK (a0_2 == (2 : Int))
                (some (D.bool true))
                (some (D.bool (a0_2 == (4 : Int))))))
            (some (D.bool false)))
          (some (D.bool false)))
        (some (D.bool false))))
theorem G_wattleref01_Check (a0_0 : Int) (a0_1 : Int) (a0_2 : Int) : denP Try.prog (penv' []) ann_wattleref01_Check [0] ID.wattleref01_Check [.agg [.int .i64 a0_0, .int .i64 a0_1, .int .i64 a0_2]] = g_wattleref01_Check a0_0 a0_1 a0_2 := by kernel_rfl
theorem F_wattleref01_Check_eq (a0_0 : Int) (a0_1 : Int) (a0_2 : Int) : F_wattleref01_Check [.agg [.int .i64 a0_0, .int .i64 a0_1, .int .i64 a0_2]] = g_wattleref01_Check a0_0 a0_1 a0_2 := G_wattleref01_Check a0_0 a0_1 a0_2
def ann_slices_Index_int_int : Ann := [(0, [.val (.cell .lent), .val (.cell (.int .i64)), .dead, .dead, .dead, .dead, .dead, .val (.cell (.int .i64)), .val (.cell (.int .i64))])]
noncomputable def F_slices_Index_int_int : List D → Option D := denP Try.prog (penv' []) ann_slices_Index_int_int [0] ID.slices_Index_int_int
theorem sound_slices_Index_int_int : SoundP Try.prog ID.slices_Index_int_int [0] F_slices_Index_int_int := denP_sound (penv_ok []) mixed ⟨Try.f57, by kernel_rfl, by kernel_rfl, by kernel_rfl⟩
noncomputable def fact_slices_Index_int_int : Fact Try.prog := ⟨ID.slices_Index_int_int, [0], F_slices_Index_int_int, sound_slices_Index_int_int⟩
noncomputable def g_slices_Index_int_int (a0 : List D) (a1 : Int) : Option D :=
  loopN (α := (List D × Int × Int × Int × PUnit) × PUnit) (fun again1 ((l2, (i3, (i4, (i5, _)))), _) =>
    brK (decide (i5 < i4))
      (sif ((0 : Int) ≤ i5) <|
      getK l2 (Int.toNat i5) fun d6 =>
      asI IntKind.i64 d6 fun i7 =>
      brK (i3 == i7)
        (some (D.int IntKind.i64 i5))
        (letN (IntKind.wrap IntKind.i64 (i5 + (1 : Int))) fun n8 =>
        again1 (((l2, i3, i4, n8, PUnit.unit), PUnit.unit))))
      (some (D.int IntKind.i64 (-1 : Int))))
    (((a0, a1, (↑(List.length a0) : Int), (0 : Int), PUnit.unit), PUnit.unit))
theorem G_slices_Index_int_int (tga0 : Tag) (a0 : List D) (a1 : Int) : denP Try.prog (penv' []) ann_slices_Index_int_int [0] ID.slices_Index_int_int [.sl tga0 a0, .int .i64 a1] = g_slices_Index_int_int (D.lentL a0) a1 := by kernel_rfl
theorem F_slices_Index_int_int_eq (tga0 : Tag) (a0 : List D) (a1 : Int) : F_slices_Index_int_int [.sl tga0 a0, .int .i64 a1] = g_slices_Index_int_int (D.lentL a0) a1 := G_slices_Index_int_int tga0 a0 a1
def ann_slices_Contains_int_int : Ann := []
noncomputable def F_slices_Contains_int_int : List D → Option D := denP Try.prog (penv' [(ID.slices_Index_int_int, [0], F_slices_Index_int_int)]) ann_slices_Contains_int_int [0] ID.slices_Contains_int_int
theorem sound_slices_Contains_int_int : SoundP Try.prog ID.slices_Contains_int_int [0] F_slices_Contains_int_int := denP_sound (penv_ok [fact_slices_Index_int_int]) mixed ⟨Try.f52, by kernel_rfl, by kernel_rfl, by kernel_rfl⟩
noncomputable def fact_slices_Contains_int_int : Fact Try.prog := ⟨ID.slices_Contains_int_int, [0], F_slices_Contains_int_int, sound_slices_Contains_int_int⟩
noncomputable def g_slices_Contains_int_int (F_slices_Index_int_int : List D → Option D) (a0 : List D) (a1 : Int) : Option D :=
  bindK (F_slices_Index_int_int [D.sl Tag.lent a0, D.int IntKind.i64 a1]) fun r1 =>
  asI IntKind.i64 r1 fun i2 =>
  some (D.bool (decide (i2 ≥ (0 : Int))))
theorem G_slices_Contains_int_int (F_slices_Index_int_int : List D → Option D) (tga0 : Tag) (a0 : List D) (a1 : Int) : denP Try.prog (penv' [(ID.slices_Index_int_int, [0], F_slices_Index_int_int)]) ann_slices_Contains_int_int [0] ID.slices_Contains_int_int [.sl tga0 a0, .int .i64 a1] = g_slices_Contains_int_int F_slices_Index_int_int (D.lentL a0) a1 := by kernel_rfl
theorem F_slices_Contains_int_int_eq (tga0 : Tag) (a0 : List D) (a1 : Int) : F_slices_Contains_int_int [.sl tga0 a0, .int .i64 a1] = g_slices_Contains_int_int F_slices_Index_int_int (D.lentL a0) a1 := G_slices_Contains_int_int F_slices_Index_int_int tga0 a0 a1
def ann_geom_Check : Ann := []
noncomputable def F_geom_Check : List D → Option D := denP Try.prog (penv' [(ID.slices_Contains_int_int, [0], F_slices_Contains_int_int)]) ann_geom_Check [0] ID.geom_Check
theorem sound_geom_Check : SoundP Try.prog ID.geom_Check [0] F_geom_Check := denP_sound (penv_ok [fact_slices_Contains_int_int]) mixed ⟨Try.f16, by kernel_rfl, by kernel_rfl, by kernel_rfl⟩
noncomputable def fact_geom_Check : Fact Try.prog := ⟨ID.geom_Check, [0], F_geom_Check, sound_geom_Check⟩
noncomputable def g_geom_Check (F_slices_Contains_int_int : List D → Option D) (a0_0 : Int) (a0_1 : Int) (a0_2 : Int) : Option D :=
  asI IntKind.i64 (lookD a0_0 (D.int IntKind.i64 (0 : Int))   (setD (6 : Int) (D.int IntKind.i64 (4 : Int)) (setD (5 : Int) (D.int IntKind.i64 (3 : Int)) []))) fun i1 =>
  brK (i1 == (0 : Int))
    (some (D.int IntKind.i64 (1 : Int)))
    (brK (decide (a0_1 < i1))
      (some (D.int IntKind.i64 (1 : Int)))
      (brK (decide (a0_1 > (8 : Int)))
        (some (D.int IntKind.i64 (1 : Int)))
        (bindK (F_slices_Contains_int_int   [D.sl Tag.full [D.int IntKind.i64 (1 : Int), D.int IntKind.i64 (2 : Int), D.int IntKind.i64 (4 : Int)],     D.int IntKind.i64 a0_2]) fun r2 =>
        asB r2 fun b3 =>
        brK (!b3)
          (some (D.int IntKind.i64 (1 : Int)))
          (some (D.int IntKind.i64 (0 : Int))))))
theorem G_geom_Check (F_slices_Contains_int_int : List D → Option D) (a0_0 : Int) (a0_1 : Int) (a0_2 : Int) : denP Try.prog (penv' [(ID.slices_Contains_int_int, [0], F_slices_Contains_int_int)]) ann_geom_Check [0] ID.geom_Check [.agg [.int .i64 a0_0, .int .i64 a0_1, .int .i64 a0_2]] = g_geom_Check F_slices_Contains_int_int a0_0 a0_1 a0_2 := by kernel_rfl
theorem F_geom_Check_eq (a0_0 : Int) (a0_1 : Int) (a0_2 : Int) : F_geom_Check [.agg [.int .i64 a0_0, .int .i64 a0_1, .int .i64 a0_2]] = g_geom_Check F_slices_Contains_int_int a0_0 a0_1 a0_2 := G_geom_Check F_slices_Contains_int_int a0_0 a0_1 a0_2
def ann_geom_Budget : Ann := []
noncomputable def F_geom_Budget : List D → Option D := denP Try.prog (penv' [(ID.geom_Check, [0], F_geom_Check)]) ann_geom_Budget [0] ID.geom_Budget
theorem sound_geom_Budget : SoundP Try.prog ID.geom_Budget [0] F_geom_Budget := denP_sound (penv_ok [fact_geom_Check]) mixed ⟨Try.f17, by kernel_rfl, by kernel_rfl, by kernel_rfl⟩
noncomputable def fact_geom_Budget : Fact Try.prog := ⟨ID.geom_Budget, [0], F_geom_Budget, sound_geom_Budget⟩
noncomputable def g_geom_Budget (F_geom_Check : List D → Option D) (a0_0 : Int) (a0_1 : Int) (a0_2 : Int) : Option D :=
  bindK (F_geom_Check [D.agg [D.int IntKind.i64 a0_0, D.int IntKind.i64 a0_1, D.int IntKind.i64 a0_2]]) fun r1 =>
  asI IntKind.i64 r1 fun i2 =>
  brK (i2 != (0 : Int))
    (some (D.int IntKind.i64 (0 : Int)))
    (letN (IntKind.wrap IntKind.i64 (a0_0 - (4 : Int))) fun n3 =>
    some (D.int IntKind.i64 n3))
theorem G_geom_Budget (F_geom_Check : List D → Option D) (a0_0 : Int) (a0_1 : Int) (a0_2 : Int) : denP Try.prog (penv' [(ID.geom_Check, [0], F_geom_Check)]) ann_geom_Budget [0] ID.geom_Budget [.agg [.int .i64 a0_0, .int .i64 a0_1, .int .i64 a0_2]] = g_geom_Budget F_geom_Check a0_0 a0_1 a0_2 := by kernel_rfl
theorem F_geom_Budget_eq (a0_0 : Int) (a0_1 : Int) (a0_2 : Int) : F_geom_Budget [.agg [.int .i64 a0_0, .int .i64 a0_1, .int .i64 a0_2]] = g_geom_Budget F_geom_Check a0_0 a0_1 a0_2 := G_geom_Budget F_geom_Check a0_0 a0_1 a0_2
def ann_wattleref01_Budget : Ann := []
noncomputable def F_wattleref01_Budget : List D → Option D := denP Try.prog (penv' [(ID.wattleref01_Check, [0], F_wattleref01_Check)]) ann_wattleref01_Budget [0] ID.wattleref01_Budget
theorem sound_wattleref01_Budget : SoundP Try.prog ID.wattleref01_Budget [0] F_wattleref01_Budget := denP_sound (penv_ok [fact_wattleref01_Check]) mixed ⟨Try.f24, by kernel_rfl, by kernel_rfl, by kernel_rfl⟩
noncomputable def fact_wattleref01_Budget : Fact Try.prog := ⟨ID.wattleref01_Budget, [0], F_wattleref01_Budget, sound_wattleref01_Budget⟩
noncomputable def g_wattleref01_Budget (F_wattleref01_Check : List D → Option D) (a0_0 : Int) (a0_1 : Int) (a0_2 : Int) : Option D :=
  bindK (F_wattleref01_Check [D.agg [D.int IntKind.i64 a0_0, D.int IntKind.i64 a0_1, D.int IntKind.i64 a0_2]]) fun r1 =>
  asB r1 fun b2 =>
  brK (!b2)
    (some (D.int IntKind.i64 (0 : Int)))
    (letN (IntKind.wrap IntKind.i64 (a0_0 - (4 : Int))) fun n3 =>
    some (D.int IntKind.i64 n3))
theorem G_wattleref01_Budget (F_wattleref01_Check : List D → Option D) (a0_0 : Int) (a0_1 : Int) (a0_2 : Int) : denP Try.prog (penv' [(ID.wattleref01_Check, [0], F_wattleref01_Check)]) ann_wattleref01_Budget [0] ID.wattleref01_Budget [.agg [.int .i64 a0_0, .int .i64 a0_1, .int .i64 a0_2]] = g_wattleref01_Budget F_wattleref01_Check a0_0 a0_1 a0_2 := by kernel_rfl
theorem F_wattleref01_Budget_eq (a0_0 : Int) (a0_1 : Int) (a0_2 : Int) : F_wattleref01_Budget [.agg [.int .i64 a0_0, .int .i64 a0_1, .int .i64 a0_2]] = g_wattleref01_Budget F_wattleref01_Check a0_0 a0_1 a0_2 := G_wattleref01_Budget F_wattleref01_Check a0_0 a0_1 a0_2
def ann_geom_Width : Ann := []
noncomputable def F_geom_Width : List D → Option D := denP Try.prog (penv' [(ID.geom_Check, [0], F_geom_Check), (ID.geom_Budget, [0], F_geom_Budget)]) ann_geom_Width [0] ID.geom_Width
theorem sound_geom_Width : SoundP Try.prog ID.geom_Width [0] F_geom_Width := denP_sound (penv_ok [fact_geom_Check, fact_geom_Budget]) mixed ⟨Try.f18, by kernel_rfl, by kernel_rfl, by kernel_rfl⟩
noncomputable def fact_geom_Width : Fact Try.prog := ⟨ID.geom_Width, [0], F_geom_Width, sound_geom_Width⟩
noncomputable def g_geom_Width (F_geom_Check : List D → Option D) (F_geom_Budget : List D → Option D) (a0_0 : Int) (a0_1 : Int) (a0_2 : Int) : Option D :=
  bindK (F_geom_Check [D.agg [D.int IntKind.i64 a0_0, D.int IntKind.i64 a0_1, D.int IntKind.i64 a0_2]]) fun r1 =>
  asI IntKind.i64 r1 fun i2 =>
  brK (i2 != (0 : Int))
    (some (D.int IntKind.i64 (0 : Int)))
    (bindK (F_geom_Budget [D.agg [D.int IntKind.i64 a0_0, D.int IntKind.i64 a0_1, D.int IntKind.i64 a0_2]]) fun r3 =>
    asI IntKind.i64 r3 fun i4 =>
    letN (IntKind.wrap IntKind.i64 (a0_1 - i4)) fun n5 =>
    some (D.int IntKind.i64 n5))
theorem G_geom_Width (F_geom_Check : List D → Option D) (F_geom_Budget : List D → Option D) (a0_0 : Int) (a0_1 : Int) (a0_2 : Int) : denP Try.prog (penv' [(ID.geom_Check, [0], F_geom_Check), (ID.geom_Budget, [0], F_geom_Budget)]) ann_geom_Width [0] ID.geom_Width [.agg [.int .i64 a0_0, .int .i64 a0_1, .int .i64 a0_2]] = g_geom_Width F_geom_Check F_geom_Budget a0_0 a0_1 a0_2 := by kernel_rfl
theorem F_geom_Width_eq (a0_0 : Int) (a0_1 : Int) (a0_2 : Int) : F_geom_Width [.agg [.int .i64 a0_0, .int .i64 a0_1, .int .i64 a0_2]] = g_geom_Width F_geom_Check F_geom_Budget a0_0 a0_1 a0_2 := G_geom_Width F_geom_Check F_geom_Budget a0_0 a0_1 a0_2
def ann_wattleref01_Width : Ann := []
noncomputable def F_wattleref01_Width : List D → Option D := denP Try.prog (penv' [(ID.wattleref01_Check, [0], F_wattleref01_Check), (ID.wattleref01_Budget, [0], F_wattleref01_Budget)]) ann_wattleref01_Width [0] ID.wattleref01_Width
theorem sound_wattleref01_Width : SoundP Try.prog ID.wattleref01_Width [0] F_wattleref01_Width := denP_sound (penv_ok [fact_wattleref01_Check, fact_wattleref01_Budget]) mixed ⟨Try.f25, by kernel_rfl, by kernel_rfl, by kernel_rfl⟩
noncomputable def fact_wattleref01_Width : Fact Try.prog := ⟨ID.wattleref01_Width, [0], F_wattleref01_Width, sound_wattleref01_Width⟩
noncomputable def g_wattleref01_Width (F_wattleref01_Check : List D → Option D) (F_wattleref01_Budget : List D → Option D) (a0_0 : Int) (a0_1 : Int) (a0_2 : Int) : Option D :=
  bindK (F_wattleref01_Check [D.agg [D.int IntKind.i64 a0_0, D.int IntKind.i64 a0_1, D.int IntKind.i64 a0_2]]) fun r1 =>
  asB r1 fun b2 =>
  brK (!b2)
    (some (D.int IntKind.i64 (0 : Int)))
    (bindK (F_wattleref01_Budget [D.agg [D.int IntKind.i64 a0_0, D.int IntKind.i64 a0_1, D.int IntKind.i64 a0_2]]) fun r3 =>
    asI IntKind.i64 r3 fun i4 =>
    letN (IntKind.wrap IntKind.i64 (a0_1 - i4)) fun n5 =>
    some (D.int IntKind.i64 n5))
theorem G_wattleref01_Width (F_wattleref01_Check : List D → Option D) (F_wattleref01_Budget : List D → Option D) (a0_0 : Int) (a0_1 : Int) (a0_2 : Int) : denP Try.prog (penv' [(ID.wattleref01_Check, [0], F_wattleref01_Check), (ID.wattleref01_Budget, [0], F_wattleref01_Budget)]) ann_wattleref01_Width [0] ID.wattleref01_Width [.agg [.int .i64 a0_0, .int .i64 a0_1, .int .i64 a0_2]] = g_wattleref01_Width F_wattleref01_Check F_wattleref01_Budget a0_0 a0_1 a0_2 := by kernel_rfl
theorem F_wattleref01_Width_eq (a0_0 : Int) (a0_1 : Int) (a0_2 : Int) : F_wattleref01_Width [.agg [.int .i64 a0_0, .int .i64 a0_1, .int .i64 a0_2]] = g_wattleref01_Width F_wattleref01_Check F_wattleref01_Budget a0_0 a0_1 a0_2 := G_wattleref01_Width F_wattleref01_Check F_wattleref01_Budget a0_0 a0_1 a0_2
def ann_geom_Capacity : Ann := []
noncomputable def F_geom_Capacity : List D → Option D := denP Try.prog (penv' [(ID.geom_Width, [0], F_geom_Width)]) ann_geom_Capacity [0] ID.geom_Capacity
theorem sound_geom_Capacity : SoundP Try.prog ID.geom_Capacity [0] F_geom_Capacity := denP_sound (penv_ok [fact_geom_Width]) mixed ⟨Try.f19, by kernel_rfl, by kernel_rfl, by kernel_rfl⟩
noncomputable def fact_geom_Capacity : Fact Try.prog := ⟨ID.geom_Capacity, [0], F_geom_Capacity, sound_geom_Capacity⟩
noncomputable def g_geom_Capacity (F_geom_Width : List D → Option D) (a0_0 : Int) (a0_1 : Int) (a0_2 : Int) : Option D :=
  bindK (F_geom_Width [D.agg [D.int IntKind.i64 a0_0, D.int IntKind.i64 a0_1, D.int IntKind.i64 a0_2]]) fun r1 =>
  asI IntKind.i64 r1 fun i2 =>
  letN (IntKind.wrap IntKind.i64 (i2 * (16 : Int))) fun n3 =>
  some (D.int IntKind.i64 n3)
theorem G_geom_Capacity (F_geom_Width : List D → Option D) (a0_0 : Int) (a0_1 : Int) (a0_2 : Int) : denP Try.prog (penv' [(ID.geom_Width, [0], F_geom_Width)]) ann_geom_Capacity [0] ID.geom_Capacity [.agg [.int .i64 a0_0, .int .i64 a0_1, .int .i64 a0_2]] = g_geom_Capacity F_geom_Width a0_0 a0_1 a0_2 := by kernel_rfl
theorem F_geom_Capacity_eq (a0_0 : Int) (a0_1 : Int) (a0_2 : Int) : F_geom_Capacity [.agg [.int .i64 a0_0, .int .i64 a0_1, .int .i64 a0_2]] = g_geom_Capacity F_geom_Width a0_0 a0_1 a0_2 := G_geom_Capacity F_geom_Width a0_0 a0_1 a0_2
def ann_wattleref01_Capacity : Ann := []
noncomputable def F_wattleref01_Capacity : List D → Option D := denP Try.prog (penv' [(ID.wattleref01_Width, [0], F_wattleref01_Width)]) ann_wattleref01_Capacity [0] ID.wattleref01_Capacity
theorem sound_wattleref01_Capacity : SoundP Try.prog ID.wattleref01_Capacity [0] F_wattleref01_Capacity := denP_sound (penv_ok [fact_wattleref01_Width]) mixed ⟨Try.f26, by kernel_rfl, by kernel_rfl, by kernel_rfl⟩
noncomputable def fact_wattleref01_Capacity : Fact Try.prog := ⟨ID.wattleref01_Capacity, [0], F_wattleref01_Capacity, sound_wattleref01_Capacity⟩
noncomputable def g_wattleref01_Capacity (F_wattleref01_Width : List D → Option D) (a0_0 : Int) (a0_1 : Int) (a0_2 : Int) : Option D :=
  bindK (F_wattleref01_Width [D.agg [D.int IntKind.i64 a0_0, D.int IntKind.i64 a0_1, D.int IntKind.i64 a0_2]]) fun r1 =>
  asI IntKind.i64 r1 fun i2 =>
  letN (IntKind.wrap IntKind.i64 (i2 * (16 : Int))) fun n3 =>
  some (D.int IntKind.i64 n3)
theorem G_wattleref01_Capacity (F_wattleref01_Width : List D → Option D) (a0_0 : Int) (a0_1 : Int) (a0_2 : Int) : denP Try.prog (penv' [(ID.wattleref01_Width, [0], F_wattleref01_Width)]) ann_wattleref01_Capacity [0] ID.wattleref01_Capacity [.agg [.int .i64 a0_0, .int .i64 a0_1, .int .i64 a0_2]] = g_wattleref01_Capacity F_wattleref01_Width a0_0 a0_1 a0_2 := by kernel_rfl
theorem F_wattleref01_Capacity_eq (a0_0 : Int) (a0_1 : Int) (a0_2 : Int) : F_wattleref01_Capacity [.agg [.int .i64 a0_0, .int .i64 a0_1, .int .i64 a0_2]] = g_wattleref01_Capacity F_wattleref01_Width a0_0 a0_1 a0_2 := G_wattleref01_Capacity F_wattleref01_Width a0_0 a0_1 a0_2
def ann_geom_Can : Ann := []
noncomputable def F_geom_Can : List D → Option D := denP Try.prog (penv' [(ID.geom_Check, [0], F_geom_Check), (ID.geom_Width, [0], F_geom_Width)]) ann_geom_Can [0] ID.geom_Can
theorem sound_geom_Can : SoundP Try.prog ID.geom_Can [0] F_geom_Can := denP_sound (penv_ok [fact_geom_Check, fact_geom_Width]) mixed ⟨Try.f20, by kernel_rfl, by kernel_rfl, by kernel_rfl⟩
noncomputable def fact_geom_Can : Fact Try.prog := ⟨ID.geom_Can, [0], F_geom_Can, sound_geom_Can⟩
noncomputable def g_geom_Can (F_geom_Check : List D → Option D) (F_geom_Width : List D → Option D) (a0_0 : Int) (a0_1 : Int) (a0_2 : Int) (a1_0 : Int) (a1_1 : Int) (a1_2 : Int) : Option D :=
  bindK (F_geom_Check [D.agg [D.int IntKind.i64 a0_0, D.int IntKind.i64 a0_1, D.int IntKind.i64 a0_2]]) fun r1 =>
  asI IntKind.i64 r1 fun i2 =>
  brK (i2 == (0 : Int))
    (bindK (F_geom_Check [D.agg [D.int IntKind.i64 a1_0, D.int IntKind.i64 a1_1, D.int IntKind.i64 a1_2]]) fun r3 =>
    asI IntKind.i64 r3 fun i4 =>
    brK (i4 == (0 : Int))
      (brK (!(a0_0 == a1_0 && (a0_1 == a1_1 && (a0_2 == a1_2 && true))))
        (brK (decide (a1_1 ≥ a0_1))
          (brK (decide (a1_0 ≥ a0_0))
            (bindK (F_geom_Width [D.agg [D.int IntKind.i64 a1_0, D.int IntKind.i64 a1_1, D.int IntKind.i64 a1_2]]) fun r5 =>
            asI IntKind.i64 r5 fun i6 =>
            bindK (F_geom_Width [D.agg [D.int IntKind.i64 a0_0, D.int IntKind.i64 a0_1, D.int IntKind.i64 a0_2]]) fun r7 =>
            asI IntKind.i64 r7 fun i8 =>
            some (D.bool (decide (i6 ≥ i8))))
            (some (D.bool false)))
          (some (D.bool false)))
        (some (D.bool false)))
      (some (D.bool false)))
    (some (D.bool false))
theorem G_geom_Can (F_geom_Check : List D → Option D) (F_geom_Width : List D → Option D) (a0_0 : Int) (a0_1 : Int) (a0_2 : Int) (a1_0 : Int) (a1_1 : Int) (a1_2 : Int) : denP Try.prog (penv' [(ID.geom_Check, [0], F_geom_Check), (ID.geom_Width, [0], F_geom_Width)]) ann_geom_Can [0] ID.geom_Can [.agg [.int .i64 a0_0, .int .i64 a0_1, .int .i64 a0_2], .agg [.int .i64 a1_0, .int .i64 a1_1, .int .i64 a1_2]] = g_geom_Can F_geom_Check F_geom_Width a0_0 a0_1 a0_2 a1_0 a1_1 a1_2 := by kernel_rfl
theorem F_geom_Can_eq (a0_0 : Int) (a0_1 : Int) (a0_2 : Int) (a1_0 : Int) (a1_1 : Int) (a1_2 : Int) : F_geom_Can [.agg [.int .i64 a0_0, .int .i64 a0_1, .int .i64 a0_2], .agg [.int .i64 a1_0, .int .i64 a1_1, .int .i64 a1_2]] = g_geom_Can F_geom_Check F_geom_Width a0_0 a0_1 a0_2 a1_0 a1_1 a1_2 := G_geom_Can F_geom_Check F_geom_Width a0_0 a0_1 a0_2 a1_0 a1_1 a1_2
def ann_wattleref01_Can : Ann := []
noncomputable def F_wattleref01_Can : List D → Option D := denP Try.prog (penv' [(ID.wattleref01_Check, [0], F_wattleref01_Check), (ID.wattleref01_Width, [0], F_wattleref01_Width)]) ann_wattleref01_Can [0] ID.wattleref01_Can
theorem sound_wattleref01_Can : SoundP Try.prog ID.wattleref01_Can [0] F_wattleref01_Can := denP_sound (penv_ok [fact_wattleref01_Check, fact_wattleref01_Width]) mixed ⟨Try.f27, by kernel_rfl, by kernel_rfl, by kernel_rfl⟩
noncomputable def fact_wattleref01_Can : Fact Try.prog := ⟨ID.wattleref01_Can, [0], F_wattleref01_Can, sound_wattleref01_Can⟩
noncomputable def g_wattleref01_Can (F_wattleref01_Check : List D → Option D) (F_wattleref01_Width : List D → Option D) (a0_0 : Int) (a0_1 : Int) (a0_2 : Int) (a1_0 : Int) (a1_1 : Int) (a1_2 : Int) : Option D :=
  bindK (F_wattleref01_Check [D.agg [D.int IntKind.i64 a0_0, D.int IntKind.i64 a0_1, D.int IntKind.i64 a0_2]]) fun r1 =>
  asB r1 fun b2 =>
  brK b2
    (bindK (F_wattleref01_Check [D.agg [D.int IntKind.i64 a1_0, D.int IntKind.i64 a1_1, D.int IntKind.i64 a1_2]]) fun r3 =>
    asB r3 fun b4 =>
    brK b4
      (brK (!(a0_0 == a1_0 && (a0_1 == a1_1 && (a0_2 == a1_2 && true))))
        (brK (decide (a1_1 ≥ a0_1))
          (brK (decide (a1_0 ≥ a0_0))
            (bindK (F_wattleref01_Width [D.agg [D.int IntKind.i64 a1_0, D.int IntKind.i64 a1_1, D.int IntKind.i64 a1_2]]) fun r5 =>
            asI IntKind.i64 r5 fun i6 =>
            bindK (F_wattleref01_Width [D.agg [D.int IntKind.i64 a0_0, D.int IntKind.i64 a0_1, D.int IntKind.i64 a0_2]]) fun r7 =>
            asI IntKind.i64 r7 fun i8 =>
            some (D.bool (decide (i6 ≥ i8))))
            (some (D.bool false)))
          (some (D.bool false)))
        (some (D.bool false)))
      (some (D.bool false)))
    (some (D.bool false))
theorem G_wattleref01_Can (F_wattleref01_Check : List D → Option D) (F_wattleref01_Width : List D → Option D) (a0_0 : Int) (a0_1 : Int) (a0_2 : Int) (a1_0 : Int) (a1_1 : Int) (a1_2 : Int) : denP Try.prog (penv' [(ID.wattleref01_Check, [0], F_wattleref01_Check), (ID.wattleref01_Width, [0], F_wattleref01_Width)]) ann_wattleref01_Can [0] ID.wattleref01_Can [.agg [.int .i64 a0_0, .int .i64 a0_1, .int .i64 a0_2], .agg [.int .i64 a1_0, .int .i64 a1_1, .int .i64 a1_2]] = g_wattleref01_Can F_wattleref01_Check F_wattleref01_Width a0_0 a0_1 a0_2 a1_0 a1_1 a1_2 := by kernel_rfl
theorem F_wattleref01_Can_eq (a0_0 : Int) (a0_1 : Int) (a0_2 : Int) (a1_0 : Int) (a1_1 : Int) (a1_2 : Int) : F_wattleref01_Can [.agg [.int .i64 a0_0, .int .i64 a0_1, .int .i64 a0_2], .agg [.int .i64 a1_0, .int .i64 a1_1, .int .i64 a1_2]] = g_wattleref01_Can F_wattleref01_Check F_wattleref01_Width a0_0 a0_1 a0_2 a1_0 a1_1 a1_2 := G_wattleref01_Can F_wattleref01_Check F_wattleref01_Width a0_0 a0_1 a0_2 a1_0 a1_1 a1_2
def ann_wattlelaw07_wakes : Ann := []
noncomputable def F_wattlelaw07_wakes : List D → Option D := denP Try.prog (penv' [(ID.geom_Capacity, [0], F_geom_Capacity)]) ann_wattlelaw07_wakes [0] ID.wattlelaw07_wakes
theorem sound_wattlelaw07_wakes : SoundP Try.prog ID.wattlelaw07_wakes [0] F_wattlelaw07_wakes := denP_sound (penv_ok [fact_geom_Capacity]) mixed ⟨Try.f21, by kernel_rfl, by kernel_rfl, by kernel_rfl⟩
noncomputable def fact_wattlelaw07_wakes : Fact Try.prog := ⟨ID.wattlelaw07_wakes, [0], F_wattlelaw07_wakes, sound_wattlelaw07_wakes⟩
noncomputable def g_wattlelaw07_wakes (F_geom_Capacity : List D → Option D)  : Option D :=
  bindK (F_geom_Capacity [D.agg [D.int IntKind.i64 (5 : Int), D.int IntKind.i64 (3 : Int), D.int IntKind.i64 (1 : Int)]]) fun r1 =>
  asI IntKind.i64 r1 fun i2 =>
  some (D.bool (i2 == (32 : Int)))
theorem G_wattlelaw07_wakes (F_geom_Capacity : List D → Option D)  : denP Try.prog (penv' [(ID.geom_Capacity, [0], F_geom_Capacity)]) ann_wattlelaw07_wakes [0] ID.wattlelaw07_wakes [] = g_wattlelaw07_wakes F_geom_Capacity  := by kernel_rfl
theorem F_wattlelaw07_wakes_eq  : F_wattlelaw07_wakes [] = g_wattlelaw07_wakes F_geom_Capacity  := G_wattlelaw07_wakes F_geom_Capacity 
def ann_wattleplay_Good : Ann := []
noncomputable def F_wattleplay_Good : List D → Option D := denP Try.prog (penv' [(ID.wattleplay_Geom, [0], F_wattleplay_Geom), (ID.wattleref01_Check, [0], F_wattleref01_Check)]) ann_wattleplay_Good [0] ID.wattleplay_Good
theorem sound_wattleplay_Good : SoundP Try.prog ID.wattleplay_Good [0] F_wattleplay_Good := denP_sound (penv_ok [fact_wattleplay_Geom, fact_wattleref01_Check]) mixed ⟨Try.f28, by kernel_rfl, by kernel_rfl, by kernel_rfl⟩
noncomputable def fact_wattleplay_Good : Fact Try.prog := ⟨ID.wattleplay_Good, [0], F_wattleplay_Good, sound_wattleplay_Good⟩
noncomputable def g_wattleplay_Good (F_wattleplay_Geom : List D → Option D) (F_wattleref01_Check : List D → Option D) (a0 : Int) : Option D :=
  bindK (F_wattleplay_Geom [D.int IntKind.i64 a0]) fun r1 =>
  asAgg r1 fun cs2 =>
  getCells ([Lf.int IntKind.i64, Lf.int IntKind.i64, Lf.int IntKind.i64]) cs2 fun c3 =>
  bindK (F_wattleref01_Check [D.agg [D.int IntKind.i64 c3.fst, D.int IntKind.i64 c3.snd.fst, D.int IntKind.i64 c3.snd.snd.fst]]) fun r4 =>
  asB r4 fun b5 =>
  brK (!b5)
    (some (D.agg [D.int IntKind.i64 (5 : Int), D.int IntKind.i64 (3 : Int), D.int IntKind.i64 (1 : Int)]))
    (some (D.agg [D.int IntKind.i64 c3.fst, D.int IntKind.i64 c3.snd.fst, D.int IntKind.i64 c3.snd.snd.fst]))
theorem G_wattleplay_Good (F_wattleplay_Geom : List D → Option D) (F_wattleref01_Check : List D → Option D) (a0 : Int) : denP Try.prog (penv' [(ID.wattleplay_Geom, [0], F_wattleplay_Geom), (ID.wattleref01_Check, [0], F_wattleref01_Check)]) ann_wattleplay_Good [0] ID.wattleplay_Good [.int .i64 a0] = g_wattleplay_Good F_wattleplay_Geom F_wattleref01_Check a0 := by kernel_rfl
theorem F_wattleplay_Good_eq (a0 : Int) : F_wattleplay_Good [.int .i64 a0] = g_wattleplay_Good F_wattleplay_Geom F_wattleref01_Check a0 := G_wattleplay_Good F_wattleplay_Geom F_wattleref01_Check a0
def ann_wattleplay_Pair : Ann := []
noncomputable def F_wattleplay_Pair : List D → Option D := denP Try.prog (penv' [(ID.wattlekeep_Within, [0], F_wattlekeep_Within), (ID.wattleref01_Can, [0], F_wattleref01_Can)]) ann_wattleplay_Pair [0, 0] ID.wattleplay_Pair
theorem sound_wattleplay_Pair : SoundP Try.prog ID.wattleplay_Pair [0, 0] F_wattleplay_Pair := denP_sound (penv_ok [fact_wattlekeep_Within, fact_wattleref01_Can]) mixed ⟨Try.f29, by kernel_rfl, by kernel_rfl, by kernel_rfl⟩
noncomputable def fact_wattleplay_Pair : Fact Try.prog := ⟨ID.wattleplay_Pair, [0, 0], F_wattleplay_Pair, sound_wattleplay_Pair⟩
noncomputable def g_wattleplay_Pair (F_wattlekeep_Within : List D → Option D) (F_wattleref01_Can : List D → Option D) (a0 : Int) (a1 : Int) : Option D :=
  bindK (F_wattlekeep_Within [D.int IntKind.i64 a0, D.int IntKind.i64 (2 : Int)]) fun r1 =>
  asI IntKind.i64 r1 fun i2 =>
  letN (IntKind.wrap IntKind.i64 ((3 : Int) + i2)) fun n3 =>
  letN (IntKind.wrap IntKind.i64 (Int.tdiv a0 (2 : Int))) fun n4 =>
  bindK (F_wattlekeep_Within [D.int IntKind.i64 n4, D.int IntKind.i64 (3 : Int)]) fun r5 =>
  asI IntKind.i64 r5 fun i6 =>
  sif ((0 : Int) ≤ i6) <|
  getK ([D.int IntKind.i64 (1 : Int), D.int IntKind.i64 (2 : Int), D.int IntKind.i64 (4 : Int)]) (Int.toNat i6) fun d7 =>
  asI IntKind.i64 d7 fun i8 =>
  letN (IntKind.wrap IntKind.i64 (Int.tdiv a0 (6 : Int))) fun n9 =>
  bindK (F_wattlekeep_Within [D.int IntKind.i64 n9, D.int IntKind.i64 (4 : Int)]) fun r10 =>
  asI IntKind.i64 r10 fun i11 =>
  brK (i11 == (3 : Int))
    (bindK (F_wattlekeep_Within [D.int IntKind.i64 a0, D.int IntKind.i64 (2 : Int)]) fun r12 =>
    asI IntKind.i64 r12 fun i13 =>
    letN (IntKind.wrap IntKind.i64 ((4 : Int) + i13)) fun n14 =>
    bindK (F_wattlekeep_Within [D.int IntKind.i64 a1, D.int IntKind.i64 (3 : Int)]) fun r15 =>
    asI IntKind.i64 r15 fun i16 =>
    letN (IntKind.wrap IntKind.i64 (n14 + i16)) fun n17 =>
    letN (IntKind.wrap IntKind.i64 (Int.tdiv a1 (3 : Int))) fun n18 =>
    bindK (F_wattlekeep_Within [D.int IntKind.i64 n18, D.int IntKind.i64 (3 : Int)]) fun r19 =>
    asI IntKind.i64 r19 fun i20 =>
    sif ((0 : Int) ≤ i20) <|
    getK ([D.int IntKind.i64 (1 : Int), D.int IntKind.i64 (2 : Int), D.int IntKind.i64 (4 : Int)]) (Int.toNat i20) fun d21 =>
    asI IntKind.i64 d21 fun i22 =>
    bindK (F_wattleref01_Can   [D.agg [D.int IntKind.i64 (6 : Int), D.int IntKind.i64 n14, D.int IntKind.i64 i8],     D.agg [D.int IntKind.i64 (6 : Int), D.int IntKind.i64 n17, D.int IntKind.i64 i22]]) fun r23 =>
    asB r23 fun b24 =>
    brK (!b24)
      (letN (IntKind.wrap IntKind.i64 (n17 + (1 : Int))) fun n25 =>
      some (D.tup   [D.agg [D.int IntKind.i64 (6 : Int), D.int IntKind.i64 n14, D.int IntKind.i64 i8],     D.agg [D.int IntKind.i64 (6 : Int), D.int IntKind.i64 n25, D.int IntKind.i64 i22]]))
      (some (D.tup   [D.agg [D.int IntKind.i64 (6 : Int), D.int IntKind.i64 n14, D.int IntKind.i64 i8],     D.agg [D.int IntKind.i64 (6 : Int), D.int IntKind.i64 n17, D.int IntKind.i64 i22]])))
    (bindK (F_wattlekeep_Within [D.int IntKind.i64 a1, D.int IntKind.i64 (3 : Int)]) fun r26 =>
    asI IntKind.i64 r26 fun i27 =>
    letN (IntKind.wrap IntKind.i64 (n3 + i27)) fun n28 =>
    letN (IntKind.wrap IntKind.i64 (Int.tdiv a1 (3 : Int))) fun n29 =>
    bindK (F_wattlekeep_Within [D.int IntKind.i64 n29, D.int IntKind.i64 (3 : Int)]) fun r30 =>
    asI IntKind.i64 r30 fun i31 =>
    sif ((0 : Int) ≤ i31) <|
    getK ([D.int IntKind.i64 (1 : Int), D.int IntKind.i64 (2 : Int), D.int IntKind.i64 (4 : Int)]) (Int.toNat i31) fun d32 =>
    asI IntKind.i64 d32 fun i33 =>
    letN (IntKind.wrap IntKind.i64 (Int.tdiv a1 (9 : Int))) fun n34 =>
    bindK (F_wattlekeep_Within [D.int IntKind.i64 n34, D.int IntKind.i64 (2 : Int)]) fun r35 =>
    asI IntKind.i64 r35 fun i36 =>
    brK (i36 == (1 : Int))
      (letN (IntKind.wrap IntKind.i64 (n3 + (1 : Int))) fun n37 =>
      letN (max n28 n37) fun n38 =>
      bindK (F_wattleref01_Can   [D.agg [D.int IntKind.i64 (5 : Int), D.int IntKind.i64 n3, D.int IntKind.i64 i8],     D.agg [D.int IntKind.i64 (6 : Int), D.int IntKind.i64 n38, D.int IntKind.i64 i33]]) fun r39 =>
      asB r39 fun b40 =>
      brK (!b40)
        (letN (IntKind.wrap IntKind.i64 (n38 + (1 : Int))) fun n41 =>
        some (D.tup   [D.agg [D.int IntKind.i64 (5 : Int), D.int IntKind.i64 n3, D.int IntKind.i64 i8],     D.agg [D.int IntKind.i64 (6 : Int), D.int IntKind.i64 n41, D.int IntKind.i64 i33]]))
        (some (D.tup   [D.agg [D.int IntKind.i64 (5 : Int), D.int IntKind.i64 n3, D.int IntKind.i64 i8],     D.agg [D.int IntKind.i64 (6 : Int), D.int IntKind.i64 n38, D.int IntKind.i64 i33]])))
      (bindK (F_wattleref01_Can   [D.agg [D.int IntKind.i64 (5 : Int), D.int IntKind.i64 n3, D.int IntKind.i64 i8],     D.agg [D.int IntKind.i64 (5 : Int), D.int IntKind.i64 n28, D.int IntKind.i64 i33]]) fun r42 =>
      asB r42 fun b43 =>
      brK (!b43)
        (letN (IntKind.wrap IntKind.i64 (n28 + (1 : Int))) fun n44 =>
        some (D.tup   [D.agg [D.int IntKind.i64 (5 : Int), D.int IntKind.i64 n3, D.int IntKind.i64 i8],     D.agg [D.int IntKind.i64 (5 : Int), D.int IntKind.i64 n44, D.int IntKind.i64 i33]]))
        (some (D.tup   [D.agg [D.int IntKind.i64 (5 : Int), D.int IntKind.i64 n3, D.int IntKind.i64 i8],     D.agg [D.int IntKind.i64 (5 : Int), D.int IntKind.i64 n28, D.int IntKind.i64 i33]]))))
theorem G_wattleplay_Pair (F_wattlekeep_Within : List D → Option D) (F_wattleref01_Can : List D → Option D) (a0 : Int) (a1 : Int) : denP Try.prog (penv' [(ID.wattlekeep_Within, [0], F_wattlekeep_Within), (ID.wattleref01_Can, [0], F_wattleref01_Can)]) ann_wattleplay_Pair [0, 0] ID.wattleplay_Pair [.int .i64 a0, .int .i64 a1] = g_wattleplay_Pair F_wattlekeep_Within F_wattleref01_Can a0 a1 := by kernel_rfl
theorem F_wattleplay_Pair_eq (a0 : Int) (a1 : Int) : F_wattleplay_Pair [.int .i64 a0, .int .i64 a1] = g_wattleplay_Pair F_wattlekeep_Within F_wattleref01_Can a0 a1 := G_wattleplay_Pair F_wattlekeep_Within F_wattleref01_Can a0 a1
def ann_plan_Rows : Ann := []
noncomputable def F_plan_Rows : List D → Option D := denP Try.prog (penv' [(ID.geom_Can, [0], F_geom_Can)]) ann_plan_Rows [0] ID.plan_Rows
theorem sound_plan_Rows : SoundP Try.prog ID.plan_Rows [0] F_plan_Rows := denP_sound (penv_ok [fact_geom_Can]) mixed ⟨Try.f30, by kernel_rfl, by kernel_rfl, by kernel_rfl⟩
noncomputable def fact_plan_Rows : Fact Try.prog := ⟨ID.plan_Rows, [0], F_plan_Rows, sound_plan_Rows⟩
noncomputable def g_plan_Rows (F_geom_Can : List D → Option D) (a0_0 : Int) (a0_1 : Int) (a0_2 : Int) (a1_0 : Int) (a1_1 : Int) (a1_2 : Int) : Option D :=
  bindK (F_geom_Can   [D.agg [D.int IntKind.i64 a0_0, D.int IntKind.i64 a0_1, D.int IntKind.i64 a0_2],     D.agg [D.int IntKind.i64 a1_0, D.int IntKind.i64 a1_1, D.int IntKind.i64 a1_2]]) fun r1 =>
  asB r1 fun b2 =>
  brK (!b2)
    (some (D.int IntKind.i64 (0 : Int)))
    (letN (max a0_2 a1_2) fun n3 =>
    some (D.int IntKind.i64 n3))
theorem G_plan_Rows (F_geom_Can : List D → Option D) (a0_0 : Int) (a0_1 : Int) (a0_2 : Int) (a1_0 : Int) (a1_1 : Int) (a1_2 : Int) : denP Try.prog (penv' [(ID.geom_Can, [0], F_geom_Can)]) ann_plan_Rows [0] ID.plan_Rows [.agg [.int .i64 a0_0, .int .i64 a0_1, .int .i64 a0_2], .agg [.int .i64 a1_0, .int .i64 a1_1, .int .i64 a1_2]] = g_plan_Rows F_geom_Can a0_0 a0_1 a0_2 a1_0 a1_1 a1_2 := by kernel_rfl
theorem F_plan_Rows_eq (a0_0 : Int) (a0_1 : Int) (a0_2 : Int) (a1_0 : Int) (a1_1 : Int) (a1_2 : Int) : F_plan_Rows [.agg [.int .i64 a0_0, .int .i64 a0_1, .int .i64 a0_2], .agg [.int .i64 a1_0, .int .i64 a1_1, .int .i64 a1_2]] = g_plan_Rows F_geom_Can a0_0 a0_1 a0_2 a1_0 a1_1 a1_2 := G_plan_Rows F_geom_Can a0_0 a0_1 a0_2 a1_0 a1_1 a1_2
def ann_plan_Windows : Ann := []
noncomputable def F_plan_Windows : List D → Option D := denP Try.prog (penv' [(ID.plan_Rows, [0], F_plan_Rows)]) ann_plan_Windows [0] ID.plan_Windows
theorem sound_plan_Windows : SoundP Try.prog ID.plan_Windows [0] F_plan_Windows := denP_sound (penv_ok [fact_plan_Rows]) mixed ⟨Try.f31, by kernel_rfl, by kernel_rfl, by kernel_rfl⟩
noncomputable def fact_plan_Windows : Fact Try.prog := ⟨ID.plan_Windows, [0], F_plan_Windows, sound_plan_Windows⟩
noncomputable def g_plan_Windows (F_plan_Rows : List D → Option D) (a0_0 : Int) (a0_1 : Int) (a0_2 : Int) (a1_0 : Int) (a1_1 : Int) (a1_2 : Int) : Option D :=
  bindK (F_plan_Rows   [D.agg [D.int IntKind.i64 a0_0, D.int IntKind.i64 a0_1, D.int IntKind.i64 a0_2],     D.agg [D.int IntKind.i64 a1_0, D.int IntKind.i64 a1_1, D.int IntKind.i64 a1_2]]) fun r1 =>
  asI IntKind.i64 r1 fun i2 =>
  brK (i2 == (0 : Int))
    (some (D.int IntKind.i64 (0 : Int)))
    (sif (i2 ≠ (0 : Int)) <|
    letN (IntKind.wrap IntKind.i64 (Int.tdiv (16 : Int) i2)) fun n3 =>
    some (D.int IntKind.i64 n3))
theorem G_plan_Windows (F_plan_Rows : List D → Option D) (a0_0 : Int) (a0_1 : Int) (a0_2 : Int) (a1_0 : Int) (a1_1 : Int) (a1_2 : Int) : denP Try.prog (penv' [(ID.plan_Rows, [0], F_plan_Rows)]) ann_plan_Windows [0] ID.plan_Windows [.agg [.int .i64 a0_0, .int .i64 a0_1, .int .i64 a0_2], .agg [.int .i64 a1_0, .int .i64 a1_1, .int .i64 a1_2]] = g_plan_Windows F_plan_Rows a0_0 a0_1 a0_2 a1_0 a1_1 a1_2 := by kernel_rfl
theorem F_plan_Windows_eq (a0_0 : Int) (a0_1 : Int) (a0_2 : Int) (a1_0 : Int) (a1_1 : Int) (a1_2 : Int) : F_plan_Windows [.agg [.int .i64 a0_0, .int .i64 a0_1, .int .i64 a0_2], .agg [.int .i64 a1_0, .int .i64 a1_1, .int .i64 a1_2]] = g_plan_Windows F_plan_Rows a0_0 a0_1 a0_2 a1_0 a1_1 a1_2 := G_plan_Windows F_plan_Rows a0_0 a0_1 a0_2 a1_0 a1_1 a1_2
def ann_plan_Cursor : Ann := []
noncomputable def F_plan_Cursor : List D → Option D := denP Try.prog (penv' [(ID.plan_Windows, [0], F_plan_Windows), (ID.plan_Rows, [0], F_plan_Rows), (ID.geom_Width, [0], F_geom_Width), (ID.geom_Capacity, [0], F_geom_Capacity)]) ann_plan_Cursor [0] ID.plan_Cursor
theorem sound_plan_Cursor : SoundP Try.prog ID.plan_Cursor [0] F_plan_Cursor := denP_sound (penv_ok [fact_plan_Windows, fact_plan_Rows, fact_geom_Width, fact_geom_Capacity]) mixed ⟨Try.f32, by kernel_rfl, by kernel_rfl, by kernel_rfl⟩
noncomputable def fact_plan_Cursor : Fact Try.prog := ⟨ID.plan_Cursor, [0], F_plan_Cursor, sound_plan_Cursor⟩
noncomputable def g_plan_Cursor (F_plan_Windows : List D → Option D) (F_plan_Rows : List D → Option D) (F_geom_Width : List D → Option D) (F_geom_Capacity : List D → Option D) (a0_0 : Int) (a0_1 : Int) (a0_2 : Int) (a1_0 : Int) (a1_1 : Int) (a1_2 : Int) (a2 : Int) : Option D :=
  brK (decide (a2 < (0 : Int)))
    (some (D.int IntKind.i64 (0 : Int)))
    (bindK (F_plan_Windows   [D.agg [D.int IntKind.i64 a0_0, D.int IntKind.i64 a0_1, D.int IntKind.i64 a0_2],     D.agg [D.int IntKind.i64 a1_0, D.int IntKind.i64 a1_1, D.int IntKind.i64 a1_2]]) fun r1 =>
    asI IntKind.i64 r1 fun i2 =>
    brK (decide (a2 > i2))
      (some (D.int IntKind.i64 (0 : Int)))
      (bindK (F_plan_Rows   [D.agg [D.int IntKind.i64 a0_0, D.int IntKind.i64 a0_1, D.int IntKind.i64 a0_2],     D.agg [D.int IntKind.i64 a1_0, D.int IntKind.i64 a1_1, D.int IntKind.i64 a1_2]]) fun r3 =>
      asI IntKind.i64 r3 fun i4 =>
      letN (IntKind.wrap IntKind.i64 (a2 * i4)) fun n5 =>
      bindK (F_geom_Width [D.agg [D.int IntKind.i64 a1_0, D.int IntKind.i64 a1_1, D.int IntKind.i64 a1_2]]) fun r6 =>
      asI IntKind.i64 r6 fun i7 =>
      letN (IntKind.wrap IntKind.i64 (n5 * i7)) fun n8 =>
      bindK (F_geom_Capacity [D.agg [D.int IntKind.i64 a0_0, D.int IntKind.i64 a0_1, D.int IntKind.i64 a0_2]]) fun r9 =>
      asI IntKind.i64 r9 fun i10 =>
      letN (min n8 i10) fun n11 =>
      some (D.int IntKind.i64 n11)))
theorem G_plan_Cursor (F_plan_Windows : List D → Option D) (F_plan_Rows : List D → Option D) (F_geom_Width : List D → Option D) (F_geom_Capacity : List D → Option D) (a0_0 : Int) (a0_1 : Int) (a0_2 : Int) (a1_0 : Int) (a1_1 : Int) (a1_2 : Int) (a2 : Int) : denP Try.prog (penv' [(ID.plan_Windows, [0], F_plan_Windows), (ID.plan_Rows, [0], F_plan_Rows), (ID.geom_Width, [0], F_geom_Width), (ID.geom_Capacity, [0], F_geom_Capacity)]) ann_plan_Cursor [0] ID.plan_Cursor [.agg [.int .i64 a0_0, .int .i64 a0_1, .int .i64 a0_2], .agg [.int .i64 a1_0, .int .i64 a1_1, .int .i64 a1_2], .int .i64 a2] = g_plan_Cursor F_plan_Windows F_plan_Rows F_geom_Width F_geom_Capacity a0_0 a0_1 a0_2 a1_0 a1_1 a1_2 a2 := by kernel_rfl
theorem F_plan_Cursor_eq (a0_0 : Int) (a0_1 : Int) (a0_2 : Int) (a1_0 : Int) (a1_1 : Int) (a1_2 : Int) (a2 : Int) : F_plan_Cursor [.agg [.int .i64 a0_0, .int .i64 a0_1, .int .i64 a0_2], .agg [.int .i64 a1_0, .int .i64 a1_1, .int .i64 a1_2], .int .i64 a2] = g_plan_Cursor F_plan_Windows F_plan_Rows F_geom_Width F_geom_Capacity a0_0 a0_1 a0_2 a1_0 a1_1 a1_2 a2 := G_plan_Cursor F_plan_Windows F_plan_Rows F_geom_Width F_geom_Capacity a0_0 a0_1 a0_2 a1_0 a1_1 a1_2 a2
def ann_wattleref01_fine : Ann := []
noncomputable def F_wattleref01_fine : List D → Option D := denP Try.prog (penv' [(ID.wattleref01_Check, [0], F_wattleref01_Check)]) ann_wattleref01_fine [0] ID.wattleref01_fine
theorem sound_wattleref01_fine : SoundP Try.prog ID.wattleref01_fine [0] F_wattleref01_fine := denP_sound (penv_ok [fact_wattleref01_Check]) mixed ⟨Try.f55, by kernel_rfl, by kernel_rfl, by kernel_rfl⟩
noncomputable def fact_wattleref01_fine : Fact Try.prog := ⟨ID.wattleref01_fine, [0], F_wattleref01_fine, sound_wattleref01_fine⟩
noncomputable def g_wattleref01_fine (F_wattleref01_Check : List D → Option D) (a0_0 : Int) (a0_1 : Int) (a0_2 : Int) (a1 : Int) : Option D :=
  bindK (F_wattleref01_Check [D.agg [D.int IntKind.i64 a0_0, D.int IntKind.i64 a0_1, D.int IntKind.i64 a0_2]]) fun r1 =>
  asB r1 fun b2 =>
  brK b2
    (brK (decide (a1 ≥ (0 : Int)))
      (some (D.bool (decide (a1 < (16 : Int)))))
      (some (D.bool false)))
    (some (D.bool false))
theorem G_wattleref01_fine (F_wattleref01_Check : List D → Option D) (a0_0 : Int) (a0_1 : Int) (a0_2 : Int) (a1 : Int) : denP Try.prog (penv' [(ID.wattleref01_Check, [0], F_wattleref01_Check)]) ann_wattleref01_fine [0] ID.wattleref01_fine [.agg [.int .i64 a0_0, .int .i64 a0_1, .int .i64 a0_2], .int .i64 a1] = g_wattleref01_fine F_wattleref01_Check a0_0 a0_1 a0_2 a1 := by kernel_rfl
theorem F_wattleref01_fine_eq (a0_0 : Int) (a0_1 : Int) (a0_2 : Int) (a1 : Int) : F_wattleref01_fine [.agg [.int .i64 a0_0, .int .i64 a0_1, .int .i64 a0_2], .int .i64 a1] = g_wattleref01_fine F_wattleref01_Check a0_0 a0_1 a0_2 a1 := G_wattleref01_fine F_wattleref01_Check a0_0 a0_1 a0_2 a1
def ann_wattleref01_Parity : Ann := []
noncomputable def F_wattleref01_Parity : List D → Option D := denP Try.prog (penv' [(ID.wattleref01_fine, [0], F_wattleref01_fine)]) ann_wattleref01_Parity [0, 0] ID.wattleref01_Parity
theorem sound_wattleref01_Parity : SoundP Try.prog ID.wattleref01_Parity [0, 0] F_wattleref01_Parity := denP_sound (penv_ok [fact_wattleref01_fine]) mixed ⟨Try.f49, by kernel_rfl, by kernel_rfl, by kernel_rfl⟩
noncomputable def fact_wattleref01_Parity : Fact Try.prog := ⟨ID.wattleref01_Parity, [0, 0], F_wattleref01_Parity, sound_wattleref01_Parity⟩
noncomputable def g_wattleref01_Parity (F_wattleref01_fine : List D → Option D) (a0_0 : Int) (a0_1 : Int) (a0_2 : Int) (a1 : Int) : Option D :=
  bindK (F_wattleref01_fine   [D.agg [D.int IntKind.i64 a0_0, D.int IntKind.i64 a0_1, D.int IntKind.i64 a0_2], D.int IntKind.i64 a1]) fun r1 =>
  asB r1 fun b2 =>
  brK (!b2)
    (some (D.tup [D.int IntKind.i64 (-1 : Int), D.int IntKind.i64 (-1 : Int)]))
    (letN (IntKind.wrap IntKind.i64 (a0_1 - (1 : Int))) fun n3 =>
    sif (a0_2 ≠ (0 : Int)) <|
    letN (IntKind.wrap IntKind.i64 (Int.tdiv a1 a0_2)) fun n4 =>
    sif (a0_1 ≠ (0 : Int)) <|
    letN (Int.tmod n4 a0_1) fun n5 =>
    letN (IntKind.wrap IntKind.i64 (n3 - n5)) fun n6 =>
    brK (a0_0 == (5 : Int))
      (some (D.tup [D.int IntKind.i64 n6, D.int IntKind.i64 (-1 : Int)]))
      (letN (IntKind.wrap IntKind.i64 (n6 + (1 : Int))) fun n7 =>
      sif (a0_1 ≠ (0 : Int)) <|
      letN (Int.tmod n7 a0_1) fun n8 =>
      some (D.tup [D.int IntKind.i64 n6, D.int IntKind.i64 n8])))
theorem G_wattleref01_Parity (F_wattleref01_fine : List D → Option D) (a0_0 : Int) (a0_1 : Int) (a0_2 : Int) (a1 : Int) : denP Try.prog (penv' [(ID.wattleref01_fine, [0], F_wattleref01_fine)]) ann_wattleref01_Parity [0, 0] ID.wattleref01_Parity [.agg [.int .i64 a0_0, .int .i64 a0_1, .int .i64 a0_2], .int .i64 a1] = g_wattleref01_Parity F_wattleref01_fine a0_0 a0_1 a0_2 a1 := by kernel_rfl
theorem F_wattleref01_Parity_eq (a0_0 : Int) (a0_1 : Int) (a0_2 : Int) (a1 : Int) : F_wattleref01_Parity [.agg [.int .i64 a0_0, .int .i64 a0_1, .int .i64 a0_2], .int .i64 a1] = g_wattleref01_Parity F_wattleref01_fine a0_0 a0_1 a0_2 a1 := G_wattleref01_Parity F_wattleref01_fine a0_0 a0_1 a0_2 a1
def ann_wattleref01_Disk : Ann := []
noncomputable def F_wattleref01_Disk : List D → Option D := denP Try.prog (penv' [(ID.wattleref01_fine, [0], F_wattleref01_fine), (ID.wattleref01_Width, [0], F_wattleref01_Width), (ID.wattleref01_Parity, [0, 0], F_wattleref01_Parity), (ID.wattleref01_Budget, [0], F_wattleref01_Budget)]) ann_wattleref01_Disk [0] ID.wattleref01_Disk
theorem sound_wattleref01_Disk : SoundP Try.prog ID.wattleref01_Disk [0] F_wattleref01_Disk := denP_sound (penv_ok [fact_wattleref01_fine, fact_wattleref01_Width, fact_wattleref01_Parity, fact_wattleref01_Budget]) mixed ⟨Try.f50, by kernel_rfl, by kernel_rfl, by kernel_rfl⟩
noncomputable def fact_wattleref01_Disk : Fact Try.prog := ⟨ID.wattleref01_Disk, [0], F_wattleref01_Disk, sound_wattleref01_Disk⟩
noncomputable def g_wattleref01_Disk (F_wattleref01_fine : List D → Option D) (F_wattleref01_Width : List D → Option D) (F_wattleref01_Parity : List D → Option D) (F_wattleref01_Budget : List D → Option D) (a0_0 : Int) (a0_1 : Int) (a0_2 : Int) (a1 : Int) (a2 : Int) : Option D :=
  bindK (F_wattleref01_fine   [D.agg [D.int IntKind.i64 a0_0, D.int IntKind.i64 a0_1, D.int IntKind.i64 a0_2], D.int IntKind.i64 a1]) fun r1 =>
  asB r1 fun b2 =>
  brK (!b2)
    (some (D.int IntKind.i64 (-1 : Int)))
    (brK (decide (a2 < (0 : Int)))
      (some (D.int IntKind.i64 (-1 : Int)))
      (bindK (F_wattleref01_Width [D.agg [D.int IntKind.i64 a0_0, D.int IntKind.i64 a0_1, D.int IntKind.i64 a0_2]]) fun r3 =>
      asI IntKind.i64 r3 fun i4 =>
      brK (decide (a2 ≥ i4))
        (some (D.int IntKind.i64 (-1 : Int)))
        (bindK (F_wattleref01_Parity   [D.agg [D.int IntKind.i64 a0_0, D.int IntKind.i64 a0_1, D.int IntKind.i64 a0_2], D.int IntKind.i64 a1]) fun r5 =>
        asTup r5 fun ts6 =>
        getCells ([Lf.any, Lf.any]) ts6 fun c7 =>
        asI IntKind.i64 c7.fst fun i8 =>
        asI IntKind.i64 c7.snd.fst fun i9 =>
        bindK (F_wattleref01_Budget [D.agg [D.int IntKind.i64 a0_0, D.int IntKind.i64 a0_1, D.int IntKind.i64 a0_2]]) fun r10 =>
        asI IntKind.i64 r10 fun i11 =>
        letN (IntKind.wrap IntKind.i64 (i8 + i11)) fun n12 =>
        letN (IntKind.wrap IntKind.i64 (n12 + a2)) fun n13 =>
        sif (a0_1 ≠ (0 : Int)) <|
        letN (Int.tmod n13 a0_1) fun n14 =>
        some (D.int IntKind.i64 n14))))
theorem G_wattleref01_Disk (F_wattleref01_fine : List D → Option D) (F_wattleref01_Width : List D → Option D) (F_wattleref01_Parity : List D → Option D) (F_wattleref01_Budget : List D → Option D) (a0_0 : Int) (a0_1 : Int) (a0_2 : Int) (a1 : Int) (a2 : Int) : denP Try.prog (penv' [(ID.wattleref01_fine, [0], F_wattleref01_fine), (ID.wattleref01_Width, [0], F_wattleref01_Width), (ID.wattleref01_Parity, [0, 0], F_wattleref01_Parity), (ID.wattleref01_Budget, [0], F_wattleref01_Budget)]) ann_wattleref01_Disk [0] ID.wattleref01_Disk [.agg [.int .i64 a0_0, .int .i64 a0_1, .int .i64 a0_2], .int .i64 a1, .int .i64 a2] = g_wattleref01_Disk F_wattleref01_fine F_wattleref01_Width F_wattleref01_Parity F_wattleref01_Budget a0_0 a0_1 a0_2 a1 a2 := by kernel_rfl
theorem F_wattleref01_Disk_eq (a0_0 : Int) (a0_1 : Int) (a0_2 : Int) (a1 : Int) (a2 : Int) : F_wattleref01_Disk [.agg [.int .i64 a0_0, .int .i64 a0_1, .int .i64 a0_2], .int .i64 a1, .int .i64 a2] = g_wattleref01_Disk F_wattleref01_fine F_wattleref01_Width F_wattleref01_Parity F_wattleref01_Budget a0_0 a0_1 a0_2 a1 a2 := G_wattleref01_Disk F_wattleref01_fine F_wattleref01_Width F_wattleref01_Parity F_wattleref01_Budget a0_0 a0_1 a0_2 a1 a2
def ann_wattleref01_Of : Ann := []
noncomputable def F_wattleref01_Of : List D → Option D := denP Try.prog (penv' [(ID.wattleref01_Check, [0], F_wattleref01_Check), (ID.wattleref01_Capacity, [0], F_wattleref01_Capacity), (ID.wattleref01_Width, [0], F_wattleref01_Width), (ID.wattleref01_Disk, [0], F_wattleref01_Disk)]) ann_wattleref01_Of [0, 0, 0] ID.wattleref01_Of
theorem sound_wattleref01_Of : SoundP Try.prog ID.wattleref01_Of [0, 0, 0] F_wattleref01_Of := denP_sound (penv_ok [fact_wattleref01_Check, fact_wattleref01_Capacity, fact_wattleref01_Width, fact_wattleref01_Disk]) mixed ⟨Try.f33, by kernel_rfl, by kernel_rfl, by kernel_rfl⟩
noncomputable def fact_wattleref01_Of : Fact Try.prog := ⟨ID.wattleref01_Of, [0, 0, 0], F_wattleref01_Of, sound_wattleref01_Of⟩
noncomputable def g_wattleref01_Of (F_wattleref01_Check : List D → Option D) (F_wattleref01_Capacity : List D → Option D) (F_wattleref01_Width : List D → Option D) (F_wattleref01_Disk : List D → Option D) (a0_0 : Int) (a0_1 : Int) (a0_2 : Int) (a1 : Int) : Option D :=
  bindK (F_wattleref01_Check [D.agg [D.int IntKind.i64 a0_0, D.int IntKind.i64 a0_1, D.int IntKind.i64 a0_2]]) fun r1 =>
  asB r1 fun b2 =>
  brK (!b2)
    (some (D.tup [D.int IntKind.i64 (0 : Int), D.int IntKind.i64 (0 : Int), D.bool false]))
    (brK (decide (a1 < (0 : Int)))
      (some (D.tup [D.int IntKind.i64 (0 : Int), D.int IntKind.i64 (0 : Int), D.bool false]))
      (bindK (F_wattleref01_Capacity [D.agg [D.int IntKind.i64 a0_0, D.int IntKind.i64 a0_1, D.int IntKind.i64 a0_2]]) fun r3 =>
      asI IntKind.i64 r3 fun i4 =>
      brK (decide (a1 ≥ i4))
        (some (D.tup [D.int IntKind.i64 (0 : Int), D.int IntKind.i64 (0 : Int), D.bool false]))
        (sif (a0_2 ≠ (0 : Int)) <|
        letN (IntKind.wrap IntKind.i64 (Int.tdiv a1 a0_2)) fun n5 =>
        bindK (F_wattleref01_Width [D.agg [D.int IntKind.i64 a0_0, D.int IntKind.i64 a0_1, D.int IntKind.i64 a0_2]]) fun r6 =>
        asI IntKind.i64 r6 fun i7 =>
        sif (i7 ≠ (0 : Int)) <|
        letN (IntKind.wrap IntKind.i64 (Int.tdiv n5 i7)) fun n8 =>
        letN (IntKind.wrap IntKind.i64 (n8 * a0_2)) fun n9 =>
        sif (a0_2 ≠ (0 : Int)) <|
        letN (Int.tmod a1 a0_2) fun n10 =>
        letN (IntKind.wrap IntKind.i64 (n9 + n10)) fun n11 =>
        bindK (F_wattleref01_Width [D.agg [D.int IntKind.i64 a0_0, D.int IntKind.i64 a0_1, D.int IntKind.i64 a0_2]]) fun r12 =>
        asI IntKind.i64 r12 fun i13 =>
        sif (i13 ≠ (0 : Int)) <|
        letN (Int.tmod n5 i13) fun n14 =>
        bindK (F_wattleref01_Disk   [D.agg [D.int IntKind.i64 a0_0, D.int IntKind.i64 a0_1, D.int IntKind.i64 a0_2], D.int IntKind.i64 n11,     D.int IntKind.i64 n14]) fun r15 =>
        asI IntKind.i64 r15 fun i16 =>
        some (D.tup [D.int IntKind.i64 i16, D.int IntKind.i64 n11, D.bool true]))))
theorem G_wattleref01_Of (F_wattleref01_Check : List D → Option D) (F_wattleref01_Capacity : List D → Option D) (F_wattleref01_Width : List D → Option D) (F_wattleref01_Disk : List D → Option D) (a0_0 : Int) (a0_1 : Int) (a0_2 : Int) (a1 : Int) : denP Try.prog (penv' [(ID.wattleref01_Check, [0], F_wattleref01_Check), (ID.wattleref01_Capacity, [0], F_wattleref01_Capacity), (ID.wattleref01_Width, [0], F_wattleref01_Width), (ID.wattleref01_Disk, [0], F_wattleref01_Disk)]) ann_wattleref01_Of [0, 0, 0] ID.wattleref01_Of [.agg [.int .i64 a0_0, .int .i64 a0_1, .int .i64 a0_2], .int .i64 a1] = g_wattleref01_Of F_wattleref01_Check F_wattleref01_Capacity F_wattleref01_Width F_wattleref01_Disk a0_0 a0_1 a0_2 a1 := by kernel_rfl
theorem F_wattleref01_Of_eq (a0_0 : Int) (a0_1 : Int) (a0_2 : Int) (a1 : Int) : F_wattleref01_Of [.agg [.int .i64 a0_0, .int .i64 a0_1, .int .i64 a0_2], .int .i64 a1] = g_wattleref01_Of F_wattleref01_Check F_wattleref01_Capacity F_wattleref01_Width F_wattleref01_Disk a0_0 a0_1 a0_2 a1 := G_wattleref01_Of F_wattleref01_Check F_wattleref01_Capacity F_wattleref01_Width F_wattleref01_Disk a0_0 a0_1 a0_2 a1
def ann_wattlelaw18_wakes : Ann := []
noncomputable def F_wattlelaw18_wakes : List D → Option D := denP Try.prog (penv' [(ID.plan_Windows, [0], F_plan_Windows)]) ann_wattlelaw18_wakes [0] ID.wattlelaw18_wakes
theorem sound_wattlelaw18_wakes : SoundP Try.prog ID.wattlelaw18_wakes [0] F_wattlelaw18_wakes := denP_sound (penv_ok [fact_plan_Windows]) mixed ⟨Try.f34, by kernel_rfl, by kernel_rfl, by kernel_rfl⟩
noncomputable def fact_wattlelaw18_wakes : Fact Try.prog := ⟨ID.wattlelaw18_wakes, [0], F_wattlelaw18_wakes, sound_wattlelaw18_wakes⟩
noncomputable def g_wattlelaw18_wakes (F_plan_Windows : List D → Option D)  : Option D :=
  bindK (F_plan_Windows   [D.agg [D.int IntKind.i64 (5 : Int), D.int IntKind.i64 (3 : Int), D.int IntKind.i64 (1 : Int)],     D.agg [D.int IntKind.i64 (5 : Int), D.int IntKind.i64 (4 : Int), D.int IntKind.i64 (1 : Int)]]) fun r1 =>
  asI IntKind.i64 r1 fun i2 =>
  some (D.bool (i2 == (16 : Int)))
theorem G_wattlelaw18_wakes (F_plan_Windows : List D → Option D)  : denP Try.prog (penv' [(ID.plan_Windows, [0], F_plan_Windows)]) ann_wattlelaw18_wakes [0] ID.wattlelaw18_wakes [] = g_wattlelaw18_wakes F_plan_Windows  := by kernel_rfl
theorem F_wattlelaw18_wakes_eq  : F_wattlelaw18_wakes [] = g_wattlelaw18_wakes F_plan_Windows  := G_wattlelaw18_wakes F_plan_Windows 
def ann_place_in : Ann := []
noncomputable def F_place_in : List D → Option D := denP Try.prog (penv' [(ID.geom_Check, [0], F_geom_Check)]) ann_place_in [0] ID.place_in
theorem sound_place_in : SoundP Try.prog ID.place_in [0] F_place_in := denP_sound (penv_ok [fact_geom_Check]) mixed ⟨Try.f53, by kernel_rfl, by kernel_rfl, by kernel_rfl⟩
noncomputable def fact_place_in : Fact Try.prog := ⟨ID.place_in, [0], F_place_in, sound_place_in⟩
noncomputable def g_place_in (F_geom_Check : List D → Option D) (a0_0 : Int) (a0_1 : Int) (a0_2 : Int) (a1 : Int) : Option D :=
  bindK (F_geom_Check [D.agg [D.int IntKind.i64 a0_0, D.int IntKind.i64 a0_1, D.int IntKind.i64 a0_2]]) fun r1 =>
  asI IntKind.i64 r1 fun i2 =>
  brK (i2 == (0 : Int))
    (brK (decide (a1 ≥ (0 : Int)))
      (some (D.bool (decide (a1 < (16 : Int)))))
      (some (D.bool false)))
    (some (D.bool false))
theorem G_place_in (F_geom_Check : List D → Option D) (a0_0 : Int) (a0_1 : Int) (a0_2 : Int) (a1 : Int) : denP Try.prog (penv' [(ID.geom_Check, [0], F_geom_Check)]) ann_place_in [0] ID.place_in [.agg [.int .i64 a0_0, .int .i64 a0_1, .int .i64 a0_2], .int .i64 a1] = g_place_in F_geom_Check a0_0 a0_1 a0_2 a1 := by kernel_rfl
theorem F_place_in_eq (a0_0 : Int) (a0_1 : Int) (a0_2 : Int) (a1 : Int) : F_place_in [.agg [.int .i64 a0_0, .int .i64 a0_1, .int .i64 a0_2], .int .i64 a1] = g_place_in F_geom_Check a0_0 a0_1 a0_2 a1 := G_place_in F_geom_Check a0_0 a0_1 a0_2 a1
def ann_place_Parity : Ann := []
noncomputable def F_place_Parity : List D → Option D := denP Try.prog (penv' [(ID.place_in, [0], F_place_in)]) ann_place_Parity [0, 0] ID.place_Parity
theorem sound_place_Parity : SoundP Try.prog ID.place_Parity [0, 0] F_place_Parity := denP_sound (penv_ok [fact_place_in]) mixed ⟨Try.f35, by kernel_rfl, by kernel_rfl, by kernel_rfl⟩
noncomputable def fact_place_Parity : Fact Try.prog := ⟨ID.place_Parity, [0, 0], F_place_Parity, sound_place_Parity⟩
noncomputable def g_place_Parity (F_place_in : List D → Option D) (a0_0 : Int) (a0_1 : Int) (a0_2 : Int) (a1 : Int) : Option D :=
  bindK (F_place_in [D.agg [D.int IntKind.i64 a0_0, D.int IntKind.i64 a0_1, D.int IntKind.i64 a0_2], D.int IntKind.i64 a1]) fun r1 =>
  asB r1 fun b2 =>
  brK (!b2)
    (some (D.tup [D.int IntKind.i64 (-1 : Int), D.int IntKind.i64 (-1 : Int)]))
    (letN (IntKind.wrap IntKind.i64 (a0_1 - (1 : Int))) fun n3 =>
    sif (a0_2 ≠ (0 : Int)) <|
    letN (IntKind.wrap IntKind.i64 (Int.tdiv a1 a0_2)) fun n4 =>
    sif (a0_1 ≠ (0 : Int)) <|
    letN (Int.tmod n4 a0_1) fun n5 =>
    letN (IntKind.wrap IntKind.i64 (n3 - n5)) fun n6 =>
    brK (a0_0 == (5 : Int))
      (some (D.tup [D.int IntKind.i64 n6, D.int IntKind.i64 (-1 : Int)]))
      (letN (IntKind.wrap IntKind.i64 (n6 + (1 : Int))) fun n7 =>
      sif (a0_1 ≠ (0 : Int)) <|
      letN (Int.tmod n7 a0_1) fun n8 =>
      some (D.tup [D.int IntKind.i64 n6, D.int IntKind.i64 n8])))
theorem G_place_Parity (F_place_in : List D → Option D) (a0_0 : Int) (a0_1 : Int) (a0_2 : Int) (a1 : Int) : denP Try.prog (penv' [(ID.place_in, [0], F_place_in)]) ann_place_Parity [0, 0] ID.place_Parity [.agg [.int .i64 a0_0, .int .i64 a0_1, .int .i64 a0_2], .int .i64 a1] = g_place_Parity F_place_in a0_0 a0_1 a0_2 a1 := by kernel_rfl
theorem F_place_Parity_eq (a0_0 : Int) (a0_1 : Int) (a0_2 : Int) (a1 : Int) : F_place_Parity [.agg [.int .i64 a0_0, .int .i64 a0_1, .int .i64 a0_2], .int .i64 a1] = g_place_Parity F_place_in a0_0 a0_1 a0_2 a1 := G_place_Parity F_place_in a0_0 a0_1 a0_2 a1
def ann_place_Disk : Ann := []
noncomputable def F_place_Disk : List D → Option D := denP Try.prog (penv' [(ID.place_in, [0], F_place_in), (ID.geom_Width, [0], F_geom_Width), (ID.place_Parity, [0, 0], F_place_Parity), (ID.geom_Budget, [0], F_geom_Budget)]) ann_place_Disk [0] ID.place_Disk
theorem sound_place_Disk : SoundP Try.prog ID.place_Disk [0] F_place_Disk := denP_sound (penv_ok [fact_place_in, fact_geom_Width, fact_place_Parity, fact_geom_Budget]) mixed ⟨Try.f48, by kernel_rfl, by kernel_rfl, by kernel_rfl⟩
noncomputable def fact_place_Disk : Fact Try.prog := ⟨ID.place_Disk, [0], F_place_Disk, sound_place_Disk⟩
noncomputable def g_place_Disk (F_place_in : List D → Option D) (F_geom_Width : List D → Option D) (F_place_Parity : List D → Option D) (F_geom_Budget : List D → Option D) (a0_0 : Int) (a0_1 : Int) (a0_2 : Int) (a1 : Int) (a2 : Int) : Option D :=
  bindK (F_place_in [D.agg [D.int IntKind.i64 a0_0, D.int IntKind.i64 a0_1, D.int IntKind.i64 a0_2], D.int IntKind.i64 a1]) fun r1 =>
  asB r1 fun b2 =>
  brK (!b2)
    (some (D.int IntKind.i64 (-1 : Int)))
    (brK (decide (a2 < (0 : Int)))
      (some (D.int IntKind.i64 (-1 : Int)))
      (bindK (F_geom_Width [D.agg [D.int IntKind.i64 a0_0, D.int IntKind.i64 a0_1, D.int IntKind.i64 a0_2]]) fun r3 =>
      asI IntKind.i64 r3 fun i4 =>
      brK (decide (a2 ≥ i4))
        (some (D.int IntKind.i64 (-1 : Int)))
        (bindK (F_place_Parity [D.agg [D.int IntKind.i64 a0_0, D.int IntKind.i64 a0_1, D.int IntKind.i64 a0_2], D.int IntKind.i64 a1]) fun r5 =>
        asTup r5 fun ts6 =>
        getCells ([Lf.any, Lf.any]) ts6 fun c7 =>
        asI IntKind.i64 c7.fst fun i8 =>
        asI IntKind.i64 c7.snd.fst fun i9 =>
        bindK (F_geom_Budget [D.agg [D.int IntKind.i64 a0_0, D.int IntKind.i64 a0_1, D.int IntKind.i64 a0_2]]) fun r10 =>
        asI IntKind.i64 r10 fun i11 =>
        letN (IntKind.wrap IntKind.i64 (i8 + i11)) fun n12 =>
        letN (IntKind.wrap IntKind.i64 (n12 + a2)) fun n13 =>
        sif (a0_1 ≠ (0 : Int)) <|
        letN (Int.tmod n13 a0_1) fun n14 =>
        some (D.int IntKind.i64 n14))))
theorem G_place_Disk (F_place_in : List D → Option D) (F_geom_Width : List D → Option D) (F_place_Parity : List D → Option D) (F_geom_Budget : List D → Option D) (a0_0 : Int) (a0_1 : Int) (a0_2 : Int) (a1 : Int) (a2 : Int) : denP Try.prog (penv' [(ID.place_in, [0], F_place_in), (ID.geom_Width, [0], F_geom_Width), (ID.place_Parity, [0, 0], F_place_Parity), (ID.geom_Budget, [0], F_geom_Budget)]) ann_place_Disk [0] ID.place_Disk [.agg [.int .i64 a0_0, .int .i64 a0_1, .int .i64 a0_2], .int .i64 a1, .int .i64 a2] = g_place_Disk F_place_in F_geom_Width F_place_Parity F_geom_Budget a0_0 a0_1 a0_2 a1 a2 := by kernel_rfl
theorem F_place_Disk_eq (a0_0 : Int) (a0_1 : Int) (a0_2 : Int) (a1 : Int) (a2 : Int) : F_place_Disk [.agg [.int .i64 a0_0, .int .i64 a0_1, .int .i64 a0_2], .int .i64 a1, .int .i64 a2] = g_place_Disk F_place_in F_geom_Width F_place_Parity F_geom_Budget a0_0 a0_1 a0_2 a1 a2 := G_place_Disk F_place_in F_geom_Width F_place_Parity F_geom_Budget a0_0 a0_1 a0_2 a1 a2
def ann_place_Of : Ann := []
noncomputable def F_place_Of : List D → Option D := denP Try.prog (penv' [(ID.geom_Capacity, [0], F_geom_Capacity), (ID.geom_Width, [0], F_geom_Width), (ID.place_Disk, [0], F_place_Disk)]) ann_place_Of [0, 0, 0] ID.place_Of
theorem sound_place_Of : SoundP Try.prog ID.place_Of [0, 0, 0] F_place_Of := denP_sound (penv_ok [fact_geom_Capacity, fact_geom_Width, fact_place_Disk]) mixed ⟨Try.f37, by kernel_rfl, by kernel_rfl, by kernel_rfl⟩
noncomputable def fact_place_Of : Fact Try.prog := ⟨ID.place_Of, [0, 0, 0], F_place_Of, sound_place_Of⟩
noncomputable def g_place_Of (F_geom_Capacity : List D → Option D) (F_geom_Width : List D → Option D) (F_place_Disk : List D → Option D) (a0_0 : Int) (a0_1 : Int) (a0_2 : Int) (a1 : Int) : Option D :=
  brK (decide (a1 < (0 : Int)))
    (some (D.tup [D.int IntKind.i64 (0 : Int), D.int IntKind.i64 (0 : Int), D.bool false]))
    (bindK (F_geom_Capacity [D.agg [D.int IntKind.i64 a0_0, D.int IntKind.i64 a0_1, D.int IntKind.i64 a0_2]]) fun r1 =>
    asI IntKind.i64 r1 fun i2 =>
    brK (decide (a1 ≥ i2))
      (some (D.tup [D.int IntKind.i64 (0 : Int), D.int IntKind.i64 (0 : Int), D.bool false]))
      (sif (a0_2 ≠ (0 : Int)) <|
      letN (IntKind.wrap IntKind.i64 (Int.tdiv a1 a0_2)) fun n3 =>
      bindK (F_geom_Width [D.agg [D.int IntKind.i64 a0_0, D.int IntKind.i64 a0_1, D.int IntKind.i64 a0_2]]) fun r4 =>
      asI IntKind.i64 r4 fun i5 =>
      sif (i5 ≠ (0 : Int)) <|
      letN (IntKind.wrap IntKind.i64 (Int.tdiv n3 i5)) fun n6 =>
      letN (IntKind.wrap IntKind.i64 (n6 * a0_2)) fun n7 =>
      sif (a0_2 ≠ (0 : Int)) <|
      letN (Int.tmod a1 a0_2) fun n8 =>
      letN (IntKind.wrap IntKind.i64 (n7 + n8)) fun n9 =>
      bindK (F_geom_Width [D.agg [D.int IntKind.i64 a0_0, D.int IntKind.i64 a0_1, D.int IntKind.i64 a0_2]]) fun r10 =>
      asI IntKind.i64 r10 fun i11 =>
      sif (i11 ≠ (0 : Int)) <|
      letN (Int.tmod n3 i11) fun n12 =>
      bindK (F_place_Disk   [D.agg [D.int IntKind.i64 a0_0, D.int IntKind.i64 a0_1, D.int IntKind.i64 a0_2], D.int IntKind.i64 n9,     D.int IntKind.i64 n12]) fun r13 =>
      asI IntKind.i64 r13 fun i14 =>
      some (D.tup [D.int IntKind.i64 i14, D.int IntKind.i64 n9, D.bool true])))
theorem G_place_Of (F_geom_Capacity : List D → Option D) (F_geom_Width : List D → Option D) (F_place_Disk : List D → Option D) (a0_0 : Int) (a0_1 : Int) (a0_2 : Int) (a1 : Int) : denP Try.prog (penv' [(ID.geom_Capacity, [0], F_geom_Capacity), (ID.geom_Width, [0], F_geom_Width), (ID.place_Disk, [0], F_place_Disk)]) ann_place_Of [0, 0, 0] ID.place_Of [.agg [.int .i64 a0_0, .int .i64 a0_1, .int .i64 a0_2], .int .i64 a1] = g_place_Of F_geom_Capacity F_geom_Width F_place_Disk a0_0 a0_1 a0_2 a1 := by kernel_rfl
theorem F_place_Of_eq (a0_0 : Int) (a0_1 : Int) (a0_2 : Int) (a1 : Int) : F_place_Of [.agg [.int .i64 a0_0, .int .i64 a0_1, .int .i64 a0_2], .int .i64 a1] = g_place_Of F_geom_Capacity F_geom_Width F_place_Disk a0_0 a0_1 a0_2 a1 := G_place_Of F_geom_Capacity F_geom_Width F_place_Disk a0_0 a0_1 a0_2 a1
def ann_wattlelaw08_wakes : Ann := []
noncomputable def F_wattlelaw08_wakes : List D → Option D := denP Try.prog (penv' [(ID.place_Of, [0, 0, 0], F_place_Of)]) ann_wattlelaw08_wakes [0] ID.wattlelaw08_wakes
theorem sound_wattlelaw08_wakes : SoundP Try.prog ID.wattlelaw08_wakes [0] F_wattlelaw08_wakes := denP_sound (penv_ok [fact_place_Of]) mixed ⟨Try.f38, by kernel_rfl, by kernel_rfl, by kernel_rfl⟩
noncomputable def fact_wattlelaw08_wakes : Fact Try.prog := ⟨ID.wattlelaw08_wakes, [0], F_wattlelaw08_wakes, sound_wattlelaw08_wakes⟩
noncomputable def g_wattlelaw08_wakes (F_place_Of : List D → Option D)  : Option D :=
  bindK (F_place_Of   [D.agg [D.int IntKind.i64 (5 : Int), D.int IntKind.i64 (3 : Int), D.int IntKind.i64 (1 : Int)],     D.int IntKind.i64 (0 : Int)]) fun r1 =>
  asTup r1 fun ts2 =>
  getCells ([Lf.any, Lf.any, Lf.any]) ts2 fun c3 =>
  asI IntKind.i64 c3.fst fun i4 =>
  asI IntKind.i64 c3.snd.fst fun i5 =>
  asB c3.snd.snd.fst fun b6 =>
  brK b6
    (brK (i4 == (0 : Int))
      (some (D.bool (i5 == (0 : Int))))
      (some (D.bool false)))
    (some (D.bool false))
theorem G_wattlelaw08_wakes (F_place_Of : List D → Option D)  : denP Try.prog (penv' [(ID.place_Of, [0, 0, 0], F_place_Of)]) ann_wattlelaw08_wakes [0] ID.wattlelaw08_wakes [] = g_wattlelaw08_wakes F_place_Of  := by kernel_rfl
theorem F_wattlelaw08_wakes_eq  : F_wattlelaw08_wakes [] = g_wattlelaw08_wakes F_place_Of  := G_wattlelaw08_wakes F_place_Of 
def ann_plan_Span : Ann := []
noncomputable def F_plan_Span : List D → Option D := denP Try.prog (penv' [(ID.plan_Windows, [0], F_plan_Windows), (ID.plan_Rows, [0], F_plan_Rows), (ID.geom_Width, [0], F_geom_Width)]) ann_plan_Span [0, 0] ID.plan_Span
theorem sound_plan_Span : SoundP Try.prog ID.plan_Span [0, 0] F_plan_Span := denP_sound (penv_ok [fact_plan_Windows, fact_plan_Rows, fact_geom_Width]) mixed ⟨Try.f39, by kernel_rfl, by kernel_rfl, by kernel_rfl⟩
noncomputable def fact_plan_Span : Fact Try.prog := ⟨ID.plan_Span, [0, 0], F_plan_Span, sound_plan_Span⟩
noncomputable def g_plan_Span (F_plan_Windows : List D → Option D) (F_plan_Rows : List D → Option D) (F_geom_Width : List D → Option D) (a0_0 : Int) (a0_1 : Int) (a0_2 : Int) (a1_0 : Int) (a1_1 : Int) (a1_2 : Int) (a2 : Int) : Option D :=
  brK (decide (a2 < (0 : Int)))
    (some (D.tup [D.int IntKind.i64 (0 : Int), D.int IntKind.i64 (0 : Int)]))
    (bindK (F_plan_Windows   [D.agg [D.int IntKind.i64 a0_0, D.int IntKind.i64 a0_1, D.int IntKind.i64 a0_2],     D.agg [D.int IntKind.i64 a1_0, D.int IntKind.i64 a1_1, D.int IntKind.i64 a1_2]]) fun r1 =>
    asI IntKind.i64 r1 fun i2 =>
    brK (decide (a2 ≥ i2))
      (some (D.tup [D.int IntKind.i64 (0 : Int), D.int IntKind.i64 (0 : Int)]))
      (bindK (F_plan_Rows   [D.agg [D.int IntKind.i64 a0_0, D.int IntKind.i64 a0_1, D.int IntKind.i64 a0_2],     D.agg [D.int IntKind.i64 a1_0, D.int IntKind.i64 a1_1, D.int IntKind.i64 a1_2]]) fun r3 =>
      asI IntKind.i64 r3 fun i4 =>
      bindK (F_geom_Width [D.agg [D.int IntKind.i64 a1_0, D.int IntKind.i64 a1_1, D.int IntKind.i64 a1_2]]) fun r5 =>
      asI IntKind.i64 r5 fun i6 =>
      letN (IntKind.wrap IntKind.i64 (i4 * i6)) fun n7 =>
      letN (IntKind.wrap IntKind.i64 (a2 * n7)) fun n8 =>
      letN (IntKind.wrap IntKind.i64 (a2 + (1 : Int))) fun n9 =>
      letN (IntKind.wrap IntKind.i64 (n9 * n7)) fun n10 =>
      some (D.tup [D.int IntKind.i64 n8, D.int IntKind.i64 n10])))
theorem G_plan_Span (F_plan_Windows : List D → Option D) (F_plan_Rows : List D → Option D) (F_geom_Width : List D → Option D) (a0_0 : Int) (a0_1 : Int) (a0_2 : Int) (a1_0 : Int) (a1_1 : Int) (a1_2 : Int) (a2 : Int) : denP Try.prog (penv' [(ID.plan_Windows, [0], F_plan_Windows), (ID.plan_Rows, [0], F_plan_Rows), (ID.geom_Width, [0], F_geom_Width)]) ann_plan_Span [0, 0] ID.plan_Span [.agg [.int .i64 a0_0, .int .i64 a0_1, .int .i64 a0_2], .agg [.int .i64 a1_0, .int .i64 a1_1, .int .i64 a1_2], .int .i64 a2] = g_plan_Span F_plan_Windows F_plan_Rows F_geom_Width a0_0 a0_1 a0_2 a1_0 a1_1 a1_2 a2 := by kernel_rfl
theorem F_plan_Span_eq (a0_0 : Int) (a0_1 : Int) (a0_2 : Int) (a1_0 : Int) (a1_1 : Int) (a1_2 : Int) (a2 : Int) : F_plan_Span [.agg [.int .i64 a0_0, .int .i64 a0_1, .int .i64 a0_2], .agg [.int .i64 a1_0, .int .i64 a1_1, .int .i64 a1_2], .int .i64 a2] = g_plan_Span F_plan_Windows F_plan_Rows F_geom_Width a0_0 a0_1 a0_2 a1_0 a1_1 a1_2 a2 := G_plan_Span F_plan_Windows F_plan_Rows F_geom_Width a0_0 a0_1 a0_2 a1_0 a1_1 a1_2 a2
def ann_wattleref01_least : Ann := [(0, [.val (.cell (.int .i64)), .val (.cell (.int .i64)), .dead, .dead, .dead, .val (.cell (.int .i64))])]
noncomputable def F_wattleref01_least : List D → Option D := denP Try.prog (penv' []) ann_wattleref01_least [0] ID.wattleref01_least
theorem sound_wattleref01_least : SoundP Try.prog ID.wattleref01_least [0] F_wattleref01_least := denP_sound (penv_ok []) mixed ⟨Try.f54, by kernel_rfl, by kernel_rfl, by kernel_rfl⟩
noncomputable def fact_wattleref01_least : Fact Try.prog := ⟨ID.wattleref01_least, [0], F_wattleref01_least, sound_wattleref01_least⟩
noncomputable def g_wattleref01_least (a0 : Int) (a1 : Int) : Option D :=
  loopN (α := (Int × Int × Int × PUnit) × PUnit) (fun again1 ((i2, (i3, (i4, _))), _) =>
    sif (i3 ≠ (0 : Int)) <|
    letN (Int.tmod i4 i3) fun n5 =>
    brK (n5 != (0 : Int))
      (letN (IntKind.wrap IntKind.i64 (i4 + i2)) fun n6 =>
      again1 (((i2, i3, n6, PUnit.unit), PUnit.unit)))
      (some (D.int IntKind.i64 i4)))
    (((a0, a1, a0, PUnit.unit), PUnit.unit))
theorem G_wattleref01_least (a0 : Int) (a1 : Int) : denP Try.prog (penv' []) ann_wattleref01_least [0] ID.wattleref01_least [.int .i64 a0, .int .i64 a1] = g_wattleref01_least a0 a1 := by kernel_rfl
theorem F_wattleref01_least_eq (a0 : Int) (a1 : Int) : F_wattleref01_least [.int .i64 a0, .int .i64 a1] = g_wattleref01_least a0 a1 := G_wattleref01_least a0 a1
def ann_wattleref01_Rows : Ann := []
noncomputable def F_wattleref01_Rows : List D → Option D := denP Try.prog (penv' [(ID.wattleref01_Can, [0], F_wattleref01_Can), (ID.wattleref01_least, [0], F_wattleref01_least)]) ann_wattleref01_Rows [0] ID.wattleref01_Rows
theorem sound_wattleref01_Rows : SoundP Try.prog ID.wattleref01_Rows [0] F_wattleref01_Rows := denP_sound (penv_ok [fact_wattleref01_Can, fact_wattleref01_least]) mixed ⟨Try.f40, by kernel_rfl, by kernel_rfl, by kernel_rfl⟩
noncomputable def fact_wattleref01_Rows : Fact Try.prog := ⟨ID.wattleref01_Rows, [0], F_wattleref01_Rows, sound_wattleref01_Rows⟩
noncomputable def g_wattleref01_Rows (F_wattleref01_Can : List D → Option D) (F_wattleref01_least : List D → Option D) (a0_0 : Int) (a0_1 : Int) (a0_2 : Int) (a1_0 : Int) (a1_1 : Int) (a1_2 : Int) : Option D :=
  bindK (F_wattleref01_Can   [D.agg [D.int IntKind.i64 a0_0, D.int IntKind.i64 a0_1, D.int IntKind.i64 a0_2],     D.agg [D.int IntKind.i64 a1_0, D.int IntKind.i64 a1_1, D.int IntKind.i64 a1_2]]) fun r1 =>
  asB r1 fun b2 =>
  brK (!b2)
    (some (D.int IntKind.i64 (0 : Int)))
    (bindK (F_wattleref01_least [D.int IntKind.i64 a0_2, D.int IntKind.i64 a1_2]) fun r3 =>
    asI IntKind.i64 r3 fun i4 =>
    some (D.int IntKind.i64 i4))
theorem G_wattleref01_Rows (F_wattleref01_Can : List D → Option D) (F_wattleref01_least : List D → Option D) (a0_0 : Int) (a0_1 : Int) (a0_2 : Int) (a1_0 : Int) (a1_1 : Int) (a1_2 : Int) : denP Try.prog (penv' [(ID.wattleref01_Can, [0], F_wattleref01_Can), (ID.wattleref01_least, [0], F_wattleref01_least)]) ann_wattleref01_Rows [0] ID.wattleref01_Rows [.agg [.int .i64 a0_0, .int .i64 a0_1, .int .i64 a0_2], .agg [.int .i64 a1_0, .int .i64 a1_1, .int .i64 a1_2]] = g_wattleref01_Rows F_wattleref01_Can F_wattleref01_least a0_0 a0_1 a0_2 a1_0 a1_1 a1_2 := by kernel_rfl
theorem F_wattleref01_Rows_eq (a0_0 : Int) (a0_1 : Int) (a0_2 : Int) (a1_0 : Int) (a1_1 : Int) (a1_2 : Int) : F_wattleref01_Rows [.agg [.int .i64 a0_0, .int .i64 a0_1, .int .i64 a0_2], .agg [.int .i64 a1_0, .int .i64 a1_1, .int .i64 a1_2]] = g_wattleref01_Rows F_wattleref01_Can F_wattleref01_least a0_0 a0_1 a0_2 a1_0 a1_1 a1_2 := G_wattleref01_Rows F_wattleref01_Can F_wattleref01_least a0_0 a0_1 a0_2 a1_0 a1_1 a1_2
def ann_wattleref01_Windows : Ann := []
noncomputable def F_wattleref01_Windows : List D → Option D := denP Try.prog (penv' [(ID.wattleref01_Can, [0], F_wattleref01_Can), (ID.wattleref01_Rows, [0], F_wattleref01_Rows)]) ann_wattleref01_Windows [0] ID.wattleref01_Windows
theorem sound_wattleref01_Windows : SoundP Try.prog ID.wattleref01_Windows [0] F_wattleref01_Windows := denP_sound (penv_ok [fact_wattleref01_Can, fact_wattleref01_Rows]) mixed ⟨Try.f41, by kernel_rfl, by kernel_rfl, by kernel_rfl⟩
noncomputable def fact_wattleref01_Windows : Fact Try.prog := ⟨ID.wattleref01_Windows, [0], F_wattleref01_Windows, sound_wattleref01_Windows⟩
noncomputable def g_wattleref01_Windows (F_wattleref01_Can : List D → Option D) (F_wattleref01_Rows : List D → Option D) (a0_0 : Int) (a0_1 : Int) (a0_2 : Int) (a1_0 : Int) (a1_1 : Int) (a1_2 : Int) : Option D :=
  bindK (F_wattleref01_Can   [D.agg [D.int IntKind.i64 a0_0, D.int IntKind.i64 a0_1, D.int IntKind.i64 a0_2],     D.agg [D.int IntKind.i64 a1_0, D.int IntKind.i64 a1_1, D.int IntKind.i64 a1_2]]) fun r1 =>
  asB r1 fun b2 =>
  brK (!b2)
    (some (D.int IntKind.i64 (0 : Int)))
    (bindK (F_wattleref01_Rows   [D.agg [D.int IntKind.i64 a0_0, D.int IntKind.i64 a0_1, D.int IntKind.i64 a0_2],     D.agg [D.int IntKind.i64 a1_0, D.int IntKind.i64 a1_1, D.int IntKind.i64 a1_2]]) fun r3 =>
    asI IntKind.i64 r3 fun i4 =>
    sif (i4 ≠ (0 : Int)) <|
    letN (IntKind.wrap IntKind.i64 (Int.tdiv (16 : Int) i4)) fun n5 =>
    some (D.int IntKind.i64 n5))
theorem G_wattleref01_Windows (F_wattleref01_Can : List D → Option D) (F_wattleref01_Rows : List D → Option D) (a0_0 : Int) (a0_1 : Int) (a0_2 : Int) (a1_0 : Int) (a1_1 : Int) (a1_2 : Int) : denP Try.prog (penv' [(ID.wattleref01_Can, [0], F_wattleref01_Can), (ID.wattleref01_Rows, [0], F_wattleref01_Rows)]) ann_wattleref01_Windows [0] ID.wattleref01_Windows [.agg [.int .i64 a0_0, .int .i64 a0_1, .int .i64 a0_2], .agg [.int .i64 a1_0, .int .i64 a1_1, .int .i64 a1_2]] = g_wattleref01_Windows F_wattleref01_Can F_wattleref01_Rows a0_0 a0_1 a0_2 a1_0 a1_1 a1_2 := by kernel_rfl
theorem F_wattleref01_Windows_eq (a0_0 : Int) (a0_1 : Int) (a0_2 : Int) (a1_0 : Int) (a1_1 : Int) (a1_2 : Int) : F_wattleref01_Windows [.agg [.int .i64 a0_0, .int .i64 a0_1, .int .i64 a0_2], .agg [.int .i64 a1_0, .int .i64 a1_1, .int .i64 a1_2]] = g_wattleref01_Windows F_wattleref01_Can F_wattleref01_Rows a0_0 a0_1 a0_2 a1_0 a1_1 a1_2 := G_wattleref01_Windows F_wattleref01_Can F_wattleref01_Rows a0_0 a0_1 a0_2 a1_0 a1_1 a1_2
def ann_wattleref01_Span : Ann := []
noncomputable def F_wattleref01_Span : List D → Option D := denP Try.prog (penv' [(ID.wattleref01_Windows, [0], F_wattleref01_Windows), (ID.wattleref01_Rows, [0], F_wattleref01_Rows), (ID.wattleref01_Width, [0], F_wattleref01_Width)]) ann_wattleref01_Span [0, 0] ID.wattleref01_Span
theorem sound_wattleref01_Span : SoundP Try.prog ID.wattleref01_Span [0, 0] F_wattleref01_Span := denP_sound (penv_ok [fact_wattleref01_Windows, fact_wattleref01_Rows, fact_wattleref01_Width]) mixed ⟨Try.f42, by kernel_rfl, by kernel_rfl, by kernel_rfl⟩
noncomputable def fact_wattleref01_Span : Fact Try.prog := ⟨ID.wattleref01_Span, [0, 0], F_wattleref01_Span, sound_wattleref01_Span⟩
noncomputable def g_wattleref01_Span (F_wattleref01_Windows : List D → Option D) (F_wattleref01_Rows : List D → Option D) (F_wattleref01_Width : List D → Option D) (a0_0 : Int) (a0_1 : Int) (a0_2 : Int) (a1_0 : Int) (a1_1 : Int) (a1_2 : Int) (a2 : Int) : Option D :=
  brK (decide (a2 < (0 : Int)))
    (some (D.tup [D.int IntKind.i64 (0 : Int), D.int IntKind.i64 (0 : Int)]))
    (bindK (F_wattleref01_Windows   [D.agg [D.int IntKind.i64 a0_0, D.int IntKind.i64 a0_1, D.int IntKind.i64 a0_2],     D.agg [D.int IntKind.i64 a1_0, D.int IntKind.i64 a1_1, D.int IntKind.i64 a1_2]]) fun r1 =>
    asI IntKind.i64 r1 fun i2 =>
    brK (decide (a2 ≥ i2))
      (some (D.tup [D.int IntKind.i64 (0 : Int), D.int IntKind.i64 (0 : Int)]))
      (bindK (F_wattleref01_Rows   [D.agg [D.int IntKind.i64 a0_0, D.int IntKind.i64 a0_1, D.int IntKind.i64 a0_2],     D.agg [D.int IntKind.i64 a1_0, D.int IntKind.i64 a1_1, D.int IntKind.i64 a1_2]]) fun r3 =>
      asI IntKind.i64 r3 fun i4 =>
      bindK (F_wattleref01_Width [D.agg [D.int IntKind.i64 a1_0, D.int IntKind.i64 a1_1, D.int IntKind.i64 a1_2]]) fun r5 =>
      asI IntKind.i64 r5 fun i6 =>
      letN (IntKind.wrap IntKind.i64 (i4 * i6)) fun n7 =>
      letN (IntKind.wrap IntKind.i64 (a2 * n7)) fun n8 =>
      letN (IntKind.wrap IntKind.i64 (a2 + (1 : Int))) fun n9 =>
      letN (IntKind.wrap IntKind.i64 (n9 * n7)) fun n10 =>
      some (D.tup [D.int IntKind.i64 n8, D.int IntKind.i64 n10])))
theorem G_wattleref01_Span (F_wattleref01_Windows : List D → Option D) (F_wattleref01_Rows : List D → Option D) (F_wattleref01_Width : List D → Option D) (a0_0 : Int) (a0_1 : Int) (a0_2 : Int) (a1_0 : Int) (a1_1 : Int) (a1_2 : Int) (a2 : Int) : denP Try.prog (penv' [(ID.wattleref01_Windows, [0], F_wattleref01_Windows), (ID.wattleref01_Rows, [0], F_wattleref01_Rows), (ID.wattleref01_Width, [0], F_wattleref01_Width)]) ann_wattleref01_Span [0, 0] ID.wattleref01_Span [.agg [.int .i64 a0_0, .int .i64 a0_1, .int .i64 a0_2], .agg [.int .i64 a1_0, .int .i64 a1_1, .int .i64 a1_2], .int .i64 a2] = g_wattleref01_Span F_wattleref01_Windows F_wattleref01_Rows F_wattleref01_Width a0_0 a0_1 a0_2 a1_0 a1_1 a1_2 a2 := by kernel_rfl
theorem F_wattleref01_Span_eq (a0_0 : Int) (a0_1 : Int) (a0_2 : Int) (a1_0 : Int) (a1_1 : Int) (a1_2 : Int) (a2 : Int) : F_wattleref01_Span [.agg [.int .i64 a0_0, .int .i64 a0_1, .int .i64 a0_2], .agg [.int .i64 a1_0, .int .i64 a1_1, .int .i64 a1_2], .int .i64 a2] = g_wattleref01_Span F_wattleref01_Windows F_wattleref01_Rows F_wattleref01_Width a0_0 a0_1 a0_2 a1_0 a1_1 a1_2 a2 := G_wattleref01_Span F_wattleref01_Windows F_wattleref01_Rows F_wattleref01_Width a0_0 a0_1 a0_2 a1_0 a1_1 a1_2 a2
def ann_wattleref01_Cursor : Ann := []
noncomputable def F_wattleref01_Cursor : List D → Option D := denP Try.prog (penv' [(ID.wattleref01_Windows, [0], F_wattleref01_Windows), (ID.wattleref01_Rows, [0], F_wattleref01_Rows), (ID.wattleref01_Width, [0], F_wattleref01_Width), (ID.wattleref01_Capacity, [0], F_wattleref01_Capacity)]) ann_wattleref01_Cursor [0] ID.wattleref01_Cursor
theorem sound_wattleref01_Cursor : SoundP Try.prog ID.wattleref01_Cursor [0] F_wattleref01_Cursor := denP_sound (penv_ok [fact_wattleref01_Windows, fact_wattleref01_Rows, fact_wattleref01_Width, fact_wattleref01_Capacity]) mixed ⟨Try.f43, by kernel_rfl, by kernel_rfl, by kernel_rfl⟩
noncomputable def fact_wattleref01_Cursor : Fact Try.prog := ⟨ID.wattleref01_Cursor, [0], F_wattleref01_Cursor, sound_wattleref01_Cursor⟩
noncomputable def g_wattleref01_Cursor (F_wattleref01_Windows : List D → Option D) (F_wattleref01_Rows : List D → Option D) (F_wattleref01_Width : List D → Option D) (F_wattleref01_Capacity : List D → Option D) (a0_0 : Int) (a0_1 : Int) (a0_2 : Int) (a1_0 : Int) (a1_1 : Int) (a1_2 : Int) (a2 : Int) : Option D :=
  brK (decide (a2 < (0 : Int)))
    (some (D.int IntKind.i64 (0 : Int)))
    (bindK (F_wattleref01_Windows   [D.agg [D.int IntKind.i64 a0_0, D.int IntKind.i64 a0_1, D.int IntKind.i64 a0_2],     D.agg [D.int IntKind.i64 a1_0, D.int IntKind.i64 a1_1, D.int IntKind.i64 a1_2]]) fun r1 =>
    asI IntKind.i64 r1 fun i2 =>
    brK (decide (a2 > i2))
      (some (D.int IntKind.i64 (0 : Int)))
      (bindK (F_wattleref01_Rows   [D.agg [D.int IntKind.i64 a0_0, D.int IntKind.i64 a0_1, D.int IntKind.i64 a0_2],     D.agg [D.int IntKind.i64 a1_0, D.int IntKind.i64 a1_1, D.int IntKind.i64 a1_2]]) fun r3 =>
      asI IntKind.i64 r3 fun i4 =>
      letN (IntKind.wrap IntKind.i64 (a2 * i4)) fun n5 =>
      bindK (F_wattleref01_Width [D.agg [D.int IntKind.i64 a1_0, D.int IntKind.i64 a1_1, D.int IntKind.i64 a1_2]]) fun r6 =>
      asI IntKind.i64 r6 fun i7 =>
      letN (IntKind.wrap IntKind.i64 (n5 * i7)) fun n8 =>
      bindK (F_wattleref01_Capacity [D.agg [D.int IntKind.i64 a0_0, D.int IntKind.i64 a0_1, D.int IntKind.i64 a0_2]]) fun r9 =>
      asI IntKind.i64 r9 fun i10 =>
      letN (min n8 i10) fun n11 =>
      some (D.int IntKind.i64 n11)))
theorem G_wattleref01_Cursor (F_wattleref01_Windows : List D → Option D) (F_wattleref01_Rows : List D → Option D) (F_wattleref01_Width : List D → Option D) (F_wattleref01_Capacity : List D → Option D) (a0_0 : Int) (a0_1 : Int) (a0_2 : Int) (a1_0 : Int) (a1_1 : Int) (a1_2 : Int) (a2 : Int) : denP Try.prog (penv' [(ID.wattleref01_Windows, [0], F_wattleref01_Windows), (ID.wattleref01_Rows, [0], F_wattleref01_Rows), (ID.wattleref01_Width, [0], F_wattleref01_Width), (ID.wattleref01_Capacity, [0], F_wattleref01_Capacity)]) ann_wattleref01_Cursor [0] ID.wattleref01_Cursor [.agg [.int .i64 a0_0, .int .i64 a0_1, .int .i64 a0_2], .agg [.int .i64 a1_0, .int .i64 a1_1, .int .i64 a1_2], .int .i64 a2] = g_wattleref01_Cursor F_wattleref01_Windows F_wattleref01_Rows F_wattleref01_Width F_wattleref01_Capacity a0_0 a0_1 a0_2 a1_0 a1_1 a1_2 a2 := by kernel_rfl
theorem F_wattleref01_Cursor_eq (a0_0 : Int) (a0_1 : Int) (a0_2 : Int) (a1_0 : Int) (a1_1 : Int) (a1_2 : Int) (a2 : Int) : F_wattleref01_Cursor [.agg [.int .i64 a0_0, .int .i64 a0_1, .int .i64 a0_2], .agg [.int .i64 a1_0, .int .i64 a1_1, .int .i64 a1_2], .int .i64 a2] = g_wattleref01_Cursor F_wattleref01_Windows F_wattleref01_Rows F_wattleref01_Width F_wattleref01_Capacity a0_0 a0_1 a0_2 a1_0 a1_1 a1_2 a2 := G_wattleref01_Cursor F_wattleref01_Windows F_wattleref01_Rows F_wattleref01_Width F_wattleref01_Capacity a0_0 a0_1 a0_2 a1_0 a1_1 a1_2 a2
def ann_wattleref01_Numbers : Ann := [(1, [.dead, .val (.cell (.int .i64)), .box true [(.int .i64), (.int .i64), (.int .i64)], .dead, .dead, .own 1, .val (.cell (.int .i64))])]
noncomputable def F_wattleref01_Numbers : List D → Option D := denP Try.prog (penv' [(ID.wattleref01_fine, [0], F_wattleref01_fine), (ID.wattleref01_Width, [0], F_wattleref01_Width)]) ann_wattleref01_Numbers [1] ID.wattleref01_Numbers
theorem sound_wattleref01_Numbers : SoundP Try.prog ID.wattleref01_Numbers [1] F_wattleref01_Numbers := denP_sound (penv_ok [fact_wattleref01_fine, fact_wattleref01_Width]) mixed ⟨Try.f44, by kernel_rfl, by kernel_rfl, by kernel_rfl⟩
noncomputable def fact_wattleref01_Numbers : Fact Try.prog := ⟨ID.wattleref01_Numbers, [1], F_wattleref01_Numbers, sound_wattleref01_Numbers⟩
noncomputable def g_wattleref01_Numbers (F_wattleref01_fine : List D → Option D) (F_wattleref01_Width : List D → Option D) (a0_0 : Int) (a0_1 : Int) (a0_2 : Int) (a1 : Int) : Option D :=
  bindK (F_wattleref01_fine   [D.agg [D.int IntKind.i64 a0_0, D.int IntKind.i64 a0_1, D.int IntKind.i64 a0_2], D.int IntKind.i64 a1]) fun r1 =>
  asB r1 fun b2 =>
  brK (!b2)
    (some (D.sl Tag.own []))
    (loopN (α := (Int × (Int × Int × Int × PUnit) × List D × Int × PUnit) × PUnit) (fun again3 ((i4, ((i5, (i6, (i7, _))), (l8, (i9, _)))), _) =>
      bindK (F_wattleref01_Width [D.agg [D.int IntKind.i64 i5, D.int IntKind.i64 i6, D.int IntKind.i64 i7]]) fun r10 =>
      asI IntKind.i64 r10 fun i11 =>
      brK (decide (i9 < i11))
        (sif (i7 ≠ (0 : Int)) <|
        letN (IntKind.wrap IntKind.i64 (Int.tdiv i4 i7)) fun n12 =>
        bindK (F_wattleref01_Width [D.agg [D.int IntKind.i64 i5, D.int IntKind.i64 i6, D.int IntKind.i64 i7]]) fun r13 =>
        asI IntKind.i64 r13 fun i14 =>
        letN (IntKind.wrap IntKind.i64 (n12 * i14)) fun n15 =>
        letN (IntKind.wrap IntKind.i64 (n15 + i9)) fun n16 =>
        letN (IntKind.wrap IntKind.i64 (n16 * i7)) fun n17 =>
        sif (i7 ≠ (0 : Int)) <|
        letN (Int.tmod i4 i7) fun n18 =>
        letN (IntKind.wrap IntKind.i64 (n17 + n18)) fun n19 =>
        sif (List.length l8 + (1 : Nat) ≤ (4294967296 : Nat)) <|
        sif (List.length l8 = List.length l8) <|
        letN (IntKind.wrap IntKind.i64 (i9 + (1 : Int))) fun n20 =>
        sif (List.length l8 + (1 : Nat) = List.length (l8 ++ [D.int IntKind.i64 n19])) <|
        again3 (((i4, (i5, i6, i7, PUnit.unit), l8 ++ [D.int IntKind.i64 n19], n20, PUnit.unit), PUnit.unit)))
        (sif (List.length l8 = List.length l8) <|
        sif (List.all l8 D.free = true) <|
        some (D.sl Tag.own l8)))
      (((a1, (a0_0, a0_1, a0_2, PUnit.unit), [], (0 : Int), PUnit.unit), PUnit.unit)))
theorem G_wattleref01_Numbers (F_wattleref01_fine : List D → Option D) (F_wattleref01_Width : List D → Option D) (a0_0 : Int) (a0_1 : Int) (a0_2 : Int) (a1 : Int) : denP Try.prog (penv' [(ID.wattleref01_fine, [0], F_wattleref01_fine), (ID.wattleref01_Width, [0], F_wattleref01_Width)]) ann_wattleref01_Numbers [1] ID.wattleref01_Numbers [.agg [.int .i64 a0_0, .int .i64 a0_1, .int .i64 a0_2], .int .i64 a1] = g_wattleref01_Numbers F_wattleref01_fine F_wattleref01_Width a0_0 a0_1 a0_2 a1 := by kernel_rfl
theorem F_wattleref01_Numbers_eq (a0_0 : Int) (a0_1 : Int) (a0_2 : Int) (a1 : Int) : F_wattleref01_Numbers [.agg [.int .i64 a0_0, .int .i64 a0_1, .int .i64 a0_2], .int .i64 a1] = g_wattleref01_Numbers F_wattleref01_fine F_wattleref01_Width a0_0 a0_1 a0_2 a1 := G_wattleref01_Numbers F_wattleref01_fine F_wattleref01_Width a0_0 a0_1 a0_2 a1
def ann_place_number : Ann := []
noncomputable def F_place_number : List D → Option D := denP Try.prog (penv' [(ID.geom_Width, [0], F_geom_Width)]) ann_place_number [0] ID.place_number
theorem sound_place_number : SoundP Try.prog ID.place_number [0] F_place_number := denP_sound (penv_ok [fact_geom_Width]) mixed ⟨Try.f56, by kernel_rfl, by kernel_rfl, by kernel_rfl⟩
noncomputable def fact_place_number : Fact Try.prog := ⟨ID.place_number, [0], F_place_number, sound_place_number⟩
noncomputable def g_place_number (F_geom_Width : List D → Option D) (a0_0 : Int) (a0_1 : Int) (a0_2 : Int) (a1 : Int) (a2 : Int) : Option D :=
  sif (a0_2 ≠ (0 : Int)) <|
  letN (IntKind.wrap IntKind.i64 (Int.tdiv a1 a0_2)) fun n1 =>
  bindK (F_geom_Width [D.agg [D.int IntKind.i64 a0_0, D.int IntKind.i64 a0_1, D.int IntKind.i64 a0_2]]) fun r2 =>
  asI IntKind.i64 r2 fun i3 =>
  letN (IntKind.wrap IntKind.i64 (n1 * i3)) fun n4 =>
  letN (IntKind.wrap IntKind.i64 (n4 + a2)) fun n5 =>
  letN (IntKind.wrap IntKind.i64 (n5 * a0_2)) fun n6 =>
  sif (a0_2 ≠ (0 : Int)) <|
  letN (Int.tmod a1 a0_2) fun n7 =>
  letN (IntKind.wrap IntKind.i64 (n6 + n7)) fun n8 =>
  some (D.int IntKind.i64 n8)
theorem G_place_number (F_geom_Width : List D → Option D) (a0_0 : Int) (a0_1 : Int) (a0_2 : Int) (a1 : Int) (a2 : Int) : denP Try.prog (penv' [(ID.geom_Width, [0], F_geom_Width)]) ann_place_number [0] ID.place_number [.agg [.int .i64 a0_0, .int .i64 a0_1, .int .i64 a0_2], .int .i64 a1, .int .i64 a2] = g_place_number F_geom_Width a0_0 a0_1 a0_2 a1 a2 := by kernel_rfl
theorem F_place_number_eq (a0_0 : Int) (a0_1 : Int) (a0_2 : Int) (a1 : Int) (a2 : Int) : F_place_number [.agg [.int .i64 a0_0, .int .i64 a0_1, .int .i64 a0_2], .int .i64 a1, .int .i64 a2] = g_place_number F_geom_Width a0_0 a0_1 a0_2 a1 a2 := G_place_number F_geom_Width a0_0 a0_1 a0_2 a1 a2
def ann_place_Back : Ann := []
noncomputable def F_place_Back : List D → Option D := denP Try.prog (penv' [(ID.place_in, [0], F_place_in), (ID.place_Parity, [0, 0], F_place_Parity), (ID.geom_Budget, [0], F_geom_Budget), (ID.place_number, [0], F_place_number)]) ann_place_Back [0, 0, 0] ID.place_Back
theorem sound_place_Back : SoundP Try.prog ID.place_Back [0, 0, 0] F_place_Back := denP_sound (penv_ok [fact_place_in, fact_place_Parity, fact_geom_Budget, fact_place_number]) mixed ⟨Try.f45, by kernel_rfl, by kernel_rfl, by kernel_rfl⟩
noncomputable def fact_place_Back : Fact Try.prog := ⟨ID.place_Back, [0, 0, 0], F_place_Back, sound_place_Back⟩
noncomputable def g_place_Back (F_place_in : List D → Option D) (F_place_Parity : List D → Option D) (F_geom_Budget : List D → Option D) (F_place_number : List D → Option D) (a0_0 : Int) (a0_1 : Int) (a0_2 : Int) (a1 : Int) (a2 : Int) : Option D :=
  bindK (F_place_in [D.agg [D.int IntKind.i64 a0_0, D.int IntKind.i64 a0_1, D.int IntKind.i64 a0_2], D.int IntKind.i64 a2]) fun r1 =>
  asB r1 fun b2 =>
  brK (!b2)
    (some (D.tup [D.int IntKind.i64 (0 : Int), D.int IntKind.i64 (0 : Int), D.bool false]))
    (brK (decide (a1 < (0 : Int)))
      (some (D.tup [D.int IntKind.i64 (0 : Int), D.int IntKind.i64 (0 : Int), D.bool false]))
      (brK (decide (a1 ≥ a0_1))
        (some (D.tup [D.int IntKind.i64 (0 : Int), D.int IntKind.i64 (0 : Int), D.bool false]))
        (bindK (F_place_Parity [D.agg [D.int IntKind.i64 a0_0, D.int IntKind.i64 a0_1, D.int IntKind.i64 a0_2], D.int IntKind.i64 a2]) fun r3 =>
        asTup r3 fun ts4 =>
        getCells ([Lf.any, Lf.any]) ts4 fun c5 =>
        asI IntKind.i64 c5.fst fun i6 =>
        asI IntKind.i64 c5.snd.fst fun i7 =>
        brK (a1 == i6)
          (some (D.tup [D.int IntKind.i64 (1 : Int), D.int IntKind.i64 (0 : Int), D.bool true]))
          (brK (a1 == i7)
            (some (D.tup [D.int IntKind.i64 (2 : Int), D.int IntKind.i64 (0 : Int), D.bool true]))
            (letN (IntKind.wrap IntKind.i64 (a1 - i6)) fun n8 =>
            bindK (F_geom_Budget [D.agg [D.int IntKind.i64 a0_0, D.int IntKind.i64 a0_1, D.int IntKind.i64 a0_2]]) fun r9 =>
            asI IntKind.i64 r9 fun i10 =>
            letN (IntKind.wrap IntKind.i64 (n8 - i10)) fun n11 =>
            letN (IntKind.wrap IntKind.i64 ((2 : Int) * a0_1)) fun n12 =>
            letN (IntKind.wrap IntKind.i64 (n11 + n12)) fun n13 =>
            sif (a0_1 ≠ (0 : Int)) <|
            letN (Int.tmod n13 a0_1) fun n14 =>
            bindK (F_place_number   [D.agg [D.int IntKind.i64 a0_0, D.int IntKind.i64 a0_1, D.int IntKind.i64 a0_2], D.int IntKind.i64 a2,     D.int IntKind.i64 n14]) fun r15 =>
            asI IntKind.i64 r15 fun i16 =>
            some (D.tup [D.int IntKind.i64 (0 : Int), D.int IntKind.i64 i16, D.bool true]))))))
theorem G_place_Back (F_place_in : List D → Option D) (F_place_Parity : List D → Option D) (F_geom_Budget : List D → Option D) (F_place_number : List D → Option D) (a0_0 : Int) (a0_1 : Int) (a0_2 : Int) (a1 : Int) (a2 : Int) : denP Try.prog (penv' [(ID.place_in, [0], F_place_in), (ID.place_Parity, [0, 0], F_place_Parity), (ID.geom_Budget, [0], F_geom_Budget), (ID.place_number, [0], F_place_number)]) ann_place_Back [0, 0, 0] ID.place_Back [.agg [.int .i64 a0_0, .int .i64 a0_1, .int .i64 a0_2], .int .i64 a1, .int .i64 a2] = g_place_Back F_place_in F_place_Parity F_geom_Budget F_place_number a0_0 a0_1 a0_2 a1 a2 := by kernel_rfl
theorem F_place_Back_eq (a0_0 : Int) (a0_1 : Int) (a0_2 : Int) (a1 : Int) (a2 : Int) : F_place_Back [.agg [.int .i64 a0_0, .int .i64 a0_1, .int .i64 a0_2], .int .i64 a1, .int .i64 a2] = g_place_Back F_place_in F_place_Parity F_geom_Budget F_place_number a0_0 a0_1 a0_2 a1 a2 := G_place_Back F_place_in F_place_Parity F_geom_Budget F_place_number a0_0 a0_1 a0_2 a1 a2
def ann_place_Numbers : Ann := [(1, [.dead, .val (.cell (.int .i64)), .box true [(.int .i64), (.int .i64), (.int .i64)], .dead, .dead, .own 1, .dead, .dead, .dead, .dead, .dead, .dead, .val (.cell (.int .i64)), .val (.cell (.int .i64))])]
noncomputable def F_place_Numbers : List D → Option D := denP Try.prog (penv' [(ID.place_in, [0], F_place_in), (ID.geom_Width, [0], F_geom_Width), (ID.place_number, [0], F_place_number)]) ann_place_Numbers [1] ID.place_Numbers
theorem sound_place_Numbers : SoundP Try.prog ID.place_Numbers [1] F_place_Numbers := denP_sound (penv_ok [fact_place_in, fact_geom_Width, fact_place_number]) mixed ⟨Try.f47, by kernel_rfl, by kernel_rfl, by kernel_rfl⟩
noncomputable def fact_place_Numbers : Fact Try.prog := ⟨ID.place_Numbers, [1], F_place_Numbers, sound_place_Numbers⟩
noncomputable def g_place_Numbers (F_place_in : List D → Option D) (F_geom_Width : List D → Option D) (F_place_number : List D → Option D) (a0_0 : Int) (a0_1 : Int) (a0_2 : Int) (a1 : Int) : Option D :=
  bindK (F_place_in [D.agg [D.int IntKind.i64 a0_0, D.int IntKind.i64 a0_1, D.int IntKind.i64 a0_2], D.int IntKind.i64 a1]) fun r1 =>
  asB r1 fun b2 =>
  brK (!b2)
    (some (D.sl Tag.own []))
    (bindK (F_geom_Width [D.agg [D.int IntKind.i64 a0_0, D.int IntKind.i64 a0_1, D.int IntKind.i64 a0_2]]) fun r3 =>
    asI IntKind.i64 r3 fun i4 =>
    loopN (α := (Int × (Int × Int × Int × PUnit) × List D × Int × Int × PUnit) × PUnit) (fun again5 ((i6, ((i7, (i8, (i9, _))), (l10, (i11, (i12, _))))), _) =>
      brK (decide (i12 < i11))
        (bindK (F_place_number   [D.agg [D.int IntKind.i64 i7, D.int IntKind.i64 i8, D.int IntKind.i64 i9], D.int IntKind.i64 i6,     D.int IntKind.i64 i12]) fun r13 =>
        asI IntKind.i64 r13 fun i14 =>
        sif (List.length l10 + (1 : Nat) ≤ (4294967296 : Nat)) <|
        sif (List.length l10 = List.length l10) <|
        letN (IntKind.wrap IntKind.i64 (i12 + (1 : Int))) fun n15 =>
        sif (List.length l10 + (1 : Nat) = List.length (l10 ++ [D.int IntKind.i64 i14])) <|
        again5 (((i6, (i7, i8, i9, PUnit.unit), l10 ++ [D.int IntKind.i64 i14], i11, n15, PUnit.unit), PUnit.unit)))
        (sif (List.length l10 = List.length l10) <|
        sif (List.all l10 D.free = true) <|
        some (D.sl Tag.own l10)))
      (((a1, (a0_0, a0_1, a0_2, PUnit.unit), [], i4, (0 : Int), PUnit.unit), PUnit.unit)))
theorem G_place_Numbers (F_place_in : List D → Option D) (F_geom_Width : List D → Option D) (F_place_number : List D → Option D) (a0_0 : Int) (a0_1 : Int) (a0_2 : Int) (a1 : Int) : denP Try.prog (penv' [(ID.place_in, [0], F_place_in), (ID.geom_Width, [0], F_geom_Width), (ID.place_number, [0], F_place_number)]) ann_place_Numbers [1] ID.place_Numbers [.agg [.int .i64 a0_0, .int .i64 a0_1, .int .i64 a0_2], .int .i64 a1] = g_place_Numbers F_place_in F_geom_Width F_place_number a0_0 a0_1 a0_2 a1 := by kernel_rfl
theorem F_place_Numbers_eq (a0_0 : Int) (a0_1 : Int) (a0_2 : Int) (a1 : Int) : F_place_Numbers [.agg [.int .i64 a0_0, .int .i64 a0_1, .int .i64 a0_2], .int .i64 a1] = g_place_Numbers F_place_in F_geom_Width F_place_number a0_0 a0_1 a0_2 a1 := G_place_Numbers F_place_in F_geom_Width F_place_number a0_0 a0_1 a0_2 a1
def ann_wattlekeep_Same_int : Ann := [(1, [.val (.cell .lent), .val (.cell .lent), .dead, .dead, .dead, .val (.cell (.int .i64))])]
noncomputable def F_wattlekeep_Same_int : List D → Option D := denP Try.prog (penv' []) ann_wattlekeep_Same_int [0] ID.wattlekeep_Same_int
theorem sound_wattlekeep_Same_int : SoundP Try.prog ID.wattlekeep_Same_int [0] F_wattlekeep_Same_int := denP_sound (penv_ok []) mixed ⟨Try.f46, by kernel_rfl, by kernel_rfl, by kernel_rfl⟩
noncomputable def fact_wattlekeep_Same_int : Fact Try.prog := ⟨ID.wattlekeep_Same_int, [0], F_wattlekeep_Same_int, sound_wattlekeep_Same_int⟩
noncomputable def g_wattlekeep_Same_int (a0 : List D) (a1 : List D) : Option D :=
  brK ((↑(List.length a0) : Int) != (↑(List.length a1) : Int))
    (some (D.bool false))
    (loopN (α := (List D × List D × Int × PUnit) × PUnit) (fun again1 ((l2, (l3, (i4, _))), _) =>
      brK (decide (i4 < (↑(List.length l2) : Int)))
        (sif ((0 : Int) ≤ i4) <|
        getK l2 (Int.toNat i4) fun d5 =>
        asI IntKind.i64 d5 fun i6 =>
        sif ((0 : Int) ≤ i4) <|
        getK l3 (Int.toNat i4) fun d7 =>
        asI IntKind.i64 d7 fun i8 =>
        brK (i6 != i8)
          (some (D.bool false))
          (letN (IntKind.wrap IntKind.i64 (i4 + (1 : Int))) fun n9 =>
          again1 (((l2, l3, n9, PUnit.unit), PUnit.unit))))
        (some (D.bool true)))
      (((a0, a1, (0 : Int), PUnit.unit), PUnit.unit)))
theorem G_wattlekeep_Same_int (tga0 : Tag) (tga1 : Tag) (a0 : List D) (a1 : List D) : denP Try.prog (penv' []) ann_wattlekeep_Same_int [0] ID.wattlekeep_Same_int [.sl tga0 a0, .sl tga1 a1] = g_wattlekeep_Same_int (D.lentL a0) (D.lentL a1) := by kernel_rfl
theorem F_wattlekeep_Same_int_eq (tga0 : Tag) (tga1 : Tag) (a0 : List D) (a1 : List D) : F_wattlekeep_Same_int [.sl tga0 a0, .sl tga1 a1] = g_wattlekeep_Same_int (D.lentL a0) (D.lentL a1) := G_wattlekeep_Same_int tga0 tga1 a0 a1
def ann_wattleref01_Back : Ann := [(3, [.dead, .val (.cell (.int .i64)), .val (.cell (.int .i64)), .box true [(.int .i64), (.int .i64), (.int .i64)], .dead, .dead, .dead, .dead, .dead, .dead, .dead, .dead, .dead, .dead, .dead, .dead, .dead, .dead, .dead, .dead, .dead, .dead, .dead, .dead, .dead, .dead, .dead, .dead, .dead, .dead, .dead, .dead, .dead, .dead, .dead, .dead, .dead, .dead, .dead, .dead, .dead, .dead, .own 1, .val (.cell (.int .i64)), .val (.cell (.int .i64))])]
noncomputable def F_wattleref01_Back : List D → Option D := denP Try.prog (penv' [(ID.wattleref01_fine, [0], F_wattleref01_fine), (ID.wattleref01_Parity, [0, 0], F_wattleref01_Parity), (ID.wattleref01_Numbers, [1], F_wattleref01_Numbers), (ID.wattleref01_Disk, [0], F_wattleref01_Disk)]) ann_wattleref01_Back [0, 0, 0] ID.wattleref01_Back
theorem sound_wattleref01_Back : SoundP Try.prog ID.wattleref01_Back [0, 0, 0] F_wattleref01_Back := denP_sound (penv_ok [fact_wattleref01_fine, fact_wattleref01_Parity, fact_wattleref01_Numbers, fact_wattleref01_Disk]) mixed ⟨Try.f51, by kernel_rfl, by kernel_rfl, by kernel_rfl⟩
noncomputable def fact_wattleref01_Back : Fact Try.prog := ⟨ID.wattleref01_Back, [0, 0, 0], F_wattleref01_Back, sound_wattleref01_Back⟩
noncomputable def g_wattleref01_Back (F_wattleref01_fine : List D → Option D) (F_wattleref01_Parity : List D → Option D) (F_wattleref01_Numbers : List D → Option D) (F_wattleref01_Disk : List D → Option D) (a0_0 : Int) (a0_1 : Int) (a0_2 : Int) (a1 : Int) (a2 : Int) : Option D :=
  bindK (F_wattleref01_fine   [D.agg [D.int IntKind.i64 a0_0, D.int IntKind.i64 a0_1, D.int IntKind.i64 a0_2], D.int IntKind.i64 a2]) fun r1 =>
  asB r1 fun b2 =>
  brK (!b2)
    (some (D.tup [D.int IntKind.i64 (0 : Int), D.int IntKind.i64 (0 : Int), D.bool false]))
    (brK (decide (a1 < (0 : Int)))
      (some (D.tup [D.int IntKind.i64 (0 : Int), D.int IntKind.i64 (0 : Int), D.bool false]))
      (brK (decide (a1 ≥ a0_1))
        (some (D.tup [D.int IntKind.i64 (0 : Int), D.int IntKind.i64 (0 : Int), D.bool false]))
        (bindK (F_wattleref01_Parity   [D.agg [D.int IntKind.i64 a0_0, D.int IntKind.i64 a0_1, D.int IntKind.i64 a0_2], D.int IntKind.i64 a2]) fun r3 =>
        asTup r3 fun ts4 =>
        getCells ([Lf.any, Lf.any]) ts4 fun c5 =>
        asI IntKind.i64 c5.fst fun i6 =>
        asI IntKind.i64 c5.snd.fst fun i7 =>
        brK (a1 == i6)
          (some (D.tup [D.int IntKind.i64 (1 : Int), D.int IntKind.i64 (0 : Int), D.bool true]))
          (brK (a1 == i7)
            (some (D.tup [D.int IntKind.i64 (2 : Int), D.int IntKind.i64 (0 : Int), D.bool true]))
            (bindK (F_wattleref01_Numbers   [D.agg [D.int IntKind.i64 a0_0, D.int IntKind.i64 a0_1, D.int IntKind.i64 a0_2], D.int IntKind.i64 a2]) fun r8 =>
            asOwn r8 fun l9 =>
            sif ((0 : Nat) + List.length l9 ≤ List.length l9) <|
            sif (List.length l9 = List.length l9) <|
            loopN (α := (Int × Int × (Int × Int × Int × PUnit) × List D × Int × Int × PUnit) × PUnit) (fun again10 ((i11, (i12, ((i13, (i14, (i15, _))), (l16, (i17, (i18, _)))))), _) =>
              brK (decide (i18 < i17))
                (sif ((0 : Int) ≤ i18) <|
                sif (Int.toNat i18 < List.length l16) <|
                getK l16 ((0 : Nat) + Int.toNat i18) fun d19 =>
                asI IntKind.i64 d19 fun i20 =>
                bindK (F_wattleref01_Disk   [D.agg [D.int IntKind.i64 i13, D.int IntKind.i64 i14, D.int IntKind.i64 i15], D.int IntKind.i64 i12,     D.int IntKind.i64 i18]) fun r21 =>
                asI IntKind.i64 r21 fun i22 =>
                brK (i22 == i11)
                  (some (D.tup [D.int IntKind.i64 (0 : Int), D.int IntKind.i64 i20, D.bool true]))
                  (letN (IntKind.wrap IntKind.i64 (i18 + (1 : Int))) fun n23 =>
                  sif (List.length l16 = List.length l16) <|
                  again10 (((i11, i12, (i13, i14, i15, PUnit.unit), l16, i17, n23, PUnit.unit), PUnit.unit))))
                (some (D.tup [D.int IntKind.i64 (0 : Int), D.int IntKind.i64 (0 : Int), D.bool false])))
              (((a1, a2, (a0_0, a0_1, a0_2, PUnit.unit), l9, (↑(List.length l9) : Int), (0 : Int), PUnit.unit), PUnit.unit)))))))
theorem G_wattleref01_Back (F_wattleref01_fine : List D → Option D) (F_wattleref01_Parity : List D → Option D) (F_wattleref01_Numbers : List D → Option D) (F_wattleref01_Disk : List D → Option D) (a0_0 : Int) (a0_1 : Int) (a0_2 : Int) (a1 : Int) (a2 : Int) : denP Try.prog (penv' [(ID.wattleref01_fine, [0], F_wattleref01_fine), (ID.wattleref01_Parity, [0, 0], F_wattleref01_Parity), (ID.wattleref01_Numbers, [1], F_wattleref01_Numbers), (ID.wattleref01_Disk, [0], F_wattleref01_Disk)]) ann_wattleref01_Back [0, 0, 0] ID.wattleref01_Back [.agg [.int .i64 a0_0, .int .i64 a0_1, .int .i64 a0_2], .int .i64 a1, .int .i64 a2] = g_wattleref01_Back F_wattleref01_fine F_wattleref01_Parity F_wattleref01_Numbers F_wattleref01_Disk a0_0 a0_1 a0_2 a1 a2 := by kernel_rfl
theorem F_wattleref01_Back_eq (a0_0 : Int) (a0_1 : Int) (a0_2 : Int) (a1 : Int) (a2 : Int) : F_wattleref01_Back [.agg [.int .i64 a0_0, .int .i64 a0_1, .int .i64 a0_2], .int .i64 a1, .int .i64 a2] = g_wattleref01_Back F_wattleref01_fine F_wattleref01_Parity F_wattleref01_Numbers F_wattleref01_Disk a0_0 a0_1 a0_2 a1 a2 := G_wattleref01_Back F_wattleref01_fine F_wattleref01_Parity F_wattleref01_Numbers F_wattleref01_Disk a0_0 a0_1 a0_2 a1 a2
end Wf

