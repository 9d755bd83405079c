/-
  What the program's functions are called here.
-/
import Derived.Test.YtgekoicndhcghaaProg
import Derived.ProofKit
import Derived.Test.YtgekoicndhcghaaFe
set_option linter.unusedVariables false
set_option linter.unusedSimpArgs false
set_option linter.unnecessarySimpa false
namespace Wf
open Go Go.RowKit Go.Proofs
set_option linter.unusedVariables false
theorem mixed : Try.prog.follows .mixedOrders = true := by kernel_rfl
namespace ID
abbrev wattlekeep_Within : Nat := 8
abbrev wattleplay_Geom : Nat := 23
abbrev wattleref01_Check : Nat := 46
abbrev wattleplay_Good : Nat := 22
abbrev slices_Index_int_int : Nat := 83
abbrev slices_Contains_int_int : Nat := 60
abbrev geom_Check : Nat := 35
abbrev virtual_New : Nat := 7
abbrev wattleplay_Sector : Nat := 10
abbrev virtual_Virtual_members : Nat := 44
abbrev virtual_Virtual_sync : Nat := 37
abbrev geom_Budget : Nat := 61
abbrev geom_Width : Nat := 62
abbrev geom_Capacity : Nat := 42
abbrev virtual_Virtual_Capacity : Nat := 16
abbrev virtual_Virtual_Lost : Nat := 25
abbrev virtual_Virtual_lost : Nat := 38
abbrev virtual_Virtual_Write : Nat := 11
abbrev virtual_Virtual_Fail : Nat := 14
abbrev virtual_Virtual_Replace : Nat := 18
abbrev geom_Can : Nat := 39
abbrev slices_Index_bool_bool : Nat := 63
abbrev slices_Contains_bool_bool : Nat := 40
abbrev virtual_Virtual_Start : Nat := 13
abbrev plan_Rows : Nat := 65
abbrev plan_Windows : Nat := 43
abbrev virtual_Virtual_Step : Nat := 17
abbrev slices_Clone_byte_byte : Nat := 45
abbrev virtual_Virtual_Read : Nat := 19
abbrev virtual_Virtual_Flush : Nat := 24
abbrev wattlekeep_Same_byte : Nat := 20
abbrev wattlelaw24_wakes : Nat := 21
abbrev wattlelaw24_VirtualSame : Nat := 4
abbrev wattleref01_Budget : Nat := 59
abbrev wattleref01_Width : Nat := 36
abbrev wattleref01_Can : Nat := 34
abbrev wattleplay_Pair : Nat := 6
abbrev wattleref01_Capacity : Nat := 9
abbrev wattlekeep_Copy_byte : Nat := 12
abbrev wattleref01_least : Nat := 64
abbrev wattleref01_Rows : Nat := 41
abbrev wattleref01_Windows : Nat := 15
abbrev wattlelaw24_VirtualKeeps : Nat := 3
end ID
end Wf

/-
  Functions, read off.
-/
namespace Wf
open Go Go.RowKit Go.Proofs
set_option linter.unusedVariables false
def ann_wattlekeep_Within : Ann := { loops := [] }
noncomputable def F_wattlekeep_Within : List D → Option D := denP Try.prog (penv' []) ann_wattlekeep_Within [0] ID.wattlekeep_Within
theorem sound_wattlekeep_Within : Sound Try.prog ID.wattlekeep_Within (.pure [0] F_wattlekeep_Within) := denP_sound (penv_ok []) mixed ⟨Try.f8, by kernel_rfl, by kernel_rfl, by kernel_rfl⟩
noncomputable def fact_wattlekeep_Within : Fact Try.prog := ⟨ID.wattlekeep_Within, (.pure [0] F_wattlekeep_Within), sound_wattlekeep_Within⟩
noncomputable def g_wattlekeep_Within (a0 : Int) (a1 : Int) : Option D :=
  brK (decide (a1 < (1 : Int)))
    (some (D.int IntKind.i64 (0 : Int)))
    (sif (a1 ≠ (0 : Int)) <|
    letN (Int.tmod a0 a1) fun n1 =>
    brK (decide (n1 < (0 : Int)))
      (letN (IntKind.wrap IntKind.i64 (n1 + a1)) fun n2 =>
      some (D.int IntKind.i64 n2))
      (some (D.int IntKind.i64 n1)))
theorem G_wattlekeep_Within (a0 : Int) (a1 : Int) : denP Try.prog (penv' []) ann_wattlekeep_Within [0] ID.wattlekeep_Within [.int .i64 a0, .int .i64 a1] = g_wattlekeep_Within a0 a1 := by kernel_rfl
theorem F_wattlekeep_Within_eq (a0 : Int) (a1 : Int) : F_wattlekeep_Within [.int .i64 a0, .int .i64 a1] = g_wattlekeep_Within a0 a1 := G_wattlekeep_Within a0 a1
def ann_wattleplay_Geom : Ann := { loops := [] }
noncomputable def F_wattleplay_Geom : List D → Option D := denP Try.prog (penv' [(ID.wattlekeep_Within, (.pure [0] F_wattlekeep_Within))]) ann_wattleplay_Geom [0] ID.wattleplay_Geom
theorem sound_wattleplay_Geom : Sound Try.prog ID.wattleplay_Geom (.pure [0] F_wattleplay_Geom) := denP_sound (penv_ok [fact_wattlekeep_Within]) mixed ⟨Try.f23, by kernel_rfl, by kernel_rfl, by kernel_rfl⟩
noncomputable def fact_wattleplay_Geom : Fact Try.prog := ⟨ID.wattleplay_Geom, (.pure [0] F_wattleplay_Geom), sound_wattleplay_Geom⟩
noncomputable def g_wattleplay_Geom (F_wattlekeep_Within : List D → Option D) (a0 : Int) : Option D :=
  bindK (F_wattlekeep_Within [D.int IntKind.i64 a0, D.int IntKind.i64 (2 : Int)]) fun r1 =>
  asI IntKind.i64 r1 fun i2 =>
  letN (IntKind.wrap IntKind.i64 ((5 : Int) + i2)) fun n3 =>
  letN (IntKind.wrap IntKind.i64 (Int.tdiv a0 (2 : Int))) fun n4 =>
  bindK (F_wattlekeep_Within [D.int IntKind.i64 n4, D.int IntKind.i64 (3 : Int)]) fun r5 =>
  asI IntKind.i64 r5 fun i6 =>
  sif ((0 : Int) ≤ i6) <|
  getK ([D.int IntKind.i64 (1 : Int), D.int IntKind.i64 (2 : Int), D.int IntKind.i64 (4 : Int)]) (Int.toNat i6) fun d7 =>
  asI IntKind.i64 d7 fun i8 =>
  letN (IntKind.wrap IntKind.i64 (Int.tdiv a0 (6 : Int))) fun n9 =>
  bindK (F_wattlekeep_Within [D.int IntKind.i64 n9, D.int IntKind.i64 (4 : Int)]) fun r10 =>
  asI IntKind.i64 r10 fun i11 =>
  letN (IntKind.wrap IntKind.i64 ((3 : Int) + i11)) fun n12 =>
  brK (n3 == (6 : Int))
    (letN (IntKind.wrap IntKind.i64 (Int.tdiv a0 (6 : Int))) fun n13 =>
    bindK (F_wattlekeep_Within [D.int IntKind.i64 n13, D.int IntKind.i64 (4 : Int)]) fun r14 =>
    asI IntKind.i64 r14 fun i15 =>
    letN (IntKind.wrap IntKind.i64 ((4 : Int) + i15)) fun n16 =>
    letN (IntKind.wrap IntKind.i64 (Int.tdiv a0 (24 : Int))) fun n17 =>
    bindK (F_wattlekeep_Within [D.int IntKind.i64 n17, D.int IntKind.i64 (40 : Int)]) fun r18 =>
    asI IntKind.i64 r18 fun i19 =>
    brK (i19 == (36 : Int))
      (bindK (F_wattlekeep_Within [D.int IntKind.i64 a0, D.int IntKind.i64 (9 : Int)]) fun r20 =>
      asI IntKind.i64 r20 fun i21 =>
      some (D.agg [D.int IntKind.i64 i21, D.int IntKind.i64 n16, D.int IntKind.i64 i8]))
      (brK (i19 == (37 : Int))
        (bindK (F_wattlekeep_Within [D.int IntKind.i64 a0, D.int IntKind.i64 (12 : Int)]) fun r22 =>
        asI IntKind.i64 r22 fun i23 =>
        letN (IntKind.wrap IntKind.i64 (i23 - (1 : Int))) fun n24 =>
        some (D.agg [D.int IntKind.i64 n3, D.int IntKind.i64 n24, D.int IntKind.i64 i8]))
        (brK (i19 == (38 : Int))
          (bindK (F_wattlekeep_Within [D.int IntKind.i64 a0, D.int IntKind.i64 (9 : Int)]) fun r25 =>
          asI IntKind.i64 r25 fun i26 =>
          letN (IntKind.wrap IntKind.i64 (i26 - (1 : Int))) fun n27 =>
          some (D.agg [D.int IntKind.i64 n3, D.int IntKind.i64 n16, D.int IntKind.i64 n27]))
          (brK (i19 == (39 : Int))
            (some (D.agg [D.int IntKind.i64 n3, D.int IntKind.i64 (8 : Int), D.int IntKind.i64 i8]))
            (some (D.agg [D.int IntKind.i64 n3, D.int IntKind.i64 n16, D.int IntKind.i64 i8]))))))
    (letN (IntKind.wrap IntKind.i64 (Int.tdiv a0 (24 : Int))) fun n28 =>
    bindK (F_wattlekeep_Within [D.int IntKind.i64 n28, D.int IntKind.i64 (40 : Int)]) fun r29 =>
    asI IntKind.i64 r29 fun i30 =>
    brK (i30 == (36 : Int))
      (bindK (F_wattlekeep_Within [D.int IntKind.i64 a0, D.int IntKind.i64 (9 : Int)]) fun r31 =>
      asI IntKind.i64 r31 fun i32 =>
      some (D.agg [D.int IntKind.i64 i32, D.int IntKind.i64 n12, D.int IntKind.i64 i8]))
      (brK (i30 == (37 : Int))
        (bindK (F_wattlekeep_Within [D.int IntKind.i64 a0, D.int IntKind.i64 (12 : Int)]) fun r33 =>
        asI IntKind.i64 r33 fun i34 =>
        letN (IntKind.wrap IntKind.i64 (i34 - (1 : Int))) fun n35 =>
        some (D.agg [D.int IntKind.i64 n3, D.int IntKind.i64 n35, D.int IntKind.i64 i8]))
        (brK (i30 == (38 : Int))
          (bindK (F_wattlekeep_Within [D.int IntKind.i64 a0, D.int IntKind.i64 (9 : Int)]) fun r36 =>
          asI IntKind.i64 r36 fun i37 =>
          letN (IntKind.wrap IntKind.i64 (i37 - (1 : Int))) fun n38 =>
          some (D.agg [D.int IntKind.i64 n3, D.int IntKind.i64 n12, D.int IntKind.i64 n38]))
          (brK (i30 == (39 : Int))
            (some (D.agg [D.int IntKind.i64 n3, D.int IntKind.i64 (8 : Int), D.int IntKind.i64 i8]))
            (some (D.agg [D.int IntKind.i64 n3, D.int IntKind.i64 n12, D.int IntKind.i64 i8]))))))
theorem G_wattleplay_Geom (F_wattlekeep_Within : List D → Option D) (a0 : Int) : denP Try.prog (penv' [(ID.wattlekeep_Within, (.pure [0] F_wattlekeep_Within))]) ann_wattleplay_Geom [0] ID.wattleplay_Geom [.int .i64 a0] = g_wattleplay_Geom F_wattlekeep_Within a0 := by kernel_rfl
theorem F_wattleplay_Geom_eq (a0 : Int) : F_wattleplay_Geom [.int .i64 a0] = g_wattleplay_Geom F_wattlekeep_Within a0 := G_wattleplay_Geom F_wattlekeep_Within a0
def ann_wattleref01_Check : Ann := { loops := [] }
noncomputable def F_wattleref01_Check : List D → Option D := denP Try.prog (penv' []) ann_wattleref01_Check [0] ID.wattleref01_Check
theorem sound_wattleref01_Check : Sound Try.prog ID.wattleref01_Check (.pure [0] F_wattleref01_Check) := denP_sound (penv_ok []) mixed ⟨Try.f46, by kernel_rfl, by kernel_rfl, by kernel_rfl⟩
noncomputable def fact_wattleref01_Check : Fact Try.prog := ⟨ID.wattleref01_Check, (.pure [0] F_wattleref01_Check), sound_wattleref01_Check⟩
noncomputable def g_wattleref01_Check (a0_0 : Int) (a0_1 : Int) (a0_2 : Int) : Option D :=
  brK (a0_0 == (6 : Int))
    (brK (a0_0 == (5 : Int))
      (brK (decide (a0_1 ≥ (4 : Int)))
        (brK (decide (a0_1 ≤ (8 : Int)))
          (brK (a0_2 == (1 : Int))
            (some (D.bool true))
            (brK (a0_2 == (2 : Int))
              (some (D.bool true))
              (some (D.bool (a0_2 == (4 : Int))))))
          (some (D.bool false)))
        (some (D.bool false)))
      (brK (a0_0 == (6 : Int))
        (brK (decide (a0_1 ≥ (4 : Int)))
          (brK (decide (a0_1 ≤ (8 : Int)))
            (brK (a0_2 == (1 : Int))
              (some (D.bool true))
              (brK (a0_2 == (2 : Int))
                (some (D.bool true))
                (some (D.bool (a0_2 == (4 : Int))))))
            (some (D.bool false)))
          (some (D.bool false)))
        (some (D.bool false))))
    (brK (a0_0 == (5 : Int))
      (brK (decide (a0_1 ≥ (3 : Int)))
        (brK (decide (a0_1 ≤ (8 : Int)))
          (brK (a0_2 == (1 : Int))
            (some (D.bool true))
            (brK (a0_2 == (2 : Int))
              (some (D.bool true))
              (some (D.bool (a0_2 == (4 : Int))))))
          (some (D.bool false)))
        (some (D.bool false)))
      (brK (a0_0 == (6 : Int))
        (brK (decide (a0_1 ≥ (3 : Int)))
          (brK (decide (a0_1 ≤ (8 : Int)))
            (brK (a0_2 == (1 : Int))
              (some (D.bool true))
              (brK (a0_2 == (2 : Int))
                (some (D.bool true))
                (some (D.bool (a0_2 == (4 : Int))))))
            (some (D.bool false)))
          (some (D.bool false)))
        (some (D.bool false))))
theorem G_wattleref01_Check (a0_0 : Int) (a0_1 : Int) (a0_2 : Int) : denP Try.prog (penv' []) ann_wattleref01_Check [0] ID.wattleref01_Check [.agg [.int .i64 a0_0, .int .i64 a0_1, .int .i64 a0_2]] = g_wattleref01_Check a0_0 a0_1 a0_2 := by kernel_rfl
theorem F_wattleref01_Check_eq (a0_0 : Int) (a0_1 : Int) (a0_2 : Int) : F_wattleref01_Check [.agg [.int .i64 a0_0, .int .i64 a0_1, .int .i64 a0_2]] = g_wattleref01_Check a0_0 a0_1 a0_2 := G_wattleref01_Check a0_0 a0_1 a0_2
def ann_wattleplay_Good : Ann := { loops := [] }
noncomputable def F_wattleplay_Good : List D → Option D := denP Try.prog (penv' [(ID.wattleplay_Geom, (.pure [0] F_wattleplay_Geom)), (ID.wattleref01_Check, (.pure [0] F_wattleref01_Check))]) ann_wattleplay_Good [0] ID.wattleplay_Good
theorem sound_wattleplay_Good : Sound Try.prog ID.wattleplay_Good (.pure [0] F_wattleplay_Good) := denP_sound (penv_ok [fact_wattleplay_Geom, fact_wattleref01_Check]) mixed ⟨Try.f22, by kernel_rfl, by kernel_rfl, by kernel_rfl⟩
noncomputable def fact_wattleplay_Good : Fact Try.prog := ⟨ID.wattleplay_Good, (.pure [0] F_wattleplay_Good), sound_wattleplay_Good⟩
noncomputable def g_wattleplay_Good (F_wattleplay_Geom : List D → Option D) (F_wattleref01_Check : List D → Option D) (a0 : Int) : Option D :=
  bindK (F_wattleplay_Geom [D.int IntKind.i64 a0]) fun r1 =>
  asAgg r1 fun cs2 =>
  getCells ([Lf.int IntKind.i64, Lf.int IntKind.i64, Lf.int IntKind.i64]) cs2 fun c3 =>
  bindK (F_wattleref01_Check [D.agg [D.int IntKind.i64 c3.fst, D.int IntKind.i64 c3.snd.fst, D.int IntKind.i64 c3.snd.snd.fst]]) fun r4 =>
  asB r4 fun b5 =>
  brK (!b5)
    (some (D.agg [D.int IntKind.i64 (5 : Int), D.int IntKind.i64 (3 : Int), D.int IntKind.i64 (1 : Int)]))
    (some (D.agg [D.int IntKind.i64 c3.fst, D.int IntKind.i64 c3.snd.fst, D.int IntKind.i64 c3.snd.snd.fst]))
theorem G_wattleplay_Good (F_wattleplay_Geom : List D → Option D) (F_wattleref01_Check : List D → Option D) (a0 : Int) : denP Try.prog (penv' [(ID.wattleplay_Geom, (.pure [0] F_wattleplay_Geom)), (ID.wattleref01_Check, (.pure [0] F_wattleref01_Check))]) ann_wattleplay_Good [0] ID.wattleplay_Good [.int .i64 a0] = g_wattleplay_Good F_wattleplay_Geom F_wattleref01_Check a0 := by kernel_rfl
theorem F_wattleplay_Good_eq (a0 : Int) : F_wattleplay_Good [.int .i64 a0] = g_wattleplay_Good F_wattleplay_Geom F_wattleref01_Check a0 := G_wattleplay_Good F_wattleplay_Geom F_wattleref01_Check a0
def ann_slices_Index_int_int : Ann := { loops := [(0, [.val (.cell .lent), .val (.cell (.int .i64)), .dead, .dead, .dead, .dead, .dead, .val (.cell (.int .i64)), .val (.cell (.int .i64))])] }
noncomputable def F_slices_Index_int_int : List D → Option D := denP Try.prog (penv' []) ann_slices_Index_int_int [0] ID.slices_Index_int_int
theorem sound_slices_Index_int_int : Sound Try.prog ID.slices_Index_int_int (.pure [0] F_slices_Index_int_int) := denP_sound (penv_ok []) mixed ⟨Try.f83, by kernel_rfl, by kernel_rfl, by kernel_rfl⟩
noncomputable def fact_slices_Index_int_int : Fact Try.prog := ⟨ID.slices_Index_int_int, (.pure [0] F_slices_Index_int_int), sound_slices_Index_int_int⟩
noncomputable def g_slices_Index_int_int (a0 : List D) (a1 : Int) : Option D :=
  loopN (α := (List D × Int × Int × Int × PUnit) × PUnit) (fun again1 ((l2, (i3, (i4, (i5, _)))), _) =>
    brK (decide (i5 < i4))
      (sif ((0 : Int) ≤ i5) <|
      getK l2 (Int.toNat i5) fun d6 =>
      asI IntKind.i64 d6 fun i7 =>
      brK (i3 == i7)
        (some (D.int IntKind.i64 i5))
        (letN (IntKind.wrap IntKind.i64 (i5 + (1 : Int))) fun n8 =>
        again1 (((l2, i3, i4, n8, PUnit.unit), PUnit.unit))))
      (some (D.int IntKind.i64 (-1 : Int))))
    (((a0, a1, (↑(List.length a0) : Int), (0 : Int), PUnit.unit), PUnit.unit))
theorem G_slices_Index_int_int (tga0 : Tag) (a0 : List D) (a1 : Int) : denP Try.prog (penv' []) ann_slices_Index_int_int [0] ID.slices_Index_int_int [.sl tga0 a0, .int .i64 a1] = g_slices_Index_int_int (D.lentL a0) a1 := by kernel_rfl
theorem F_slices_Index_int_int_eq (tga0 : Tag) (a0 : List D) (a1 : Int) : F_slices_Index_int_int [.sl tga0 a0, .int .i64 a1] = g_slices_Index_int_int (D.lentL a0) a1 := G_slices_Index_int_int tga0 a0 a1
def ann_slices_Contains_int_int : Ann := { loops := [] }
noncomputable def F_slices_Contains_int_int : List D → Option D := denP Try.prog (penv' [(ID.slices_Index_int_int, (.pure [0] F_slices_Index_int_int))]) ann_slices_Contains_int_int [0] ID.slices_Contains_int_int
theorem sound_slices_Contains_int_int : Sound Try.prog ID.slices_Contains_int_int (.pure [0] F_slices_Contains_int_int) := denP_sound (penv_ok [fact_slices_Index_int_int]) mixed ⟨Try.f60, by kernel_rfl, by kernel_rfl, by kernel_rfl⟩
noncomputable def fact_slices_Contains_int_int : Fact Try.prog := ⟨ID.slices_Contains_int_int, (.pure [0] F_slices_Contains_int_int), sound_slices_Contains_int_int⟩
noncomputable def g_slices_Contains_int_int (F_slices_Index_int_int : List D → Option D) (a0 : List D) (a1 : Int) : Option D :=
  bindK (F_slices_Index_int_int [D.sl Tag.lent a0, D.int IntKind.i64 a1]) fun r1 =>
  asI IntKind.i64 r1 fun i2 =>
  some (D.bool (decide (i2 ≥ (0 : Int))))
theorem G_slices_Contains_int_int (F_slices_Index_int_int : List D → Option D) (tga0 : Tag) (a0 : List D) (a1 : Int) : denP Try.prog (penv' [(ID.slices_Index_int_int, (.pure [0] F_slices_Index_int_int))]) ann_slices_Contains_int_int [0] ID.slices_Contains_int_int [.sl tga0 a0, .int .i64 a1] = g_slices_Contains_int_int F_slices_Index_int_int (D.lentL a0) a1 := by kernel_rfl
theorem F_slices_Contains_int_int_eq (tga0 : Tag) (a0 : List D) (a1 : Int) : F_slices_Contains_int_int [.sl tga0 a0, .int .i64 a1] = g_slices_Contains_int_int F_slices_Index_int_int (D.lentL a0) a1 := G_slices_Contains_int_int F_slices_Index_int_int tga0 a0 a1
def ann_geom_Check : Ann := { loops := [] }
noncomputable def F_geom_Check : List D → Option D := denP Try.prog (penv' [(ID.slices_Contains_int_int, (.pure [0] F_slices_Contains_int_int))]) ann_geom_Check [0] ID.geom_Check
theorem sound_geom_Check : Sound Try.prog ID.geom_Check (.pure [0] F_geom_Check) := denP_sound (penv_ok [fact_slices_Contains_int_int]) mixed ⟨Try.f35, by kernel_rfl, by kernel_rfl, by kernel_rfl⟩
noncomputable def fact_geom_Check : Fact Try.prog := ⟨ID.geom_Check, (.pure [0] F_geom_Check), sound_geom_Check⟩
noncomputable def g_geom_Check (F_slices_Contains_int_int : List D → Option D) (a0_0 : Int) (a0_1 : Int) (a0_2 : Int) : Option D :=
  asI IntKind.i64 (lookD a0_0 (D.int IntKind.i64 (0 : Int))   (setD (6 : Int) (D.int IntKind.i64 (4 : Int)) (setD (5 : Int) (D.int IntKind.i64 (3 : Int)) []))) fun i1 =>
  brK (i1 == (0 : Int))
    (some (D.int IntKind.i64 (1 : Int)))
    (brK (decide (a0_1 < i1))
      (some (D.int IntKind.i64 (1 : Int)))
      (brK (decide (a0_1 > (8 : Int)))
        (some (D.int IntKind.i64 (1 : Int)))
        (bindK (F_slices_Contains_int_int   [D.sl Tag.full [D.int IntKind.i64 (1 : Int), D.int IntKind.i64 (2 : Int), D.int IntKind.i64 (4 : Int)],     D.int IntKind.i64 a0_2]) fun r2 =>
        asB r2 fun b3 =>
        brK (!b3)
          (some (D.int IntKind.i64 (1 : Int)))
          (some (D.int IntKind.i64 (0 : Int))))))
theorem G_geom_Check (F_slices_Contains_int_int : List D → Option D) (a0_0 : Int) (a0_1 : Int) (a0_2 : Int) : denP Try.prog (penv' [(ID.slices_Contains_int_int, (.pure [0] F_slices_Contains_int_int))]) ann_geom_Check [0] ID.geom_Check [.agg [.int .i64 a0_0, .int .i64 a0_1, .int .i64 a0_2]] = g_geom_Check F_slices_Contains_int_int a0_0 a0_1 a0_2 := by kernel_rfl
theorem F_geom_Check_eq (a0_0 : Int) (a0_1 : Int) (a0_2 : Int) : F_geom_Check [.agg [.int .i64 a0_0, .int .i64 a0_1, .int .i64 a0_2]] = g_geom_Check F_slices_Contains_int_int a0_0 a0_1 a0_2 := G_geom_Check F_slices_Contains_int_int a0_0 a0_1 a0_2
def ann_virtual_New : Ann := { loops := [], pubs := [(8, [(4, 65, 4160)])], ks := [(4160, true)] }
noncomputable def F_virtual_New : List D → List Tb → Option Ans := denS Try.prog (penv' [(ID.geom_Check, (.pure [0] F_geom_Check))]) ann_virtual_New [0, 0] ID.virtual_New
theorem sound_virtual_New : Sound Try.prog ID.virtual_New (.st [] [0, 0] [(4160, true)] F_virtual_New) := denS_sound (penv_ok [fact_geom_Check]) mixed ⟨Try.f7, by kernel_rfl, by kernel_rfl, by kernel_rfl⟩
noncomputable def fact_virtual_New : Fact Try.prog := ⟨ID.virtual_New, (.st [] [0, 0] [(4160, true)] F_virtual_New), sound_virtual_New⟩
noncomputable def g_virtual_New (F_geom_Check : List D → Option D) (a0 : Int) (a1_0 : Int) (a1_1 : Int) (a1_2 : Int) (T0 : Tb) : Option Ans :=
  brK (decide (a0 < (1 : Int)))
    (some (Ans.mk (D.tup [D.nilp, D.int IntKind.i64 (1 : Int)]) [] [T0]))
    (brK (decide (a0 > (8 : Int)))
      (some (Ans.mk (D.tup [D.nilp, D.int IntKind.i64 (1 : Int)]) [] [T0]))
      (bindK (F_geom_Check [D.agg [D.int IntKind.i64 a1_0, D.int IntKind.i64 a1_1, D.int IntKind.i64 a1_2]]) fun r1 =>
      asI IntKind.i64 r1 fun i2 =>
      brK (i2 != (0 : Int))
        (some (Ans.mk (D.tup [D.nilp, D.int IntKind.i64 i2]) [] [T0]))
        (brK (decide (a0 < a1_1))
          (some (Ans.mk (D.tup [D.nilp, D.int IntKind.i64 (1 : Int)]) [] [T0]))
          (sif ((0 : Int) ≤ a0) <|
          sif (a0 = a0) <|
          sif (a0 * (1 : Int) ≤ (140737488355328 : Int)) <|
          sif (a0 ≤ (140737488355328 : Int)) <|
          sif ((0 : Int) ≤ a0) <|
          sif (a0 = a0) <|
          sif (a0 * (1 : Int) ≤ (140737488355328 : Int)) <|
          sif (a0 ≤ (140737488355328 : Int)) <|
          sif ((0 : Nat) + Int.toNat a0 ≤ List.length (List.replicate (Int.toNat a0) (D.bool false))) <|
          sif ((0 : Nat) + Int.toNat a0 ≤ List.length (List.replicate (Int.toNat a0) (D.bool false))) <|
          sif (Int.toNat a0 = List.length (List.replicate (Int.toNat a0) (D.bool false))) <|
          sif (flatEls (List.replicate (Int.toNat a0) (D.bool false)) = true) <|
          sif (okElsW (1 : Nat) (List.replicate (Int.toNat a0) (D.bool false)) = true) <|
          sif (Int.toNat a0 = List.length (List.replicate (Int.toNat a0) (D.bool false))) <|
          sif (flatEls (List.replicate (Int.toNat a0) (D.bool false)) = true) <|
          sif (okElsW (1 : Nat) (List.replicate (Int.toNat a0) (D.bool false)) = true) <|
          letT (T0 ++   [[D.mp Tag.own (MK.int IntKind.i64) [], D.sl Tag.own (List.replicate (Int.toNat a0) (D.bool false)),       D.sl Tag.own (List.replicate (Int.toNat a0) (D.bool false)), D.own0 (D.int IntKind.i64 a1_0),       D.own0 (D.int IntKind.i64 a1_1), D.own0 (D.int IntKind.i64 a1_2), D.own0 (D.int IntKind.i64 (0 : Int)),       D.own0 (D.int IntKind.i64 (0 : Int)), D.own0 (D.int IntKind.i64 (0 : Int)), D.own0 (D.bool false),       D.own0 (D.int IntKind.i64 (0 : Int))]]) fun T3 =>
          some (Ans.mk (D.tup [D.h (4160 : Nat) (List.length T0) (0 : Nat), D.int IntKind.i64 (0 : Int)]) [] [T3])))))
theorem G_virtual_New (F_geom_Check : List D → Option D) (a0 : Int) (a1_0 : Int) (a1_1 : Int) (a1_2 : Int) (T0 : Tb) : denS Try.prog (penv' [(ID.geom_Check, (.pure [0] F_geom_Check))]) ann_virtual_New [0, 0] ID.virtual_New [.int .i64 a0, .agg [.int .i64 a1_0, .int .i64 a1_1, .int .i64 a1_2]] [T0] = g_virtual_New F_geom_Check a0 a1_0 a1_1 a1_2 T0 := by kernel_rfl
theorem F_virtual_New_eq (a0 : Int) (a1_0 : Int) (a1_1 : Int) (a1_2 : Int) (T0 : Tb) : F_virtual_New [.int .i64 a0, .agg [.int .i64 a1_0, .int .i64 a1_1, .int .i64 a1_2]] [T0] = g_virtual_New F_geom_Check a0 a1_0 a1_1 a1_2 T0 := G_virtual_New F_geom_Check a0 a1_0 a1_1 a1_2 T0
def ann_wattleplay_Sector : Ann := { loops := [(1, [.val (.cell (.int .i64)), .dead, .dead, .own 1, .dead, .dead, .dead, .dead, .dead, .dead, .dead, .val (.cell (.int .i64)), .val (.cell (.int .i64))])] }
noncomputable def F_wattleplay_Sector : List D → Option D := denP Try.prog (penv' [(ID.wattlekeep_Within, (.pure [0] F_wattlekeep_Within))]) ann_wattleplay_Sector [1] ID.wattleplay_Sector
theorem sound_wattleplay_Sector : Sound Try.prog ID.wattleplay_Sector (.pure [1] F_wattleplay_Sector) := denP_sound (penv_ok [fact_wattlekeep_Within]) mixed ⟨Try.f10, by kernel_rfl, by kernel_rfl, by kernel_rfl⟩
noncomputable def fact_wattleplay_Sector : Fact Try.prog := ⟨ID.wattleplay_Sector, (.pure [1] F_wattleplay_Sector), sound_wattleplay_Sector⟩
noncomputable def g_wattleplay_Sector (F_wattlekeep_Within : List D → Option D) (a0 : Int) : Option D :=
  bindK (F_wattlekeep_Within [D.int IntKind.i64 a0, D.int IntKind.i64 (11 : Int)]) fun r1 =>
  asI IntKind.i64 r1 fun i2 =>
  brK (i2 == (10 : Int))
    (some (D.sl Tag.own   [D.int IntKind.u8 (0 : Int), D.int IntKind.u8 (0 : Int), D.int IntKind.u8 (0 : Int), D.int IntKind.u8 (0 : Int),     D.int IntKind.u8 (0 : Int), D.int IntKind.u8 (0 : Int), D.int IntKind.u8 (0 : Int), D.int IntKind.u8 (0 : Int),     D.int IntKind.u8 (0 : Int), D.int IntKind.u8 (0 : Int), D.int IntKind.u8 (0 : Int), D.int IntKind.u8 (0 : Int),     D.int IntKind.u8 (0 : Int), D.int IntKind.u8 (0 : Int), D.int IntKind.u8 (0 : Int), D.int IntKind.u8 (0 : Int),     D.int IntKind.u8 (0 : Int), D.int IntKind.u8 (0 : Int), D.int IntKind.u8 (0 : Int), D.int IntKind.u8 (0 : Int),     D.int IntKind.u8 (0 : Int), D.int IntKind.u8 (0 : Int), D.int IntKind.u8 (0 : Int), D.int IntKind.u8 (0 : Int),     D.int IntKind.u8 (0 : Int), D.int IntKind.u8 (0 : Int), D.int IntKind.u8 (0 : Int), D.int IntKind.u8 (0 : Int),     D.int IntKind.u8 (0 : Int), D.int IntKind.u8 (0 : Int), D.int IntKind.u8 (0 : Int), D.int IntKind.u8 (0 : Int)]))
    (loopN (α := (Int × List D × Int × Int × PUnit) × PUnit) (fun again3 ((i4, (l5, (i6, (i7, _)))), _) =>
      brK (decide (i7 < i6))
        (letN (IntKind.wrap IntKind.i64 (Int.tdiv i4 (7 : Int))) fun n8 =>
        letN (bits BinOp.or IntKind.i64 n8 (1 : Int)) fun n9 =>
        letN (IntKind.wrap IntKind.i64 (i7 * n9)) fun n10 =>
        letN (IntKind.wrap IntKind.i64 (i4 + n10)) fun n11 =>
        letN (IntKind.wrap IntKind.u8 n11) fun n12 =>
        sif ((0 : Int) ≤ i7) <|
        sif (Int.toNat i7 < List.length l5) <|
        getK l5 ((0 : Nat) + Int.toNat i7) fun d13 =>
        sif (D.isAgg d13 = false) <|
        letN (IntKind.wrap IntKind.i64 (i7 + (1 : Int))) fun n14 =>
        sif (List.length l5 = List.length (List.set l5 ((0 : Nat) + Int.toNat i7) (D.int IntKind.u8 n12))) <|
        again3 (((i4, List.set l5 ((0 : Nat) + Int.toNat i7) (D.int IntKind.u8 n12), i6, n14, PUnit.unit), PUnit.unit)))
        (sif (List.length l5 = List.length l5) <|
        sif (List.all l5 D.free = true) <|
        some (D.sl Tag.own l5)))
      (((a0,     [D.int IntKind.u8 (0 : Int), D.int IntKind.u8 (0 : Int), D.int IntKind.u8 (0 : Int), D.int IntKind.u8 (0 : Int),       D.int IntKind.u8 (0 : Int), D.int IntKind.u8 (0 : Int), D.int IntKind.u8 (0 : Int), D.int IntKind.u8 (0 : Int),       D.int IntKind.u8 (0 : Int), D.int IntKind.u8 (0 : Int), D.int IntKind.u8 (0 : Int), D.int IntKind.u8 (0 : Int),       D.int IntKind.u8 (0 : Int), D.int IntKind.u8 (0 : Int), D.int IntKind.u8 (0 : Int), D.int IntKind.u8 (0 : Int),       D.int IntKind.u8 (0 : Int), D.int IntKind.u8 (0 : Int), D.int IntKind.u8 (0 : Int), D.int IntKind.u8 (0 : Int),       D.int IntKind.u8 (0 : Int), D.int IntKind.u8 (0 : Int), D.int IntKind.u8 (0 : Int), D.int IntKind.u8 (0 : Int),       D.int IntKind.u8 (0 : Int), D.int IntKind.u8 (0 : Int), D.int IntKind.u8 (0 : Int), D.int IntKind.u8 (0 : Int),       D.int IntKind.u8 (0 : Int), D.int IntKind.u8 (0 : Int), D.int IntKind.u8 (0 : Int), D.int IntKind.u8 (0 : Int)],     (32 : Int), (0 : Int), PUnit.unit),   PUnit.unit)))
theorem G_wattleplay_Sector (F_wattlekeep_Within : List D → Option D) (a0 : Int) : denP Try.prog (penv' [(ID.wattlekeep_Within, (.pure [0] F_wattlekeep_Within))]) ann_wattleplay_Sector [1] ID.wattleplay_Sector [.int .i64 a0] = g_wattleplay_Sector F_wattlekeep_Within a0 := by kernel_rfl
theorem F_wattleplay_Sector_eq (a0 : Int) : F_wattleplay_Sector [.int .i64 a0] = g_wattleplay_Sector F_wattlekeep_Within a0 := G_wattleplay_Sector F_wattlekeep_Within a0
def ann_virtual_Virtual_members : Ann := { loops := [], ks := [(4160, false)] }
noncomputable def F_virtual_Virtual_members : List D → List Tb → Option Ans := denS Try.prog (penv' []) ann_virtual_Virtual_members [0] ID.virtual_Virtual_members
theorem sound_virtual_Virtual_members : Sound Try.prog ID.virtual_Virtual_members (.st [] [0] [(4160, false)] F_virtual_Virtual_members) := denS_sound (penv_ok []) mixed ⟨Try.f44, by kernel_rfl, by kernel_rfl, by kernel_rfl⟩
noncomputable def fact_virtual_Virtual_members : Fact Try.prog := ⟨ID.virtual_Virtual_members, (.st [] [0] [(4160, false)] F_virtual_Virtual_members), sound_virtual_Virtual_members⟩
noncomputable def g_virtual_Virtual_members (a0 : Nat) (T0 : Tb) : Option Ans :=
  getK T0 a0 fun d1 =>
  getK d1 ((9 : Nat)) fun d2 =>
  asB d2 fun b3 =>
  brK b3
    (getK T0 a0 fun d4 =>
    getK d4 ((7 : Nat)) fun d5 =>
    asI IntKind.i64 d5 fun i6 =>
    some (Ans.mk (D.int IntKind.i64 i6) [] []))
    (getK T0 a0 fun d7 =>
    getK d7 ((4 : Nat)) fun d8 =>
    asI IntKind.i64 d8 fun i9 =>
    some (Ans.mk (D.int IntKind.i64 i9) [] []))
theorem G_virtual_Virtual_members (a0 : Nat) (T0 : Tb) : denS Try.prog (penv' []) ann_virtual_Virtual_members [0] ID.virtual_Virtual_members [.h 4160 a0 0] [T0] = g_virtual_Virtual_members a0 T0 := by kernel_rfl
theorem F_virtual_Virtual_members_eq (a0 : Nat) (T0 : Tb) : F_virtual_Virtual_members [.h 4160 a0 0] [T0] = g_virtual_Virtual_members a0 T0 := G_virtual_Virtual_members a0 T0
def ann_virtual_Virtual_sync : Ann := { loops := [(0, [.val (.cell (.hnd (4160 : Nat))), .dead, .dead, .dead, .val (.cell (.int .i64)), .val (.cell (.int .i64))])], ks := [(4160, true)] }
noncomputable def F_virtual_Virtual_sync : List D → List Tb → Option Ans := denS Try.prog (penv' [(ID.virtual_Virtual_members, (.st [] [0] [(4160, false)] F_virtual_Virtual_members))]) ann_virtual_Virtual_sync [] ID.virtual_Virtual_sync
theorem sound_virtual_Virtual_sync : Sound Try.prog ID.virtual_Virtual_sync (.st [] [] [(4160, true)] F_virtual_Virtual_sync) := denS_sound (penv_ok [fact_virtual_Virtual_members]) mixed ⟨Try.f37, by kernel_rfl, by kernel_rfl, by kernel_rfl⟩
noncomputable def fact_virtual_Virtual_sync : Fact Try.prog := ⟨ID.virtual_Virtual_sync, (.st [] [] [(4160, true)] F_virtual_Virtual_sync), sound_virtual_Virtual_sync⟩
noncomputable def g_virtual_Virtual_sync (F_virtual_Virtual_members : List D → List Tb → Option Ans) (a0 : Nat) (T0 : Tb) : Option Ans :=
  bindK (F_virtual_Virtual_members [D.h (4160 : Nat) a0 (0 : Nat)] [T0]) fun r1 =>
  nilK r1.outs <|
  nilK r1.tbs <|
  asI IntKind.i64 r1.r fun i2 =>
  loopN (α := (Nat × Int × Int × PUnit) × List (List D) × PUnit) (fun again3 ((x4, (i5, (i6, _))), (T7, _)) =>
    brK (decide (i6 < i5))
      (getK T7 x4 fun d8 =>
      getK d8 ((2 : Nat)) fun d9 =>
      asOwn d9 fun l10 =>
      getK T7 x4 fun d11 =>
      getK d11 ((2 : Nat)) fun d12 =>
      asOwn d12 fun l13 =>
      getK T7 x4 fun d14 =>
      getK d14 ((2 : Nat)) fun d15 =>
      asOwn d15 fun l16 =>
      sif ((0 : Int) ≤ i6) <|
      sif (Int.toNat i6 < List.length l13) <|
      getK T7 x4 fun d17 =>
      getK d17 ((2 : Nat)) fun d18 =>
      asOwn d18 fun l19 =>
      getK l19 ((0 : Nat) + Int.toNat i6) fun d20 =>
      asB d20 fun b21 =>
      brK b21
        (getK T7 x4 fun d22 =>
        getK d22 ((2 : Nat)) fun d23 =>
        asOwn d23 fun l24 =>
        sif ((0 : Int) ≤ i6) <|
        sif (Int.toNat i6 < List.length l10) <|
        getK T7 x4 fun d25 =>
        getK d25 ((2 : Nat)) fun d26 =>
        asOwn d26 fun l27 =>
        getK l27 ((0 : Nat) + Int.toNat i6) fun d28 =>
        sif (D.isAgg d28 = false) <|
        letT (setT T7 x4 (2 : Nat) (D.sl Tag.own (List.set l27 ((0 : Nat) + Int.toNat i6) (D.bool true)))) fun T29 =>
        letN (IntKind.wrap IntKind.i64 (i6 + (1 : Int))) fun n30 =>
        again3 (((x4, i5, n30, PUnit.unit), T29, PUnit.unit)))
        (getK T7 x4 fun d31 =>
        getK d31 ((1 : Nat)) fun d32 =>
        asOwn d32 fun l33 =>
        getK T7 x4 fun d34 =>
        getK d34 ((1 : Nat)) fun d35 =>
        asOwn d35 fun l36 =>
        sif ((0 : Int) ≤ i6) <|
        sif (Int.toNat i6 < List.length l33) <|
        getK T7 x4 fun d37 =>
        getK d37 ((1 : Nat)) fun d38 =>
        asOwn d38 fun l39 =>
        getK l39 ((0 : Nat) + Int.toNat i6) fun d40 =>
        asB d40 fun b41 =>
        getK T7 x4 fun d42 =>
        getK d42 ((2 : Nat)) fun d43 =>
        asOwn d43 fun l44 =>
        sif ((0 : Int) ≤ i6) <|
        sif (Int.toNat i6 < List.length l10) <|
        getK T7 x4 fun d45 =>
        getK d45 ((2 : Nat)) fun d46 =>
        asOwn d46 fun l47 =>
        getK l47 ((0 : Nat) + Int.toNat i6) fun d48 =>
        sif (D.isAgg d48 = false) <|
        letT (setT T7 x4 (2 : Nat) (D.sl Tag.own (List.set l47 ((0 : Nat) + Int.toNat i6) (D.bool b41)))) fun T49 =>
        letN (IntKind.wrap IntKind.i64 (i6 + (1 : Int))) fun n50 =>
        again3 (((x4, i5, n50, PUnit.unit), T49, PUnit.unit))))
      (some (Ans.mk (D.tup []) [] [T7])))
    (((a0, i2, (0 : Int), PUnit.unit), T0, PUnit.unit))
theorem G_virtual_Virtual_sync (F_virtual_Virtual_members : List D → List Tb → Option Ans) (a0 : Nat) (T0 : Tb) : denS Try.prog (penv' [(ID.virtual_Virtual_members, (.st [] [0] [(4160, false)] F_virtual_Virtual_members))]) ann_virtual_Virtual_sync [] ID.virtual_Virtual_sync [.h 4160 a0 0] [T0] = g_virtual_Virtual_sync F_virtual_Virtual_members a0 T0 := by kernel_rfl
theorem F_virtual_Virtual_sync_eq (a0 : Nat) (T0 : Tb) : F_virtual_Virtual_sync [.h 4160 a0 0] [T0] = g_virtual_Virtual_sync F_virtual_Virtual_members a0 T0 := G_virtual_Virtual_sync F_virtual_Virtual_members a0 T0
def ann_geom_Budget : Ann := { loops := [] }
noncomputable def F_geom_Budget : List D → Option D := denP Try.prog (penv' [(ID.geom_Check, (.pure [0] F_geom_Check))]) ann_geom_Budget [0] ID.geom_Budget
theorem sound_geom_Budget : Sound Try.prog ID.geom_Budget (.pure [0] F_geom_Budget) := denP_sound (penv_ok [fact_geom_Check]) mixed ⟨Try.f61, by kernel_rfl, by kernel_rfl, by kernel_rfl⟩
noncomputable def fact_geom_Budget : Fact Try.prog := ⟨ID.geom_Budget, (.pure [0] F_geom_Budget), sound_geom_Budget⟩
noncomputable def g_geom_Budget (F_geom_Check : List D → Option D) (a0_0 : Int) (a0_1 : Int) (a0_2 : Int) : Option D :=
  bindK (F_geom_Check [D.agg [D.int IntKind.i64 a0_0, D.int IntKind.i64 a0_1, D.int IntKind.i64 a0_2]]) fun r1 =>
  asI IntKind.i64 r1 fun i2 =>
  brK (i2 != (0 : Int))
    (some (D.int IntKind.i64 (0 : Int)))
    (letN (IntKind.wrap IntKind.i64 (a0_0 - (4 : Int))) fun n3 =>
    some (D.int IntKind.i64 n3))
theorem G_geom_Budget (F_geom_Check : List D → Option D) (a0_0 : Int) (a0_1 : Int) (a0_2 : Int) : denP Try.prog (penv' [(ID.geom_Check, (.pure [0] F_geom_Check))]) ann_geom_Budget [0] ID.geom_Budget [.agg [.int .i64 a0_0, .int .i64 a0_1, .int .i64 a0_2]] = g_geom_Budget F_geom_Check a0_0 a0_1 a0_2 := by kernel_rfl
theorem F_geom_Budget_eq (a0_0 : Int) (a0_1 : Int) (a0_2 : Int) : F_geom_Budget [.agg [.int .i64 a0_0, .int .i64 a0_1, .int .i64 a0_2]] = g_geom_Budget F_geom_Check a0_0 a0_1 a0_2 := G_geom_Budget F_geom_Check a0_0 a0_1 a0_2
def ann_geom_Width : Ann := { loops := [] }
noncomputable def F_geom_Width : List D → Option D := denP Try.prog (penv' [(ID.geom_Check, (.pure [0] F_geom_Check)), (ID.geom_Budget, (.pure [0] F_geom_Budget))]) ann_geom_Width [0] ID.geom_Width
theorem sound_geom_Width : Sound Try.prog ID.geom_Width (.pure [0] F_geom_Width) := denP_sound (penv_ok [fact_geom_Check, fact_geom_Budget]) mixed ⟨Try.f62, by kernel_rfl, by kernel_rfl, by kernel_rfl⟩
noncomputable def fact_geom_Width : Fact Try.prog := ⟨ID.geom_Width, (.pure [0] F_geom_Width), sound_geom_Width⟩
noncomputable def g_geom_Width (F_geom_Check : List D → Option D) (F_geom_Budget : List D → Option D) (a0_0 : Int) (a0_1 : Int) (a0_2 : Int) : Option D :=
  bindK (F_geom_Check [D.agg [D.int IntKind.i64 a0_0, D.int IntKind.i64 a0_1, D.int IntKind.i64 a0_2]]) fun r1 =>
  asI IntKind.i64 r1 fun i2 =>
  brK (i2 != (0 : Int))
    (some (D.int IntKind.i64 (0 : Int)))
    (bindK (F_geom_Budget [D.agg [D.int IntKind.i64 a0_0, D.int IntKind.i64 a0_1, D.int IntKind.i64 a0_2]]) fun r3 =>
    asI IntKind.i64 r3 fun i4 =>
    letN (IntKind.wrap IntKind.i64 (a0_1 - i4)) fun n5 =>
    some (D.int IntKind.i64 n5))
theorem G_geom_Width (F_geom_Check : List D → Option D) (F_geom_Budget : List D → Option D) (a0_0 : Int) (a0_1 : Int) (a0_2 : Int) : denP Try.prog (penv' [(ID.geom_Check, (.pure [0] F_geom_Check)), (ID.geom_Budget, (.pure [0] F_geom_Budget))]) ann_geom_Width [0] ID.geom_Width [.agg [.int .i64 a0_0, .int .i64 a0_1, .int .i64 a0_2]] = g_geom_Width F_geom_Check F_geom_Budget a0_0 a0_1 a0_2 := by kernel_rfl
theorem F_geom_Width_eq (a0_0 : Int) (a0_1 : Int) (a0_2 : Int) : F_geom_Width [.agg [.int .i64 a0_0, .int .i64 a0_1, .int .i64 a0_2]] = g_geom_Width F_geom_Check F_geom_Budget a0_0 a0_1 a0_2 := G_geom_Width F_geom_Check F_geom_Budget a0_0 a0_1 a0_2
def ann_geom_Capacity : Ann := { loops := [] }
noncomputable def F_geom_Capacity : List D → Option D := denP Try.prog (penv' [(ID.geom_Width, (.pure [0] F_geom_Width))]) ann_geom_Capacity [0] ID.geom_Capacity
theorem sound_geom_Capacity : Sound Try.prog ID.geom_Capacity (.pure [0] F_geom_Capacity) := denP_sound (penv_ok [fact_geom_Width]) mixed ⟨Try.f42, by kernel_rfl, by kernel_rfl, by kernel_rfl⟩
noncomputable def fact_geom_Capacity : Fact Try.prog := ⟨ID.geom_Capacity, (.pure [0] F_geom_Capacity), sound_geom_Capacity⟩
noncomputable def g_geom_Capacity (F_geom_Width : List D → Option D) (a0_0 : Int) (a0_1 : Int) (a0_2 : Int) : Option D :=
  bindK (F_geom_Width [D.agg [D.int IntKind.i64 a0_0, D.int IntKind.i64 a0_1, D.int IntKind.i64 a0_2]]) fun r1 =>
  asI IntKind.i64 r1 fun i2 =>
  letN (IntKind.wrap IntKind.i64 (i2 * (16 : Int))) fun n3 =>
  some (D.int IntKind.i64 n3)
theorem G_geom_Capacity (F_geom_Width : List D → Option D) (a0_0 : Int) (a0_1 : Int) (a0_2 : Int) : denP Try.prog (penv' [(ID.geom_Width, (.pure [0] F_geom_Width))]) ann_geom_Capacity [0] ID.geom_Capacity [.agg [.int .i64 a0_0, .int .i64 a0_1, .int .i64 a0_2]] = g_geom_Capacity F_geom_Width a0_0 a0_1 a0_2 := by kernel_rfl
theorem F_geom_Capacity_eq (a0_0 : Int) (a0_1 : Int) (a0_2 : Int) : F_geom_Capacity [.agg [.int .i64 a0_0, .int .i64 a0_1, .int .i64 a0_2]] = g_geom_Capacity F_geom_Width a0_0 a0_1 a0_2 := G_geom_Capacity F_geom_Width a0_0 a0_1 a0_2
def ann_virtual_Virtual_Capacity : Ann := { loops := [], ks := [(4160, false)] }
noncomputable def F_virtual_Virtual_Capacity : List D → List Tb → Option Ans := denS Try.prog (penv' [(ID.geom_Capacity, (.pure [0] F_geom_Capacity))]) ann_virtual_Virtual_Capacity [0] ID.virtual_Virtual_Capacity
theorem sound_virtual_Virtual_Capacity : Sound Try.prog ID.virtual_Virtual_Capacity (.st [] [0] [(4160, false)] F_virtual_Virtual_Capacity) := denS_sound (penv_ok [fact_geom_Capacity]) mixed ⟨Try.f16, by kernel_rfl, by kernel_rfl, by kernel_rfl⟩
noncomputable def fact_virtual_Virtual_Capacity : Fact Try.prog := ⟨ID.virtual_Virtual_Capacity, (.st [] [0] [(4160, false)] F_virtual_Virtual_Capacity), sound_virtual_Virtual_Capacity⟩
noncomputable def g_virtual_Virtual_Capacity (F_geom_Capacity : List D → Option D) (a0 : Nat) (T0 : Tb) : Option Ans :=
  getK T0 a0 fun d1 =>
  sif ((6 : Nat) ≤ List.length d1) <|
  sif (flats (List.take (3 : Nat) (List.drop (3 : Nat) d1)) = true) <|
  getCells ([Lf.int IntKind.i64, Lf.int IntKind.i64, Lf.int IntKind.i64]) (List.take (3 : Nat) (List.drop (3 : Nat) d1)) fun c2 =>
  bindK (F_geom_Capacity [D.agg [D.int IntKind.i64 c2.fst, D.int IntKind.i64 c2.snd.fst, D.int IntKind.i64 c2.snd.snd.fst]]) fun r3 =>
  asI IntKind.i64 r3 fun i4 =>
  some (Ans.mk (D.int IntKind.i64 i4) [] [])
theorem G_virtual_Virtual_Capacity (F_geom_Capacity : List D → Option D) (a0 : Nat) (T0 : Tb) : denS Try.prog (penv' [(ID.geom_Capacity, (.pure [0] F_geom_Capacity))]) ann_virtual_Virtual_Capacity [0] ID.virtual_Virtual_Capacity [.h 4160 a0 0] [T0] = g_virtual_Virtual_Capacity F_geom_Capacity a0 T0 := by kernel_rfl
theorem F_virtual_Virtual_Capacity_eq (a0 : Nat) (T0 : Tb) : F_virtual_Virtual_Capacity [.h 4160 a0 0] [T0] = g_virtual_Virtual_Capacity F_geom_Capacity a0 T0 := G_virtual_Virtual_Capacity F_geom_Capacity a0 T0
def ann_virtual_Virtual_Lost : Ann := { loops := [(0, [.val (.cell (.hnd (4160 : Nat))), .dead, .dead, .val (.cell (.int .i64)), .dead, .dead, .val (.cell (.int .i64)), .val (.cell (.int .i64))])], ks := [(4160, false)] }
noncomputable def F_virtual_Virtual_Lost : List D → List Tb → Option Ans := denS Try.prog (penv' [(ID.virtual_Virtual_members, (.st [] [0] [(4160, false)] F_virtual_Virtual_members))]) ann_virtual_Virtual_Lost [0] ID.virtual_Virtual_Lost
theorem sound_virtual_Virtual_Lost : Sound Try.prog ID.virtual_Virtual_Lost (.st [] [0] [(4160, false)] F_virtual_Virtual_Lost) := denS_sound (penv_ok [fact_virtual_Virtual_members]) mixed ⟨Try.f25, by kernel_rfl, by kernel_rfl, by kernel_rfl⟩
noncomputable def fact_virtual_Virtual_Lost : Fact Try.prog := ⟨ID.virtual_Virtual_Lost, (.st [] [0] [(4160, false)] F_virtual_Virtual_Lost), sound_virtual_Virtual_Lost⟩
noncomputable def g_virtual_Virtual_Lost (F_virtual_Virtual_members : List D → List Tb → Option Ans) (a0 : Nat) (T0 : Tb) : Option Ans :=
  bindK (F_virtual_Virtual_members [D.h (4160 : Nat) a0 (0 : Nat)] [T0]) fun r1 =>
  nilK r1.outs <|
  nilK r1.tbs <|
  asI IntKind.i64 r1.r fun i2 =>
  loopN (α := (Nat × Int × Int × Int × PUnit) × List (List D) × PUnit) (fun again3 ((x4, (i5, (i6, (i7, _)))), (T8, _)) =>
    brK (decide (i7 < i6))
      (getK T8 x4 fun d9 =>
      getK d9 ((1 : Nat)) fun d10 =>
      asOwn d10 fun l11 =>
      getK T8 x4 fun d12 =>
      getK d12 ((1 : Nat)) fun d13 =>
      asOwn d13 fun l14 =>
      sif ((0 : Int) ≤ i7) <|
      sif (Int.toNat i7 < List.length l11) <|
      getK T8 x4 fun d15 =>
      getK d15 ((1 : Nat)) fun d16 =>
      asOwn d16 fun l17 =>
      getK l17 ((0 : Nat) + Int.toNat i7) fun d18 =>
      asB d18 fun b19 =>
      brK b19
        (letN (IntKind.wrap IntKind.i64 (i5 + (1 : Int))) fun n20 =>
        letN (IntKind.wrap IntKind.i64 (i7 + (1 : Int))) fun n21 =>
        again3 (((x4, n20, i6, n21, PUnit.unit), T8, PUnit.unit)))
        (getK T8 x4 fun d22 =>
        getK d22 ((2 : Nat)) fun d23 =>
        asOwn d23 fun l24 =>
        getK T8 x4 fun d25 =>
        getK d25 ((2 : Nat)) fun d26 =>
        asOwn d26 fun l27 =>
        sif ((0 : Int) ≤ i7) <|
        sif (Int.toNat i7 < List.length l24) <|
        getK T8 x4 fun d28 =>
        getK d28 ((2 : Nat)) fun d29 =>
        asOwn d29 fun l30 =>
        getK l30 ((0 : Nat) + Int.toNat i7) fun d31 =>
        asB d31 fun b32 =>
        brK b32
          (letN (IntKind.wrap IntKind.i64 (i5 + (1 : Int))) fun n33 =>
          letN (IntKind.wrap IntKind.i64 (i7 + (1 : Int))) fun n34 =>
          again3 (((x4, n33, i6, n34, PUnit.unit), T8, PUnit.unit)))
          (letN (IntKind.wrap IntKind.i64 (i7 + (1 : Int))) fun n35 =>
          again3 (((x4, i5, i6, n35, PUnit.unit), T8, PUnit.unit)))))
      (some (Ans.mk (D.int IntKind.i64 i5) [] [])))
    (((a0, (0 : Int), i2, (0 : Int), PUnit.unit), T0, PUnit.unit))
theorem G_virtual_Virtual_Lost (F_virtual_Virtual_members : List D → List Tb → Option Ans) (a0 : Nat) (T0 : Tb) : denS Try.prog (penv' [(ID.virtual_Virtual_members, (.st [] [0] [(4160, false)] F_virtual_Virtual_members))]) ann_virtual_Virtual_Lost [0] ID.virtual_Virtual_Lost [.h 4160 a0 0] [T0] = g_virtual_Virtual_Lost F_virtual_Virtual_members a0 T0 := by kernel_rfl
theorem F_virtual_Virtual_Lost_eq (a0 : Nat) (T0 : Tb) : F_virtual_Virtual_Lost [.h 4160 a0 0] [T0] = g_virtual_Virtual_Lost F_virtual_Virtual_members a0 T0 := G_virtual_Virtual_Lost F_virtual_Virtual_members a0 T0
def ann_virtual_Virtual_lost : Ann := { loops := [], ks := [(4160, false)] }
noncomputable def F_virtual_Virtual_lost : List D → List Tb → Option Ans := denS Try.prog (penv' [(ID.virtual_Virtual_Lost, (.st [] [0] [(4160, false)] F_virtual_Virtual_Lost)), (ID.geom_Budget, (.pure [0] F_geom_Budget))]) ann_virtual_Virtual_lost [0] ID.virtual_Virtual_lost
theorem sound_virtual_Virtual_lost : Sound Try.prog ID.virtual_Virtual_lost (.st [] [0] [(4160, false)] F_virtual_Virtual_lost) := denS_sound (penv_ok [fact_virtual_Virtual_Lost, fact_geom_Budget]) mixed ⟨Try.f38, by kernel_rfl, by kernel_rfl, by kernel_rfl⟩
noncomputable def fact_virtual_Virtual_lost : Fact Try.prog := ⟨ID.virtual_Virtual_lost, (.st [] [0] [(4160, false)] F_virtual_Virtual_lost), sound_virtual_Virtual_lost⟩
noncomputable def g_virtual_Virtual_lost (F_virtual_Virtual_Lost : List D → List Tb → Option Ans) (F_geom_Budget : List D → Option D) (a0 : Nat) (T0 : Tb) : Option Ans :=
  bindK (F_virtual_Virtual_Lost [D.h (4160 : Nat) a0 (0 : Nat)] [T0]) fun r1 =>
  nilK r1.outs <|
  nilK r1.tbs <|
  asI IntKind.i64 r1.r fun i2 =>
  getK T0 a0 fun d3 =>
  sif ((6 : Nat) ≤ List.length d3) <|
  sif (flats (List.take (3 : Nat) (List.drop (3 : Nat) d3)) = true) <|
  getCells ([Lf.int IntKind.i64, Lf.int IntKind.i64, Lf.int IntKind.i64]) (List.take (3 : Nat) (List.drop (3 : Nat) d3)) fun c4 =>
  bindK (F_geom_Budget [D.agg [D.int IntKind.i64 c4.fst, D.int IntKind.i64 c4.snd.fst, D.int IntKind.i64 c4.snd.snd.fst]]) fun r5 =>
  asI IntKind.i64 r5 fun i6 =>
  brK (decide (i2 > i6))
    (some (Ans.mk (D.int IntKind.i64 (7 : Int)) [] []))
    (some (Ans.mk (D.int IntKind.i64 (0 : Int)) [] []))
theorem G_virtual_Virtual_lost (F_virtual_Virtual_Lost : List D → List Tb → Option Ans) (F_geom_Budget : List D → Option D) (a0 : Nat) (T0 : Tb) : denS Try.prog (penv' [(ID.virtual_Virtual_Lost, (.st [] [0] [(4160, false)] F_virtual_Virtual_Lost)), (ID.geom_Budget, (.pure [0] F_geom_Budget))]) ann_virtual_Virtual_lost [0] ID.virtual_Virtual_lost [.h 4160 a0 0] [T0] = g_virtual_Virtual_lost F_virtual_Virtual_Lost F_geom_Budget a0 T0 := by kernel_rfl
theorem F_virtual_Virtual_lost_eq (a0 : Nat) (T0 : Tb) : F_virtual_Virtual_lost [.h 4160 a0 0] [T0] = g_virtual_Virtual_lost F_virtual_Virtual_Lost F_geom_Budget a0 T0 := G_virtual_Virtual_lost F_virtual_Virtual_Lost F_geom_Budget a0 T0
def ann_virtual_Virtual_Write : Ann := { loops := [], ks := [(4160, true)] }
noncomputable def F_virtual_Virtual_Write : List D → List Tb → Option Ans := denS Try.prog (penv' [(ID.virtual_Virtual_sync, (.st [] [] [(4160, true)] F_virtual_Virtual_sync)), (ID.virtual_Virtual_Capacity, (.st [] [0] [(4160, false)] F_virtual_Virtual_Capacity)), (ID.virtual_Virtual_lost, (.st [] [0] [(4160, false)] F_virtual_Virtual_lost))]) ann_virtual_Virtual_Write [0] ID.virtual_Virtual_Write
theorem sound_virtual_Virtual_Write : Sound Try.prog ID.virtual_Virtual_Write (.st [] [0] [(4160, true)] F_virtual_Virtual_Write) := denS_sound (penv_ok [fact_virtual_Virtual_sync, fact_virtual_Virtual_Capacity, fact_virtual_Virtual_lost]) mixed ⟨Try.f11, by kernel_rfl, by kernel_rfl, by kernel_rfl⟩
noncomputable def fact_virtual_Virtual_Write : Fact Try.prog := ⟨ID.virtual_Virtual_Write, (.st [] [0] [(4160, true)] F_virtual_Virtual_Write), sound_virtual_Virtual_Write⟩
noncomputable def g_virtual_Virtual_Write (F_virtual_Virtual_sync : List D → List Tb → Option Ans) (F_virtual_Virtual_Capacity : List D → List Tb → Option Ans) (F_virtual_Virtual_lost : List D → List Tb → Option Ans) (a0 : Nat) (a1 : Int) (a2 : List D) (T0 : Tb) : Option Ans :=
  bindK (F_virtual_Virtual_sync [D.h (4160 : Nat) a0 (0 : Nat)] [T0]) fun r1 =>
  nilK r1.outs <|
  consK r1.tbs fun c2 q3 =>
  nilK q3 <|
  asTup r1.r fun ts4 =>
  nilK ts4 <|
  brK ((↑(List.length a2) : Int) != (32 : Int))
    (some (Ans.mk (D.int IntKind.i64 (1 : Int)) [] [c2]))
    (brK (decide (a1 < (0 : Int)))
      (some (Ans.mk (D.int IntKind.i64 (4 : Int)) [] [c2]))
      (bindK (F_virtual_Virtual_Capacity [D.h (4160 : Nat) a0 (0 : Nat)] [c2]) fun r5 =>
      nilK r5.outs <|
      nilK r5.tbs <|
      asI IntKind.i64 r5.r fun i6 =>
      brK (decide (a1 ≥ i6))
        (some (Ans.mk (D.int IntKind.i64 (4 : Int)) [] [c2]))
        (bindK (F_virtual_Virtual_lost [D.h (4160 : Nat) a0 (0 : Nat)] [c2]) fun r7 =>
        nilK r7.outs <|
        nilK r7.tbs <|
        asI IntKind.i64 r7.r fun i8 =>
        brK (i8 != (0 : Int))
          (some (Ans.mk (D.int IntKind.i64 i8) [] [c2]))
          (getK c2 a0 fun d9 =>
          getK d9 ((0 : Nat)) fun d10 =>
          asOwnM (MK.int IntKind.i64) d10 fun m11 =>
          sif (List.length a2 = (32 : Nat)) <|
          sif (cells a2 = true) <|
          sif (List.length a2 = (32 : Nat)) <|
          sif (D.width (D.agg a2) = (32 : Nat)) <|
          getK c2 a0 fun d12 =>
          getK d12 ((0 : Nat)) fun d13 =>
          asOwnM (MK.int IntKind.i64) d13 fun m14 =>
          sif (D.flatEl (D.agg a2) = true) <|
          letT (setT c2 a0 (0 : Nat) (D.mp Tag.own (MK.int IntKind.i64) (setD a1 (D.agg a2) m14))) fun T15 =>
          some (Ans.mk (D.int IntKind.i64 (0 : Int)) [] [T15])))))
theorem G_virtual_Virtual_Write (F_virtual_Virtual_sync : List D → List Tb → Option Ans) (F_virtual_Virtual_Capacity : List D → List Tb → Option Ans) (F_virtual_Virtual_lost : List D → List Tb → Option Ans) (tga2 : Tag) (a0 : Nat) (a1 : Int) (a2 : List D) (T0 : Tb) : denS Try.prog (penv' [(ID.virtual_Virtual_sync, (.st [] [] [(4160, true)] F_virtual_Virtual_sync)), (ID.virtual_Virtual_Capacity, (.st [] [0] [(4160, false)] F_virtual_Virtual_Capacity)), (ID.virtual_Virtual_lost, (.st [] [0] [(4160, false)] F_virtual_Virtual_lost))]) ann_virtual_Virtual_Write [0] ID.virtual_Virtual_Write [.h 4160 a0 0, .int .i64 a1, .sl tga2 a2] [T0] = g_virtual_Virtual_Write F_virtual_Virtual_sync F_virtual_Virtual_Capacity F_virtual_Virtual_lost a0 a1 (D.lentL a2) T0 := by kernel_rfl
theorem F_virtual_Virtual_Write_eq (tga2 : Tag) (a0 : Nat) (a1 : Int) (a2 : List D) (T0 : Tb) : F_virtual_Virtual_Write [.h 4160 a0 0, .int .i64 a1, .sl tga2 a2] [T0] = g_virtual_Virtual_Write F_virtual_Virtual_sync F_virtual_Virtual_Capacity F_virtual_Virtual_lost a0 a1 (D.lentL a2) T0 := G_virtual_Virtual_Write F_virtual_Virtual_sync F_virtual_Virtual_Capacity F_virtual_Virtual_lost tga2 a0 a1 a2 T0
def ann_virtual_Virtual_Fail : Ann := { loops := [], ks := [(4160, true)] }
noncomputable def F_virtual_Virtual_Fail : List D → List Tb → Option Ans := denS Try.prog (penv' []) ann_virtual_Virtual_Fail [0] ID.virtual_Virtual_Fail
theorem sound_virtual_Virtual_Fail : Sound Try.prog ID.virtual_Virtual_Fail (.st [] [0] [(4160, true)] F_virtual_Virtual_Fail) := denS_sound (penv_ok []) mixed ⟨Try.f14, by kernel_rfl, by kernel_rfl, by kernel_rfl⟩
noncomputable def fact_virtual_Virtual_Fail : Fact Try.prog := ⟨ID.virtual_Virtual_Fail, (.st [] [0] [(4160, true)] F_virtual_Virtual_Fail), sound_virtual_Virtual_Fail⟩
noncomputable def g_virtual_Virtual_Fail (a0 : Nat) (a1 : Int) (T0 : Tb) : Option Ans :=
  brK (decide (a1 < (0 : Int)))
    (some (Ans.mk (D.int IntKind.i64 (1 : Int)) [] [T0]))
    (getK T0 a0 fun d1 =>
    getK d1 ((1 : Nat)) fun d2 =>
    asOwn d2 fun l3 =>
    getK T0 a0 fun d4 =>
    getK d4 ((1 : Nat)) fun d5 =>
    asOwn d5 fun l6 =>
    sif ((0 : Nat) + List.length l3 ≤ List.length l6) <|
    brK (decide (a1 ≥ (↑(List.length l3) : Int)))
      (some (Ans.mk (D.int IntKind.i64 (1 : Int)) [] [T0]))
      (getK T0 a0 fun d7 =>
      getK d7 ((1 : Nat)) fun d8 =>
      asOwn d8 fun l9 =>
      getK T0 a0 fun d10 =>
      getK d10 ((1 : Nat)) fun d11 =>
      asOwn d11 fun l12 =>
      sif ((0 : Int) ≤ a1) <|
      sif (Int.toNat a1 < List.length l9) <|
      getK T0 a0 fun d13 =>
      getK d13 ((1 : Nat)) fun d14 =>
      asOwn d14 fun l15 =>
      getK l15 ((0 : Nat) + Int.toNat a1) fun d16 =>
      sif (D.isAgg d16 = false) <|
      letT (setT T0 a0 (1 : Nat) (D.sl Tag.own (List.set l15 ((0 : Nat) + Int.toNat a1) (D.bool true)))) fun T17 =>
      some (Ans.mk (D.int IntKind.i64 (0 : Int)) [] [T17])))
theorem G_virtual_Virtual_Fail (a0 : Nat) (a1 : Int) (T0 : Tb) : denS Try.prog (penv' []) ann_virtual_Virtual_Fail [0] ID.virtual_Virtual_Fail [.h 4160 a0 0, .int .i64 a1] [T0] = g_virtual_Virtual_Fail a0 a1 T0 := by kernel_rfl
theorem F_virtual_Virtual_Fail_eq (a0 : Nat) (a1 : Int) (T0 : Tb) : F_virtual_Virtual_Fail [.h 4160 a0 0, .int .i64 a1] [T0] = g_virtual_Virtual_Fail a0 a1 T0 := G_virtual_Virtual_Fail a0 a1 T0
def ann_virtual_Virtual_Replace : Ann := { loops := [], ks := [(4160, true)] }
noncomputable def F_virtual_Virtual_Replace : List D → List Tb → Option Ans := denS Try.prog (penv' [(ID.virtual_Virtual_sync, (.st [] [] [(4160, true)] F_virtual_Virtual_sync)), (ID.virtual_Virtual_members, (.st [] [0] [(4160, false)] F_virtual_Virtual_members)), (ID.virtual_Virtual_lost, (.st [] [0] [(4160, false)] F_virtual_Virtual_lost))]) ann_virtual_Virtual_Replace [0] ID.virtual_Virtual_Replace
theorem sound_virtual_Virtual_Replace : Sound Try.prog ID.virtual_Virtual_Replace (.st [] [0] [(4160, true)] F_virtual_Virtual_Replace) := denS_sound (penv_ok [fact_virtual_Virtual_sync, fact_virtual_Virtual_members, fact_virtual_Virtual_lost]) mixed ⟨Try.f18, by kernel_rfl, by kernel_rfl, by kernel_rfl⟩
noncomputable def fact_virtual_Virtual_Replace : Fact Try.prog := ⟨ID.virtual_Virtual_Replace, (.st [] [0] [(4160, true)] F_virtual_Virtual_Replace), sound_virtual_Virtual_Replace⟩
noncomputable def g_virtual_Virtual_Replace (F_virtual_Virtual_sync : List D → List Tb → Option Ans) (F_virtual_Virtual_members : List D → List Tb → Option Ans) (F_virtual_Virtual_lost : List D → List Tb → Option Ans) (a0 : Nat) (a1 : Int) (T0 : Tb) : Option Ans :=
  bindK (F_virtual_Virtual_sync [D.h (4160 : Nat) a0 (0 : Nat)] [T0]) fun r1 =>
  nilK r1.outs <|
  consK r1.tbs fun c2 q3 =>
  nilK q3 <|
  asTup r1.r fun ts4 =>
  nilK ts4 <|
  brK (decide (a1 < (0 : Int)))
    (some (Ans.mk (D.int IntKind.i64 (1 : Int)) [] [c2]))
    (bindK (F_virtual_Virtual_members [D.h (4160 : Nat) a0 (0 : Nat)] [c2]) fun r5 =>
    nilK r5.outs <|
    nilK r5.tbs <|
    asI IntKind.i64 r5.r fun i6 =>
    brK (decide (a1 ≥ i6))
      (some (Ans.mk (D.int IntKind.i64 (1 : Int)) [] [c2]))
      (getK c2 a0 fun d7 =>
      getK d7 ((2 : Nat)) fun d8 =>
      asOwn d8 fun l9 =>
      getK c2 a0 fun d10 =>
      getK d10 ((2 : Nat)) fun d11 =>
      asOwn d11 fun l12 =>
      sif ((0 : Int) ≤ a1) <|
      sif (Int.toNat a1 < List.length l9) <|
      getK c2 a0 fun d13 =>
      getK d13 ((2 : Nat)) fun d14 =>
      asOwn d14 fun l15 =>
      getK l15 ((0 : Nat) + Int.toNat a1) fun d16 =>
      asB d16 fun b17 =>
      brK (!b17)
        (some (Ans.mk (D.int IntKind.i64 (9 : Int)) [] [c2]))
        (bindK (F_virtual_Virtual_lost [D.h (4160 : Nat) a0 (0 : Nat)] [c2]) fun r18 =>
        nilK r18.outs <|
        nilK r18.tbs <|
        asI IntKind.i64 r18.r fun i19 =>
        getK c2 a0 fun d20 =>
        getK d20 ((1 : Nat)) fun d21 =>
        asOwn d21 fun l22 =>
        getK c2 a0 fun d23 =>
        getK d23 ((1 : Nat)) fun d24 =>
        asOwn d24 fun l25 =>
        sif ((0 : Int) ≤ a1) <|
        sif (Int.toNat a1 < List.length l22) <|
        getK c2 a0 fun d26 =>
        getK d26 ((1 : Nat)) fun d27 =>
        asOwn d27 fun l28 =>
        getK l28 ((0 : Nat) + Int.toNat a1) fun d29 =>
        sif (D.isAgg d29 = false) <|
        letT (setT c2 a0 (1 : Nat) (D.sl Tag.own (List.set l28 ((0 : Nat) + Int.toNat a1) (D.bool false)))) fun T30 =>
        brK (i19 == (0 : Int))
          (getK T30 a0 fun d31 =>
          getK d31 ((2 : Nat)) fun d32 =>
          asOwn d32 fun l33 =>
          getK T30 a0 fun d34 =>
          getK d34 ((2 : Nat)) fun d35 =>
          asOwn d35 fun l36 =>
          sif ((0 : Int) ≤ a1) <|
          sif (Int.toNat a1 < List.length l33) <|
          getK T30 a0 fun d37 =>
          getK d37 ((2 : Nat)) fun d38 =>
          asOwn d38 fun l39 =>
          getK l39 ((0 : Nat) + Int.toNat a1) fun d40 =>
          sif (D.isAgg d40 = false) <|
          letT (setT T30 a0 (2 : Nat) (D.sl Tag.own (List.set l39 ((0 : Nat) + Int.toNat a1) (D.bool false)))) fun T41 =>
          some (Ans.mk (D.int IntKind.i64 i19) [] [T41]))
          (some (Ans.mk (D.int IntKind.i64 i19) [] [T30])))))
theorem G_virtual_Virtual_Replace (F_virtual_Virtual_sync : List D → List Tb → Option Ans) (F_virtual_Virtual_members : List D → List Tb → Option Ans) (F_virtual_Virtual_lost : List D → List Tb → Option Ans) (a0 : Nat) (a1 : Int) (T0 : Tb) : denS Try.prog (penv' [(ID.virtual_Virtual_sync, (.st [] [] [(4160, true)] F_virtual_Virtual_sync)), (ID.virtual_Virtual_members, (.st [] [0] [(4160, false)] F_virtual_Virtual_members)), (ID.virtual_Virtual_lost, (.st [] [0] [(4160, false)] F_virtual_Virtual_lost))]) ann_virtual_Virtual_Replace [0] ID.virtual_Virtual_Replace [.h 4160 a0 0, .int .i64 a1] [T0] = g_virtual_Virtual_Replace F_virtual_Virtual_sync F_virtual_Virtual_members F_virtual_Virtual_lost a0 a1 T0 := by kernel_rfl
theorem F_virtual_Virtual_Replace_eq (a0 : Nat) (a1 : Int) (T0 : Tb) : F_virtual_Virtual_Replace [.h 4160 a0 0, .int .i64 a1] [T0] = g_virtual_Virtual_Replace F_virtual_Virtual_sync F_virtual_Virtual_members F_virtual_Virtual_lost a0 a1 T0 := G_virtual_Virtual_Replace F_virtual_Virtual_sync F_virtual_Virtual_members F_virtual_Virtual_lost a0 a1 T0
def ann_geom_Can : Ann := { loops := [] }
noncomputable def F_geom_Can : List D → Option D := denP Try.prog (penv' [(ID.geom_Check, (.pure [0] F_geom_Check)), (ID.geom_Width, (.pure [0] F_geom_Width))]) ann_geom_Can [0] ID.geom_Can
theorem sound_geom_Can : Sound Try.prog ID.geom_Can (.pure [0] F_geom_Can) := denP_sound (penv_ok [fact_geom_Check, fact_geom_Width]) mixed ⟨Try.f39, by kernel_rfl, by kernel_rfl, by kernel_rfl⟩
noncomputable def fact_geom_Can : Fact Try.prog := ⟨ID.geom_Can, (.pure [0] F_geom_Can), sound_geom_Can⟩
noncomputable def g_geom_Can (F_geom_Check : List D → Option D) (F_geom_Width : List D → Option D) (a0_0 : Int) (a0_1 : Int) (a0_2 : Int) (a1_0 : Int) (a1_1 : Int) (a1_2 : Int) : Option D :=
  bindK (F_geom_Check [D.agg [D.int IntKind.i64 a0_0, D.int IntKind.i64 a0_1, D.int IntKind.i64 a0_2]]) fun r1 =>
  asI IntKind.i64 r1 fun i2 =>
  brK (i2 == (0 : Int))
    (bindK (F_geom_Check [D.agg [D.int IntKind.i64 a1_0, D.int IntKind.i64 a1_1, D.int IntKind.i64 a1_2]]) fun r3 =>
    asI IntKind.i64 r3 fun i4 =>
    brK (i4 == (0 : Int))
      (brK (!(a0_0 == a1_0 && (a0_1 == a1_1 && (a0_2 == a1_2 && true))))
        (brK (decide (a1_1 ≥ a0_1))
          (brK (decide (a1_0 ≥ a0_0))
            (bindK (F_geom_Width [D.agg [D.int IntKind.i64 a1_0, D.int IntKind.i64 a1_1, D.int IntKind.i64 a1_2]]) fun r5 =>
            asI IntKind.i64 r5 fun i6 =>
            bindK (F_geom_Width [D.agg [D.int IntKind.i64 a0_0, D.int IntKind.i64 a0_1, D.int IntKind.i64 a0_2]]) fun r7 =>
            asI IntKind.i64 r7 fun i8 =>
            some (D.bool (decide (i6 ≥ i8))))
            (some (D.bool false)))
          (some (D.bool false)))
        (some (D.bool false)))
      (some (D.bool false)))
    (some (D.bool false))
theorem G_geom_Can (F_geom_Check : List D → Option D) (F_geom_Width : List D → Option D) (a0_0 : Int) (a0_1 : Int) (a0_2 : Int) (a1_0 : Int) (a1_1 : Int) (a1_2 : Int) : denP Try.prog (penv' [(ID.geom_Check, (.pure [0] F_geom_Check)), (ID.geom_Width, (.pure [0] F_geom_Width))]) ann_geom_Can [0] ID.geom_Can [.agg [.int .i64 a0_0, .int .i64 a0_1, .int .i64 a0_2], .agg [.int .i64 a1_0, .int .i64 a1_1, .int .i64 a1_2]] = g_geom_Can F_geom_Check F_geom_Width a0_0 a0_1 a0_2 a1_0 a1_1 a1_2 := by kernel_rfl
theorem F_geom_Can_eq (a0_0 : Int) (a0_1 : Int) (a0_2 : Int) (a1_0 : Int) (a1_1 : Int) (a1_2 : Int) : F_geom_Can [.agg [.int .i64 a0_0, .int .i64 a0_1, .int .i64 a0_2], .agg [.int .i64 a1_0, .int .i64 a1_1, .int .i64 a1_2]] = g_geom_Can F_geom_Check F_geom_Width a0_0 a0_1 a0_2 a1_0 a1_1 a1_2 := G_geom_Can F_geom_Check F_geom_Width a0_0 a0_1 a0_2 a1_0 a1_1 a1_2
def ann_slices_Index_bool_bool : Ann := { loops := [(0, [.val (.cell .lent), .val (.cell .bool), .dead, .dead, .dead, .dead, .dead, .val (.cell (.int .i64)), .val (.cell (.int .i64))])] }
noncomputable def F_slices_Index_bool_bool : List D → Option D := denP Try.prog (penv' []) ann_slices_Index_bool_bool [0] ID.slices_Index_bool_bool
theorem sound_slices_Index_bool_bool : Sound Try.prog ID.slices_Index_bool_bool (.pure [0] F_slices_Index_bool_bool) := denP_sound (penv_ok []) mixed ⟨Try.f63, by kernel_rfl, by kernel_rfl, by kernel_rfl⟩
noncomputable def fact_slices_Index_bool_bool : Fact Try.prog := ⟨ID.slices_Index_bool_bool, (.pure [0] F_slices_Index_bool_bool), sound_slices_Index_bool_bool⟩
noncomputable def g_slices_Index_bool_bool (a0 : List D) (a1 : Bool) : Option D :=
  loopN (α := (List D × Bool × Int × Int × PUnit) × PUnit) (fun again1 ((l2, (b3, (i4, (i5, _)))), _) =>
    brK (decide (i5 < i4))
      (sif ((0 : Int) ≤ i5) <|
      getK l2 (Int.toNat i5) fun d6 =>
      asB d6 fun b7 =>
      brK (b3 == b7)
        (some (D.int IntKind.i64 i5))
        (letN (IntKind.wrap IntKind.i64 (i5 + (1 : Int))) fun n8 =>
        again1 (((l2, b3, i4, n8, PUnit.unit), PUnit.unit))))
      (some (D.int IntKind.i64 (-1 : Int))))
    (((a0, a1, (↑(List.length a0) : Int), (0 : Int), PUnit.unit), PUnit.unit))
theorem G_slices_Index_bool_bool (tga0 : Tag) (a0 : List D) (a1 : Bool) : denP Try.prog (penv' []) ann_slices_Index_bool_bool [0] ID.slices_Index_bool_bool [.sl tga0 a0, .bool a1] = g_slices_Index_bool_bool (D.lentL a0) a1 := by kernel_rfl
theorem F_slices_Index_bool_bool_eq (tga0 : Tag) (a0 : List D) (a1 : Bool) : F_slices_Index_bool_bool [.sl tga0 a0, .bool a1] = g_slices_Index_bool_bool (D.lentL a0) a1 := G_slices_Index_bool_bool tga0 a0 a1
def ann_slices_Contains_bool_bool : Ann := { loops := [] }
noncomputable def F_slices_Contains_bool_bool : List D → Option D := denP Try.prog (penv' [(ID.slices_Index_bool_bool, (.pure [0] F_slices_Index_bool_bool))]) ann_slices_Contains_bool_bool [0] ID.slices_Contains_bool_bool
theorem sound_slices_Contains_bool_bool : Sound Try.prog ID.slices_Contains_bool_bool (.pure [0] F_slices_Contains_bool_bool) := denP_sound (penv_ok [fact_slices_Index_bool_bool]) mixed ⟨Try.f40, by kernel_rfl, by kernel_rfl, by kernel_rfl⟩
noncomputable def fact_slices_Contains_bool_bool : Fact Try.prog := ⟨ID.slices_Contains_bool_bool, (.pure [0] F_slices_Contains_bool_bool), sound_slices_Contains_bool_bool⟩
noncomputable def g_slices_Contains_bool_bool (F_slices_Index_bool_bool : List D → Option D) (a0 : List D) (a1 : Bool) : Option D :=
  bindK (F_slices_Index_bool_bool [D.sl Tag.lent a0, D.bool a1]) fun r1 =>
  asI IntKind.i64 r1 fun i2 =>
  some (D.bool (decide (i2 ≥ (0 : Int))))
theorem G_slices_Contains_bool_bool (F_slices_Index_bool_bool : List D → Option D) (tga0 : Tag) (a0 : List D) (a1 : Bool) : denP Try.prog (penv' [(ID.slices_Index_bool_bool, (.pure [0] F_slices_Index_bool_bool))]) ann_slices_Contains_bool_bool [0] ID.slices_Contains_bool_bool [.sl tga0 a0, .bool a1] = g_slices_Contains_bool_bool F_slices_Index_bool_bool (D.lentL a0) a1 := by kernel_rfl
theorem F_slices_Contains_bool_bool_eq (tga0 : Tag) (a0 : List D) (a1 : Bool) : F_slices_Contains_bool_bool [.sl tga0 a0, .bool a1] = g_slices_Contains_bool_bool F_slices_Index_bool_bool (D.lentL a0) a1 := G_slices_Contains_bool_bool F_slices_Index_bool_bool tga0 a0 a1
def ann_virtual_Virtual_Start : Ann := { loops := [], ks := [(4160, true)] }
noncomputable def F_virtual_Virtual_Start : List D → List Tb → Option Ans := denS Try.prog (penv' [(ID.virtual_Virtual_sync, (.st [] [] [(4160, true)] F_virtual_Virtual_sync)), (ID.geom_Can, (.pure [0] F_geom_Can)), (ID.slices_Contains_bool_bool, (.pure [0] F_slices_Contains_bool_bool))]) ann_virtual_Virtual_Start [0] ID.virtual_Virtual_Start
theorem sound_virtual_Virtual_Start : Sound Try.prog ID.virtual_Virtual_Start (.st [] [0] [(4160, true)] F_virtual_Virtual_Start) := denS_sound (penv_ok [fact_virtual_Virtual_sync, fact_geom_Can, fact_slices_Contains_bool_bool]) mixed ⟨Try.f13, by kernel_rfl, by kernel_rfl, by kernel_rfl⟩
noncomputable def fact_virtual_Virtual_Start : Fact Try.prog := ⟨ID.virtual_Virtual_Start, (.st [] [0] [(4160, true)] F_virtual_Virtual_Start), sound_virtual_Virtual_Start⟩
noncomputable def g_virtual_Virtual_Start (F_virtual_Virtual_sync : List D → List Tb → Option Ans) (F_geom_Can : List D → Option D) (F_slices_Contains_bool_bool : List D → Option D) (a0 : Nat) (a1_0 : Int) (a1_1 : Int) (a1_2 : Int) (T0 : Tb) : Option Ans :=
  bindK (F_virtual_Virtual_sync [D.h (4160 : Nat) a0 (0 : Nat)] [T0]) fun r1 =>
  nilK r1.outs <|
  consK r1.tbs fun c2 q3 =>
  nilK q3 <|
  asTup r1.r fun ts4 =>
  nilK ts4 <|
  getK c2 a0 fun d5 =>
  getK d5 ((9 : Nat)) fun d6 =>
  asB d6 fun b7 =>
  brK b7
    (some (Ans.mk (D.int IntKind.i64 (8 : Int)) [] [c2]))
    (getK c2 a0 fun d8 =>
    sif ((6 : Nat) ≤ List.length d8) <|
    sif (flats (List.take (3 : Nat) (List.drop (3 : Nat) d8)) = true) <|
    getCells ([Lf.int IntKind.i64, Lf.int IntKind.i64, Lf.int IntKind.i64]) (List.take (3 : Nat) (List.drop (3 : Nat) d8)) fun c9 =>
    bindK (F_geom_Can   [D.agg [D.int IntKind.i64 c9.fst, D.int IntKind.i64 c9.snd.fst, D.int IntKind.i64 c9.snd.snd.fst],     D.agg [D.int IntKind.i64 a1_0, D.int IntKind.i64 a1_1, D.int IntKind.i64 a1_2]]) fun r10 =>
    asB r10 fun b11 =>
    brK (!b11)
      (some (Ans.mk (D.int IntKind.i64 (1 : Int)) [] [c2]))
      (getK c2 a0 fun d12 =>
      getK d12 ((1 : Nat)) fun d13 =>
      asOwn d13 fun l14 =>
      getK c2 a0 fun d15 =>
      getK d15 ((1 : Nat)) fun d16 =>
      asOwn d16 fun l17 =>
      sif ((0 : Nat) + List.length l14 ≤ List.length l17) <|
      brK (decide ((↑(List.length l14) : Int) < a1_1))
        (some (Ans.mk (D.int IntKind.i64 (1 : Int)) [] [c2]))
        (getK c2 a0 fun d18 =>
        getK d18 ((1 : Nat)) fun d19 =>
        asOwn d19 fun l20 =>
        getK c2 a0 fun d21 =>
        getK d21 ((1 : Nat)) fun d22 =>
        asOwn d22 fun l23 =>
        sif ((0 : Nat) + List.length l20 ≤ List.length l23) <|
        sif ((0 : Int) ≤ a1_1) <|
        sif (a1_1 ≤ (↑(List.length l20) : Int)) <|
        getK c2 a0 fun d24 =>
        getK d24 ((1 : Nat)) fun d25 =>
        asOwn d25 fun l26 =>
        sif ((0 : Nat) + Int.toNat (a1_1 - (0 : Int)) ≤ List.length l26) <|
        bindK (F_slices_Contains_bool_bool [D.sl Tag.lent (cut (0 : Nat) (Int.toNat (a1_1 - (0 : Int))) l26), D.bool true]) fun r27 =>
        asB r27 fun b28 =>
        brK b28
          (some (Ans.mk (D.int IntKind.i64 (5 : Int)) [] [c2]))
          (getK c2 a0 fun d29 =>
          getK d29 ((2 : Nat)) fun d30 =>
          asOwn d30 fun l31 =>
          getK c2 a0 fun d32 =>
          getK d32 ((2 : Nat)) fun d33 =>
          asOwn d33 fun l34 =>
          sif ((0 : Nat) + List.length l31 ≤ List.length l34) <|
          sif ((0 : Int) ≤ a1_1) <|
          sif (a1_1 ≤ (↑(List.length l31) : Int)) <|
          getK c2 a0 fun d35 =>
          getK d35 ((2 : Nat)) fun d36 =>
          asOwn d36 fun l37 =>
          sif ((0 : Nat) + Int.toNat (a1_1 - (0 : Int)) ≤ List.length l37) <|
          bindK (F_slices_Contains_bool_bool [D.sl Tag.lent (cut (0 : Nat) (Int.toNat (a1_1 - (0 : Int))) l37), D.bool true]) fun r38 =>
          asB r38 fun b39 =>
          brK b39
            (some (Ans.mk (D.int IntKind.i64 (5 : Int)) [] [c2]))
            (getK c2 a0 fun d40 =>
            sif ((9 : Nat) ≤ List.length d40) <|
            sif (flats (List.take (3 : Nat) (List.drop (6 : Nat) d40)) = true) <|
            letT (setCells c2 a0 (6 : Nat) [D.int IntKind.i64 a1_0, D.int IntKind.i64 a1_1, D.int IntKind.i64 a1_2]) fun T41 =>
            getK T41 a0 fun d42 =>
            sif ((10 : Nat) ≤ List.length d42) <|
            sif (flats (List.take (1 : Nat) (List.drop (9 : Nat) d42)) = true) <|
            letT (setCells T41 a0 (9 : Nat) [D.bool true]) fun T43 =>
            getK T43 a0 fun d44 =>
            sif ((11 : Nat) ≤ List.length d44) <|
            sif (flats (List.take (1 : Nat) (List.drop (10 : Nat) d44)) = true) <|
            letT (setCells T43 a0 (10 : Nat) [D.int IntKind.i64 (0 : Int)]) fun T45 =>
            some (Ans.mk (D.int IntKind.i64 (0 : Int)) [] [T45]))))))
theorem G_virtual_Virtual_Start (F_virtual_Virtual_sync : List D → List Tb → Option Ans) (F_geom_Can : List D → Option D) (F_slices_Contains_bool_bool : List D → Option D) (a0 : Nat) (a1_0 : Int) (a1_1 : Int) (a1_2 : Int) (T0 : Tb) : denS Try.prog (penv' [(ID.virtual_Virtual_sync, (.st [] [] [(4160, true)] F_virtual_Virtual_sync)), (ID.geom_Can, (.pure [0] F_geom_Can)), (ID.slices_Contains_bool_bool, (.pure [0] F_slices_Contains_bool_bool))]) ann_virtual_Virtual_Start [0] ID.virtual_Virtual_Start [.h 4160 a0 0, .agg [.int .i64 a1_0, .int .i64 a1_1, .int .i64 a1_2]] [T0] = g_virtual_Virtual_Start F_virtual_Virtual_sync F_geom_Can F_slices_Contains_bool_bool a0 a1_0 a1_1 a1_2 T0 := by kernel_rfl
theorem F_virtual_Virtual_Start_eq (a0 : Nat) (a1_0 : Int) (a1_1 : Int) (a1_2 : Int) (T0 : Tb) : F_virtual_Virtual_Start [.h 4160 a0 0, .agg [.int .i64 a1_0, .int .i64 a1_1, .int .i64 a1_2]] [T0] = g_virtual_Virtual_Start F_virtual_Virtual_sync F_geom_Can F_slices_Contains_bool_bool a0 a1_0 a1_1 a1_2 T0 := G_virtual_Virtual_Start F_virtual_Virtual_sync F_geom_Can F_slices_Contains_bool_bool a0 a1_0 a1_1 a1_2 T0
def ann_plan_Rows : Ann := { loops := [] }
noncomputable def F_plan_Rows : List D → Option D := denP Try.prog (penv' [(ID.geom_Can, (.pure [0] F_geom_Can))]) ann_plan_Rows [0] ID.plan_Rows
theorem sound_plan_Rows : Sound Try.prog ID.plan_Rows (.pure [0] F_plan_Rows) := denP_sound (penv_ok [fact_geom_Can]) mixed ⟨Try.f65, by kernel_rfl, by kernel_rfl, by kernel_rfl⟩
noncomputable def fact_plan_Rows : Fact Try.prog := ⟨ID.plan_Rows, (.pure [0] F_plan_Rows), sound_plan_Rows⟩
noncomputable def g_plan_Rows (F_geom_Can : List D → Option D) (a0_0 : Int) (a0_1 : Int) (a0_2 : Int) (a1_0 : Int) (a1_1 : Int) (a1_2 : Int) : Option D :=
  bindK (F_geom_Can   [D.agg [D.int IntKind.i64 a0_0, D.int IntKind.i64 a0_1, D.int IntKind.i64 a0_2],     D.agg [D.int IntKind.i64 a1_0, D.int IntKind.i64 a1_1, D.int IntKind.i64 a1_2]]) fun r1 =>
  asB r1 fun b2 =>
  brK (!b2)
    (some (D.int IntKind.i64 (0 : Int)))
    (letN (max a0_2 a1_2) fun n3 =>
    some (D.int IntKind.i64 n3))
theorem G_plan_Rows (F_geom_Can : List D → Option D) (a0_0 : Int) (a0_1 : Int) (a0_2 : Int) (a1_0 : Int) (a1_1 : Int) (a1_2 : Int) : denP Try.prog (penv' [(ID.geom_Can, (.pure [0] F_geom_Can))]) ann_plan_Rows [0] ID.plan_Rows [.agg [.int .i64 a0_0, .int .i64 a0_1, .int .i64 a0_2], .agg [.int .i64 a1_0, .int .i64 a1_1, .int .i64 a1_2]] = g_plan_Rows F_geom_Can a0_0 a0_1 a0_2 a1_0 a1_1 a1_2 := by kernel_rfl
theorem F_plan_Rows_eq (a0_0 : Int) (a0_1 : Int) (a0_2 : Int) (a1_0 : Int) (a1_1 : Int) (a1_2 : Int) : F_plan_Rows [.agg [.int .i64 a0_0, .int .i64 a0_1, .int .i64 a0_2], .agg [.int .i64 a1_0, .int .i64 a1_1, .int .i64 a1_2]] = g_plan_Rows F_geom_Can a0_0 a0_1 a0_2 a1_0 a1_1 a1_2 := G_plan_Rows F_geom_Can a0_0 a0_1 a0_2 a1_0 a1_1 a1_2
def ann_plan_Windows : Ann := { loops := [] }
noncomputable def F_plan_Windows : List D → Option D := denP Try.prog (penv' [(ID.plan_Rows, (.pure [0] F_plan_Rows))]) ann_plan_Windows [0] ID.plan_Windows
theorem sound_plan_Windows : Sound Try.prog ID.plan_Windows (.pure [0] F_plan_Windows) := denP_sound (penv_ok [fact_plan_Rows]) mixed ⟨Try.f43, by kernel_rfl, by kernel_rfl, by kernel_rfl⟩
noncomputable def fact_plan_Windows : Fact Try.prog := ⟨ID.plan_Windows, (.pure [0] F_plan_Windows), sound_plan_Windows⟩
noncomputable def g_plan_Windows (F_plan_Rows : List D → Option D) (a0_0 : Int) (a0_1 : Int) (a0_2 : Int) (a1_0 : Int) (a1_1 : Int) (a1_2 : Int) : Option D :=
  bindK (F_plan_Rows   [D.agg [D.int IntKind.i64 a0_0, D.int IntKind.i64 a0_1, D.int IntKind.i64 a0_2],     D.agg [D.int IntKind.i64 a1_0, D.int IntKind.i64 a1_1, D.int IntKind.i64 a1_2]]) fun r1 =>
  asI IntKind.i64 r1 fun i2 =>
  brK (i2 == (0 : Int))
    (some (D.int IntKind.i64 (0 : Int)))
    (sif (i2 ≠ (0 : Int)) <|
    letN (IntKind.wrap IntKind.i64 (Int.tdiv (16 : Int) i2)) fun n3 =>
    some (D.int IntKind.i64 n3))
theorem G_plan_Windows (F_plan_Rows : List D → Option D) (a0_0 : Int) (a0_1 : Int) (a0_2 : Int) (a1_0 : Int) (a1_1 : Int) (a1_2 : Int) : denP Try.prog (penv' [(ID.plan_Rows, (.pure [0] F_plan_Rows))]) ann_plan_Windows [0] ID.plan_Windows [.agg [.int .i64 a0_0, .int .i64 a0_1, .int .i64 a0_2], .agg [.int .i64 a1_0, .int .i64 a1_1, .int .i64 a1_2]] = g_plan_Windows F_plan_Rows a0_0 a0_1 a0_2 a1_0 a1_1 a1_2 := by kernel_rfl
theorem F_plan_Windows_eq (a0_0 : Int) (a0_1 : Int) (a0_2 : Int) (a1_0 : Int) (a1_1 : Int) (a1_2 : Int) : F_plan_Windows [.agg [.int .i64 a0_0, .int .i64 a0_1, .int .i64 a0_2], .agg [.int .i64 a1_0, .int .i64 a1_1, .int .i64 a1_2]] = g_plan_Windows F_plan_Rows a0_0 a0_1 a0_2 a1_0 a1_1 a1_2 := G_plan_Windows F_plan_Rows a0_0 a0_1 a0_2 a1_0 a1_1 a1_2
def ann_virtual_Virtual_Step : Ann := { loops := [], ks := [(4160, true)] }
noncomputable def F_virtual_Virtual_Step : List D → List Tb → Option Ans := denS Try.prog (penv' [(ID.virtual_Virtual_sync, (.st [] [] [(4160, true)] F_virtual_Virtual_sync)), (ID.virtual_Virtual_lost, (.st [] [0] [(4160, false)] F_virtual_Virtual_lost)), (ID.plan_Windows, (.pure [0] F_plan_Windows))]) ann_virtual_Virtual_Step [0] ID.virtual_Virtual_Step
theorem sound_virtual_Virtual_Step : Sound Try.prog ID.virtual_Virtual_Step (.st [] [0] [(4160, true)] F_virtual_Virtual_Step) := denS_sound (penv_ok [fact_virtual_Virtual_sync, fact_virtual_Virtual_lost, fact_plan_Windows]) mixed ⟨Try.f17, by kernel_rfl, by kernel_rfl, by kernel_rfl⟩
noncomputable def fact_virtual_Virtual_Step : Fact Try.prog := ⟨ID.virtual_Virtual_Step, (.st [] [0] [(4160, true)] F_virtual_Virtual_Step), sound_virtual_Virtual_Step⟩
noncomputable def g_virtual_Virtual_Step (F_virtual_Virtual_sync : List D → List Tb → Option Ans) (F_virtual_Virtual_lost : List D → List Tb → Option Ans) (F_plan_Windows : List D → Option D) (a0 : Nat) (T0 : Tb) : Option Ans :=
  bindK (F_virtual_Virtual_sync [D.h (4160 : Nat) a0 (0 : Nat)] [T0]) fun r1 =>
  nilK r1.outs <|
  consK r1.tbs fun c2 q3 =>
  nilK q3 <|
  asTup r1.r fun ts4 =>
  nilK ts4 <|
  getK c2 a0 fun d5 =>
  getK d5 ((9 : Nat)) fun d6 =>
  asB d6 fun b7 =>
  brK (!b7)
    (some (Ans.mk (D.int IntKind.i64 (9 : Int)) [] [c2]))
    (bindK (F_virtual_Virtual_lost [D.h (4160 : Nat) a0 (0 : Nat)] [c2]) fun r8 =>
    nilK r8.outs <|
    nilK r8.tbs <|
    asI IntKind.i64 r8.r fun i9 =>
    brK (i9 != (0 : Int))
      (some (Ans.mk (D.int IntKind.i64 i9) [] [c2]))
      (getK c2 a0 fun d10 =>
      getK d10 ((10 : Nat)) fun d11 =>
      asI IntKind.i64 d11 fun i12 =>
      letN (IntKind.wrap IntKind.i64 (i12 + (1 : Int))) fun n13 =>
      getK c2 a0 fun d14 =>
      sif ((11 : Nat) ≤ List.length d14) <|
      sif (flats (List.take (1 : Nat) (List.drop (10 : Nat) d14)) = true) <|
      letT (setCells c2 a0 (10 : Nat) [D.int IntKind.i64 n13]) fun T15 =>
      getK T15 a0 fun d16 =>
      getK d16 ((10 : Nat)) fun d17 =>
      asI IntKind.i64 d17 fun i18 =>
      getK T15 a0 fun d19 =>
      sif ((6 : Nat) ≤ List.length d19) <|
      sif (flats (List.take (3 : Nat) (List.drop (3 : Nat) d19)) = true) <|
      getCells ([Lf.int IntKind.i64, Lf.int IntKind.i64, Lf.int IntKind.i64]) (List.take (3 : Nat) (List.drop (3 : Nat) d19)) fun c20 =>
      getK T15 a0 fun d21 =>
      sif ((9 : Nat) ≤ List.length d21) <|
      sif (flats (List.take (3 : Nat) (List.drop (6 : Nat) d21)) = true) <|
      getCells ([Lf.int IntKind.i64, Lf.int IntKind.i64, Lf.int IntKind.i64]) (List.take (3 : Nat) (List.drop (6 : Nat) d21)) fun c22 =>
      bindK (F_plan_Windows   [D.agg [D.int IntKind.i64 c20.fst, D.int IntKind.i64 c20.snd.fst, D.int IntKind.i64 c20.snd.snd.fst],     D.agg [D.int IntKind.i64 c22.fst, D.int IntKind.i64 c22.snd.fst, D.int IntKind.i64 c22.snd.snd.fst]]) fun r23 =>
      asI IntKind.i64 r23 fun i24 =>
      brK (i18 == i24)
        (getK T15 a0 fun d25 =>
        sif ((9 : Nat) ≤ List.length d25) <|
        sif (flats (List.take (3 : Nat) (List.drop (6 : Nat) d25)) = true) <|
        getCells ([Lf.int IntKind.i64, Lf.int IntKind.i64, Lf.int IntKind.i64]) (List.take (3 : Nat) (List.drop (6 : Nat) d25)) fun c26 =>
        getK T15 a0 fun d27 =>
        sif ((6 : Nat) ≤ List.length d27) <|
        sif (flats (List.take (3 : Nat) (List.drop (3 : Nat) d27)) = true) <|
        letT (setCells T15 a0 (3 : Nat) [D.int IntKind.i64 c26.fst, D.int IntKind.i64 c26.snd.fst, D.int IntKind.i64 c26.snd.snd.fst]) fun T28 =>
        getK T28 a0 fun d29 =>
        sif ((9 : Nat) ≤ List.length d29) <|
        sif (flats (List.take (3 : Nat) (List.drop (6 : Nat) d29)) = true) <|
        letT (setCells T28 a0 (6 : Nat) [D.int IntKind.i64 (0 : Int), D.int IntKind.i64 (0 : Int), D.int IntKind.i64 (0 : Int)]) fun T30 =>
        getK T30 a0 fun d31 =>
        sif ((10 : Nat) ≤ List.length d31) <|
        sif (flats (List.take (1 : Nat) (List.drop (9 : Nat) d31)) = true) <|
        letT (setCells T30 a0 (9 : Nat) [D.bool false]) fun T32 =>
        getK T32 a0 fun d33 =>
        sif ((11 : Nat) ≤ List.length d33) <|
        sif (flats (List.take (1 : Nat) (List.drop (10 : Nat) d33)) = true) <|
        letT (setCells T32 a0 (10 : Nat) [D.int IntKind.i64 (0 : Int)]) fun T34 =>
        some (Ans.mk (D.int IntKind.i64 (0 : Int)) [] [T34]))
        (some (Ans.mk (D.int IntKind.i64 (0 : Int)) [] [T15]))))
theorem G_virtual_Virtual_Step (F_virtual_Virtual_sync : List D → List Tb → Option Ans) (F_virtual_Virtual_lost : List D → List Tb → Option Ans) (F_plan_Windows : List D → Option D) (a0 : Nat) (T0 : Tb) : denS Try.prog (penv' [(ID.virtual_Virtual_sync, (.st [] [] [(4160, true)] F_virtual_Virtual_sync)), (ID.virtual_Virtual_lost, (.st [] [0] [(4160, false)] F_virtual_Virtual_lost)), (ID.plan_Windows, (.pure [0] F_plan_Windows))]) ann_virtual_Virtual_Step [0] ID.virtual_Virtual_Step [.h 4160 a0 0] [T0] = g_virtual_Virtual_Step F_virtual_Virtual_sync F_virtual_Virtual_lost F_plan_Windows a0 T0 := by kernel_rfl
theorem F_virtual_Virtual_Step_eq (a0 : Nat) (T0 : Tb) : F_virtual_Virtual_Step [.h 4160 a0 0] [T0] = g_virtual_Virtual_Step F_virtual_Virtual_sync F_virtual_Virtual_lost F_plan_Windows a0 T0 := G_virtual_Virtual_Step F_virtual_Virtual_sync F_virtual_Virtual_lost F_plan_Windows a0 T0
def ann_slices_Clone_byte_byte : Ann := { loops := [] }
noncomputable def F_slices_Clone_byte_byte : List D → Option D := denP Try.prog (penv' []) ann_slices_Clone_byte_byte [1] ID.slices_Clone_byte_byte
theorem sound_slices_Clone_byte_byte : Sound Try.prog ID.slices_Clone_byte_byte (.pure [1] F_slices_Clone_byte_byte) := denP_sound (penv_ok []) mixed ⟨Try.f45, by kernel_rfl, by kernel_rfl, by kernel_rfl⟩
noncomputable def fact_slices_Clone_byte_byte : Fact Try.prog := ⟨ID.slices_Clone_byte_byte, (.pure [1] F_slices_Clone_byte_byte), sound_slices_Clone_byte_byte⟩
noncomputable def g_slices_Clone_byte_byte (a0 : List D) : Option D :=
  brK (List.isEmpty a0)
    (none)
    (sif (List.length a0 ≤ (4294967296 : Nat)) <|
    sif (okEls (1 : Nat) a0 = true) <|
    sif (List.length a0 = List.length a0) <|
    sif (List.all a0 D.free = true) <|
    some (D.sl Tag.own a0))
theorem G_slices_Clone_byte_byte (tga0 : Tag) (a0 : List D) : denP Try.prog (penv' []) ann_slices_Clone_byte_byte [1] ID.slices_Clone_byte_byte [.sl tga0 a0] = g_slices_Clone_byte_byte (D.lentL a0) := by kernel_rfl
theorem F_slices_Clone_byte_byte_eq (tga0 : Tag) (a0 : List D) : F_slices_Clone_byte_byte [.sl tga0 a0] = g_slices_Clone_byte_byte (D.lentL a0) := G_slices_Clone_byte_byte tga0 a0
def ann_virtual_Virtual_Read : Ann := { loops := [], ks := [(4160, true)] }
noncomputable def F_virtual_Virtual_Read : List D → List Tb → Option Ans := denS Try.prog (penv' [(ID.virtual_Virtual_sync, (.st [] [] [(4160, true)] F_virtual_Virtual_sync)), (ID.virtual_Virtual_Capacity, (.st [] [0] [(4160, false)] F_virtual_Virtual_Capacity)), (ID.virtual_Virtual_lost, (.st [] [0] [(4160, false)] F_virtual_Virtual_lost)), (ID.slices_Clone_byte_byte, (.pure [1] F_slices_Clone_byte_byte))]) ann_virtual_Virtual_Read [1, 0] ID.virtual_Virtual_Read
theorem sound_virtual_Virtual_Read : Sound Try.prog ID.virtual_Virtual_Read (.st [] [1, 0] [(4160, true)] F_virtual_Virtual_Read) := denS_sound (penv_ok [fact_virtual_Virtual_sync, fact_virtual_Virtual_Capacity, fact_virtual_Virtual_lost, fact_slices_Clone_byte_byte]) mixed ⟨Try.f19, by kernel_rfl, by kernel_rfl, by kernel_rfl⟩
noncomputable def fact_virtual_Virtual_Read : Fact Try.prog := ⟨ID.virtual_Virtual_Read, (.st [] [1, 0] [(4160, true)] F_virtual_Virtual_Read), sound_virtual_Virtual_Read⟩
noncomputable def g_virtual_Virtual_Read (F_virtual_Virtual_sync : List D → List Tb → Option Ans) (F_virtual_Virtual_Capacity : List D → List Tb → Option Ans) (F_virtual_Virtual_lost : List D → List Tb → Option Ans) (F_slices_Clone_byte_byte : List D → Option D) (a0 : Nat) (a1 : Int) (T0 : Tb) : Option Ans :=
  bindK (F_virtual_Virtual_sync [D.h (4160 : Nat) a0 (0 : Nat)] [T0]) fun r1 =>
  nilK r1.outs <|
  consK r1.tbs fun c2 q3 =>
  nilK q3 <|
  asTup r1.r fun ts4 =>
  nilK ts4 <|
  brK (decide (a1 < (0 : Int)))
    (some (Ans.mk (D.tup [D.sl Tag.own [], D.int IntKind.i64 (4 : Int)]) [] [c2]))
    (bindK (F_virtual_Virtual_Capacity [D.h (4160 : Nat) a0 (0 : Nat)] [c2]) fun r5 =>
    nilK r5.outs <|
    nilK r5.tbs <|
    asI IntKind.i64 r5.r fun i6 =>
    brK (decide (a1 ≥ i6))
      (some (Ans.mk (D.tup [D.sl Tag.own [], D.int IntKind.i64 (4 : Int)]) [] [c2]))
      (bindK (F_virtual_Virtual_lost [D.h (4160 : Nat) a0 (0 : Nat)] [c2]) fun r7 =>
      nilK r7.outs <|
      nilK r7.tbs <|
      asI IntKind.i64 r7.r fun i8 =>
      brK (i8 != (0 : Int))
        (some (Ans.mk (D.tup [D.sl Tag.own [], D.int IntKind.i64 i8]) [] [c2]))
        (getK c2 a0 fun d9 =>
        getK d9 ((0 : Nat)) fun d10 =>
        asOwnM (MK.int IntKind.i64) d10 fun m11 =>
        getK c2 a0 fun d12 =>
        getK d12 ((0 : Nat)) fun d13 =>
        asOwnM (MK.int IntKind.i64) d13 fun m14 =>
        asAgg (lookD a1   (D.agg     [D.int IntKind.u8 (0 : Int), D.int IntKind.u8 (0 : Int), D.int IntKind.u8 (0 : Int), D.int IntKind.u8 (0 : Int),       D.int IntKind.u8 (0 : Int), D.int IntKind.u8 (0 : Int), D.int IntKind.u8 (0 : Int), D.int IntKind.u8 (0 : Int),       D.int IntKind.u8 (0 : Int), D.int IntKind.u8 (0 : Int), D.int IntKind.u8 (0 : Int), D.int IntKind.u8 (0 : Int),       D.int IntKind.u8 (0 : Int), D.int IntKind.u8 (0 : Int), D.int IntKind.u8 (0 : Int), D.int IntKind.u8 (0 : Int),       D.int IntKind.u8 (0 : Int), D.int IntKind.u8 (0 : Int), D.int IntKind.u8 (0 : Int), D.int IntKind.u8 (0 : Int),       D.int IntKind.u8 (0 : Int), D.int IntKind.u8 (0 : Int), D.int IntKind.u8 (0 : Int), D.int IntKind.u8 (0 : Int),       D.int IntKind.u8 (0 : Int), D.int IntKind.u8 (0 : Int), D.int IntKind.u8 (0 : Int), D.int IntKind.u8 (0 : Int),       D.int IntKind.u8 (0 : Int), D.int IntKind.u8 (0 : Int), D.int IntKind.u8 (0 : Int), D.int IntKind.u8 (0 : Int)])   m14) fun cs15 =>
        sif (List.length cs15 = (32 : Nat)) <|
        sif (List.length cs15 = (32 : Nat)) <|
        sif ((32 : Nat) ≤ List.length ([] ++ cs15 ++ [])) <|
        sif ((32 : Nat) ≤ List.length ([] ++ cs15 ++ [])) <|
        bindK (F_slices_Clone_byte_byte [D.sl Tag.lent (cut (0 : Nat) (32 : Nat) ([] ++ cs15 ++ []))]) fun r16 =>
        asOwn r16 fun l17 =>
        sif (List.length l17 = List.length l17) <|
        sif (List.all l17 D.free = true) <|
        some (Ans.mk (D.tup [D.sl Tag.own l17, D.int IntKind.i64 (0 : Int)]) [] [c2]))))
theorem G_virtual_Virtual_Read (F_virtual_Virtual_sync : List D → List Tb → Option Ans) (F_virtual_Virtual_Capacity : List D → List Tb → Option Ans) (F_virtual_Virtual_lost : List D → List Tb → Option Ans) (F_slices_Clone_byte_byte : List D → Option D) (a0 : Nat) (a1 : Int) (T0 : Tb) : denS Try.prog (penv' [(ID.virtual_Virtual_sync, (.st [] [] [(4160, true)] F_virtual_Virtual_sync)), (ID.virtual_Virtual_Capacity, (.st [] [0] [(4160, false)] F_virtual_Virtual_Capacity)), (ID.virtual_Virtual_lost, (.st [] [0] [(4160, false)] F_virtual_Virtual_lost)), (ID.slices_Clone_byte_byte, (.pure [1] F_slices_Clone_byte_byte))]) ann_virtual_Virtual_Read [1, 0] ID.virtual_Virtual_Read [.h 4160 a0 0, .int .i64 a1] [T0] = g_virtual_Virtual_Read F_virtual_Virtual_sync F_virtual_Virtual_Capacity F_virtual_Virtual_lost F_slices_Clone_byte_byte a0 a1 T0 := by kernel_rfl
theorem F_virtual_Virtual_Read_eq (a0 : Nat) (a1 : Int) (T0 : Tb) : F_virtual_Virtual_Read [.h 4160 a0 0, .int .i64 a1] [T0] = g_virtual_Virtual_Read F_virtual_Virtual_sync F_virtual_Virtual_Capacity F_virtual_Virtual_lost F_slices_Clone_byte_byte a0 a1 T0 := G_virtual_Virtual_Read F_virtual_Virtual_sync F_virtual_Virtual_Capacity F_virtual_Virtual_lost F_slices_Clone_byte_byte a0 a1 T0
def ann_virtual_Virtual_Flush : Ann := { loops := [], ks := [(4160, true)] }
noncomputable def F_virtual_Virtual_Flush : List D → List Tb → Option Ans := denS Try.prog (penv' [(ID.virtual_Virtual_sync, (.st [] [] [(4160, true)] F_virtual_Virtual_sync))]) ann_virtual_Virtual_Flush [0] ID.virtual_Virtual_Flush
theorem sound_virtual_Virtual_Flush : Sound Try.prog ID.virtual_Virtual_Flush (.st [] [0] [(4160, true)] F_virtual_Virtual_Flush) := denS_sound (penv_ok [fact_virtual_Virtual_sync]) mixed ⟨Try.f24, by kernel_rfl, by kernel_rfl, by kernel_rfl⟩
noncomputable def fact_virtual_Virtual_Flush : Fact Try.prog := ⟨ID.virtual_Virtual_Flush, (.st [] [0] [(4160, true)] F_virtual_Virtual_Flush), sound_virtual_Virtual_Flush⟩
noncomputable def g_virtual_Virtual_Flush (F_virtual_Virtual_sync : List D → List Tb → Option Ans) (a0 : Nat) (T0 : Tb) : Option Ans :=
  bindK (F_virtual_Virtual_sync [D.h (4160 : Nat) a0 (0 : Nat)] [T0]) fun r1 =>
  nilK r1.outs <|
  consK r1.tbs fun c2 q3 =>
  nilK q3 <|
  asTup r1.r fun ts4 =>
  nilK ts4 <|
  some (Ans.mk (D.int IntKind.i64 (0 : Int)) [] [c2])
theorem G_virtual_Virtual_Flush (F_virtual_Virtual_sync : List D → List Tb → Option Ans) (a0 : Nat) (T0 : Tb) : denS Try.prog (penv' [(ID.virtual_Virtual_sync, (.st [] [] [(4160, true)] F_virtual_Virtual_sync))]) ann_virtual_Virtual_Flush [0] ID.virtual_Virtual_Flush [.h 4160 a0 0] [T0] = g_virtual_Virtual_Flush F_virtual_Virtual_sync a0 T0 := by kernel_rfl
theorem F_virtual_Virtual_Flush_eq (a0 : Nat) (T0 : Tb) : F_virtual_Virtual_Flush [.h 4160 a0 0] [T0] = g_virtual_Virtual_Flush F_virtual_Virtual_sync a0 T0 := G_virtual_Virtual_Flush F_virtual_Virtual_sync a0 T0
def ann_wattlekeep_Same_byte : Ann := { loops := [(1, [.val (.cell .lent), .val (.cell .lent), .dead, .dead, .dead, .val (.cell (.int .i64))])] }
noncomputable def F_wattlekeep_Same_byte : List D → Option D := denP Try.prog (penv' []) ann_wattlekeep_Same_byte [0] ID.wattlekeep_Same_byte
theorem sound_wattlekeep_Same_byte : Sound Try.prog ID.wattlekeep_Same_byte (.pure [0] F_wattlekeep_Same_byte) := denP_sound (penv_ok []) mixed ⟨Try.f20, by kernel_rfl, by kernel_rfl, by kernel_rfl⟩
noncomputable def fact_wattlekeep_Same_byte : Fact Try.prog := ⟨ID.wattlekeep_Same_byte, (.pure [0] F_wattlekeep_Same_byte), sound_wattlekeep_Same_byte⟩
noncomputable def g_wattlekeep_Same_byte (a0 : List D) (a1 : List D) : Option D :=
  brK ((↑(List.length a0) : Int) != (↑(List.length a1) : Int))
    (some (D.bool false))
    (loopN (α := (List D × List D × Int × PUnit) × PUnit) (fun again1 ((l2, (l3, (i4, _))), _) =>
      brK (decide (i4 < (↑(List.length l2) : Int)))
        (sif ((0 : Int) ≤ i4) <|
        getK l2 (Int.toNat i4) fun d5 =>
        asI IntKind.u8 d5 fun i6 =>
        sif ((0 : Int) ≤ i4) <|
        getK l3 (Int.toNat i4) fun d7 =>
        asI IntKind.u8 d7 fun i8 =>
        brK (i6 != i8)
          (some (D.bool false))
          (letN (IntKind.wrap IntKind.i64 (i4 + (1 : Int))) fun n9 =>
          again1 (((l2, l3, n9, PUnit.unit), PUnit.unit))))
        (some (D.bool true)))
      (((a0, a1, (0 : Int), PUnit.unit), PUnit.unit)))
theorem G_wattlekeep_Same_byte (tga0 : Tag) (tga1 : Tag) (a0 : List D) (a1 : List D) : denP Try.prog (penv' []) ann_wattlekeep_Same_byte [0] ID.wattlekeep_Same_byte [.sl tga0 a0, .sl tga1 a1] = g_wattlekeep_Same_byte (D.lentL a0) (D.lentL a1) := by kernel_rfl
theorem F_wattlekeep_Same_byte_eq (tga0 : Tag) (tga1 : Tag) (a0 : List D) (a1 : List D) : F_wattlekeep_Same_byte [.sl tga0 a0, .sl tga1 a1] = g_wattlekeep_Same_byte (D.lentL a0) (D.lentL a1) := G_wattlekeep_Same_byte tga0 tga1 a0 a1
def ann_wattlelaw24_wakes : Ann := { loops := [], ks := [(4160, true)] }
noncomputable def F_wattlelaw24_wakes : List D → Option D := denT Try.prog (penv' [(ID.virtual_New, (.st [] [0, 0] [(4160, true)] F_virtual_New)), (ID.virtual_Virtual_Read, (.st [] [1, 0] [(4160, true)] F_virtual_Virtual_Read)), (ID.wattlekeep_Same_byte, (.pure [0] F_wattlekeep_Same_byte)), (ID.virtual_Virtual_Capacity, (.st [] [0] [(4160, false)] F_virtual_Virtual_Capacity))]) ann_wattlelaw24_wakes [0] ID.wattlelaw24_wakes
theorem sound_wattlelaw24_wakes : Sound Try.prog ID.wattlelaw24_wakes (.pure [0] F_wattlelaw24_wakes) := denT_sound (penv_ok [fact_virtual_New, fact_virtual_Virtual_Read, fact_wattlekeep_Same_byte, fact_virtual_Virtual_Capacity]) mixed ⟨Try.f21, by kernel_rfl, by kernel_rfl, by kernel_rfl⟩
noncomputable def fact_wattlelaw24_wakes : Fact Try.prog := ⟨ID.wattlelaw24_wakes, (.pure [0] F_wattlelaw24_wakes), sound_wattlelaw24_wakes⟩
noncomputable def g_wattlelaw24_wakes (F_virtual_New : List D → List Tb → Option Ans) (F_virtual_Virtual_Read : List D → List Tb → Option Ans) (F_wattlekeep_Same_byte : List D → Option D) (F_virtual_Virtual_Capacity : List D → List Tb → Option Ans)  : Option D :=
  bindK (F_virtual_New   [D.int IntKind.i64 (3 : Int),     D.agg [D.int IntKind.i64 (5 : Int), D.int IntKind.i64 (3 : Int), D.int IntKind.i64 (1 : Int)]]   [[]]) fun r1 =>
  nilK r1.outs <|
  consK r1.tbs fun c2 q3 =>
  nilK q3 <|
  asTup r1.r fun ts4 =>
  getCells ([Lf.any, Lf.any]) ts4 fun c5 =>
  sif (okData c5.fst = true) <|
  asI IntKind.i64 c5.snd.fst fun i6 =>
  brK (i6 != (0 : Int))
    (some (D.bool false))
    (asNil c5.fst fun b7 =>
    brK b7
      (some (D.bool false))
      (bindK (F_virtual_Virtual_Read [c5.fst, D.int IntKind.i64 (3 : Int)] [c2]) fun r8 =>
      nilK r8.outs <|
      consK r8.tbs fun c9 q10 =>
      nilK q10 <|
      asTup r8.r fun ts11 =>
      getCells ([Lf.any, Lf.any]) ts11 fun c12 =>
      asOwn c12.fst fun l13 =>
      asI IntKind.i64 c12.snd.fst fun i14 =>
      brK (i14 == (0 : Int))
        (sif ((0 : Nat) + List.length l13 ≤ List.length l13) <|
        bindK (F_wattlekeep_Same_byte   [D.sl Tag.lent (cut (0 : Nat) (List.length l13) l13),     D.sl Tag.lent       [D.int IntKind.u8 (0 : Int), D.int IntKind.u8 (0 : Int), D.int IntKind.u8 (0 : Int), D.int IntKind.u8 (0 : Int),         D.int IntKind.u8 (0 : Int), D.int IntKind.u8 (0 : Int), D.int IntKind.u8 (0 : Int), D.int IntKind.u8 (0 : Int),         D.int IntKind.u8 (0 : Int), D.int IntKind.u8 (0 : Int), D.int IntKind.u8 (0 : Int), D.int IntKind.u8 (0 : Int),         D.int IntKind.u8 (0 : Int), D.int IntKind.u8 (0 : Int), D.int IntKind.u8 (0 : Int), D.int IntKind.u8 (0 : Int),         D.int IntKind.u8 (0 : Int), D.int IntKind.u8 (0 : Int), D.int IntKind.u8 (0 : Int), D.int IntKind.u8 (0 : Int),         D.int IntKind.u8 (0 : Int), D.int IntKind.u8 (0 : Int), D.int IntKind.u8 (0 : Int), D.int IntKind.u8 (0 : Int),         D.int IntKind.u8 (0 : Int), D.int IntKind.u8 (0 : Int), D.int IntKind.u8 (0 : Int), D.int IntKind.u8 (0 : Int),         D.int IntKind.u8 (0 : Int), D.int IntKind.u8 (0 : Int), D.int IntKind.u8 (0 : Int), D.int IntKind.u8 (0 : Int)]]) fun r15 =>
        asB r15 fun b16 =>
        brK b16
          (bindK (F_virtual_Virtual_Capacity [c5.fst] [c9]) fun r17 =>
          nilK r17.outs <|
          nilK r17.tbs <|
          asI IntKind.i64 r17.r fun i18 =>
          some (D.bool (i18 == (32 : Int))))
          (some (D.bool false)))
        (some (D.bool false))))
theorem G_wattlelaw24_wakes (F_virtual_New : List D → List Tb → Option Ans) (F_virtual_Virtual_Read : List D → List Tb → Option Ans) (F_wattlekeep_Same_byte : List D → Option D) (F_virtual_Virtual_Capacity : List D → List Tb → Option Ans)  : denT Try.prog (penv' [(ID.virtual_New, (.st [] [0, 0] [(4160, true)] F_virtual_New)), (ID.virtual_Virtual_Read, (.st [] [1, 0] [(4160, true)] F_virtual_Virtual_Read)), (ID.wattlekeep_Same_byte, (.pure [0] F_wattlekeep_Same_byte)), (ID.virtual_Virtual_Capacity, (.st [] [0] [(4160, false)] F_virtual_Virtual_Capacity))]) ann_wattlelaw24_wakes [0] ID.wattlelaw24_wakes [] = sif (D.nohL [] = true) (g_wattlelaw24_wakes F_virtual_New F_virtual_Virtual_Read F_wattlekeep_Same_byte F_virtual_Virtual_Capacity ) := by kernel_rfl
theorem F_wattlelaw24_wakes_eq  : F_wattlelaw24_wakes [] = sif (D.nohL [] = true) (g_wattlelaw24_wakes F_virtual_New F_virtual_Virtual_Read F_wattlekeep_Same_byte F_virtual_Virtual_Capacity ) := G_wattlelaw24_wakes F_virtual_New F_virtual_Virtual_Read F_wattlekeep_Same_byte F_virtual_Virtual_Capacity 
def ann_wattleref01_Budget : Ann := { loops := [] }
noncomputable def F_wattleref01_Budget : List D → Option D := denP Try.prog (penv' [(ID.wattleref01_Check, (.pure [0] F_wattleref01_Check))]) ann_wattleref01_Budget [0] ID.wattleref01_Budget
theorem sound_wattleref01_Budget : Sound Try.prog ID.wattleref01_Budget (.pure [0] F_wattleref01_Budget) := denP_sound (penv_ok [fact_wattleref01_Check]) mixed ⟨Try.f59, by kernel_rfl, by kernel_rfl, by kernel_rfl⟩
noncomputable def fact_wattleref01_Budget : Fact Try.prog := ⟨ID.wattleref01_Budget, (.pure [0] F_wattleref01_Budget), sound_wattleref01_Budget⟩
noncomputable def g_wattleref01_Budget (F_wattleref01_Check : List D → Option D) (a0_0 : Int) (a0_1 : Int) (a0_2 : Int) : Option D :=
  bindK (F_wattleref01_Check [D.agg [D.int IntKind.i64 a0_0, D.int IntKind.i64 a0_1, D.int IntKind.i64 a0_2]]) fun r1 =>
  asB r1 fun b2 =>
  brK (!b2)
    (some (D.int IntKind.i64 (0 : Int)))
    (letN (IntKind.wrap IntKind.i64 (a0_0 - (4 : Int))) fun n3 =>
    some (D.int IntKind.i64 n3))
theorem G_wattleref01_Budget (F_wattleref01_Check : List D → Option D) (a0_0 : Int) (a0_1 : Int) (a0_2 : Int) : denP Try.prog (penv' [(ID.wattleref01_Check, (.pure [0] F_wattleref01_Check))]) ann_wattleref01_Budget [0] ID.wattleref01_Budget [.agg [.int .i64 a0_0, .int .i64 a0_1, .int .i64 a0_2]] = g_wattleref01_Budget F_wattleref01_Check a0_0 a0_1 a0_2 := by kernel_rfl
theorem F_wattleref01_Budget_eq (a0_0 : Int) (a0_1 : Int) (a0_2 : Int) : F_wattleref01_Budget [.agg [.int .i64 a0_0, .int .i64 a0_1, .int .i64 a0_2]] = g_wattleref01_Budget F_wattleref01_Check a0_0 a0_1 a0_2 := G_wattleref01_Budget F_wattleref01_Check a0_0 a0_1 a0_2
def ann_wattleref01_Width : Ann := { loops := [] }
noncomputable def F_wattleref01_Width : List D → Option D := denP Try.prog (penv' [(ID.wattleref01_Check, (.pure [0] F_wattleref01_Check)), (ID.wattleref01_Budget, (.pure [0] F_wattleref01_Budget))]) ann_wattleref01_Width [0] ID.wattleref01_Width
theorem sound_wattleref01_Width : Sound Try.prog ID.wattleref01_Width (.pure [0] F_wattleref01_Width) := denP_sound (penv_ok [fact_wattleref01_Check, fact_wattleref01_Budget]) mixed ⟨Try.f36, by kernel_rfl, by kernel_rfl, by kernel_rfl⟩
noncomputable def fact_wattleref01_Width : Fact Try.prog := ⟨ID.wattleref01_Width, (.pure [0] F_wattleref01_Width), sound_wattleref01_Width⟩
noncomputable def g_wattleref01_Width (F_wattleref01_Check : List D → Option D) (F_wattleref01_Budget : List D → Option D) (a0_0 : Int) (a0_1 : Int) (a0_2 : Int) : Option D :=
  bindK (F_wattleref01_Check [D.agg [D.int IntKind.i64 a0_0, D.int IntKind.i64 a0_1, D.int IntKind.i64 a0_2]]) fun r1 =>
  asB r1 fun b2 =>
  brK (!b2)
    (some (D.int IntKind.i64 (0 : Int)))
    (bindK (F_wattleref01_Budget [D.agg [D.int IntKind.i64 a0_0, D.int IntKind.i64 a0_1, D.int IntKind.i64 a0_2]]) fun r3 =>
    asI IntKind.i64 r3 fun i4 =>
    letN (IntKind.wrap IntKind.i64 (a0_1 - i4)) fun n5 =>
    some (D.int IntKind.i64 n5))
theorem G_wattleref01_Width (F_wattleref01_Check : List D → Option D) (F_wattleref01_Budget : List D → Option D) (a0_0 : Int) (a0_1 : Int) (a0_2 : Int) : denP Try.prog (penv' [(ID.wattleref01_Check, (.pure [0] F_wattleref01_Check)), (ID.wattleref01_Budget, (.pure [0] F_wattleref01_Budget))]) ann_wattleref01_Width [0] ID.wattleref01_Width [.agg [.int .i64 a0_0, .int .i64 a0_1, .int .i64 a0_2]] = g_wattleref01_Width F_wattleref01_Check F_wattleref01_Budget a0_0 a0_1 a0_2 := by kernel_rfl
theorem F_wattleref01_Width_eq (a0_0 : Int) (a0_1 : Int) (a0_2 : Int) : F_wattleref01_Width [.agg [.int .i64 a0_0, .int .i64 a0_1, .int .i64 a0_2]] = g_wattleref01_Width F_wattleref01_Check F_wattleref01_Budget a0_0 a0_1 a0_2 := G_wattleref01_Width F_wattleref01_Check F_wattleref01_Budget a0_0 a0_1 a0_2
def ann_wattleref01_Can : Ann := { loops := [] }
noncomputable def F_wattleref01_Can : List D → Option D := denP Try.prog (penv' [(ID.wattleref01_Check, (.pure [0] F_wattleref01_Check)), (ID.wattleref01_Width, (.pure [0] F_wattleref01_Width))]) ann_wattleref01_Can [0] ID.wattleref01_Can
theorem sound_wattleref01_Can : Sound Try.prog ID.wattleref01_Can (.pure [0] F_wattleref01_Can) := denP_sound (penv_ok [fact_wattleref01_Check, fact_wattleref01_Width]) mixed ⟨Try.f34, by kernel_rfl, by kernel_rfl, by kernel_rfl⟩
noncomputable def fact_wattleref01_Can : Fact Try.prog := ⟨ID.wattleref01_Can, (.pure [0] F_wattleref01_Can), sound_wattleref01_Can⟩
noncomputable def g_wattleref01_Can (F_wattleref01_Check : List D → Option D) (F_wattleref01_Width : List D → Option D) (a0_0 : Int) (a0_1 : Int) (a0_2 : Int) (a1_0 : Int) (a1_1 : Int) (a1_2 : Int) : Option D :=
  bindK (F_wattleref01_Check [D.agg [D.int IntKind.i64 a0_0, D.int IntKind.i64 a0_1, D.int IntKind.i64 a0_2]]) fun r1 =>
  asB r1 fun b2 =>
  brK b2
    (bindK (F_wattleref01_Check [D.agg [D.int IntKind.i64 a1_0, D.int IntKind.i64 a1_1, D.int IntKind.i64 a1_2]]) fun r3 =>
    asB r3 fun b4 =>
    brK b4
      (brK (!(a0_0 == a1_0 && (a0_1 == a1_1 && (a0_2 == a1_2 && true))))
        (brK (decide (a1_1 ≥ a0_1))
          (brK (decide (a1_0 ≥ a0_0))
            (bindK (F_wattleref01_Width [D.agg [D.int IntKind.i64 a1_0, D.int IntKind.i64 a1_1, D.int IntKind.i64 a1_2]]) fun r5 =>
            asI IntKind.i64 r5 fun i6 =>
            bindK (F_wattleref01_Width [D.agg [D.int IntKind.i64 a0_0, D.int IntKind.i64 a0_1, D.int IntKind.i64 a0_2]]) fun r7 =>
            asI IntKind.i64 r7 fun i8 =>
            some (D.bool (decide (i6 ≥ i8))))
            (some (D.bool false)))
          (some (D.bool false)))
        (some (D.bool false)))
      (some (D.bool false)))
    (some (D.bool false))
theorem G_wattleref01_Can (F_wattleref01_Check : List D → Option D) (F_wattleref01_Width : List D → Option D) (a0_0 : Int) (a0_1 : Int) (a0_2 : Int) (a1_0 : Int) (a1_1 : Int) (a1_2 : Int) : denP Try.prog (penv' [(ID.wattleref01_Check, (.pure [0] F_wattleref01_Check)), (ID.wattleref01_Width, (.pure [0] F_wattleref01_Width))]) ann_wattleref01_Can [0] ID.wattleref01_Can [.agg [.int .i64 a0_0, .int .i64 a0_1, .int .i64 a0_2], .agg [.int .i64 a1_0, .int .i64 a1_1, .int .i64 a1_2]] = g_wattleref01_Can F_wattleref01_Check F_wattleref01_Width a0_0 a0_1 a0_2 a1_0 a1_1 a1_2 := by kernel_rfl
theorem F_wattleref01_Can_eq (a0_0 : Int) (a0_1 : Int) (a0_2 : Int) (a1_0 : Int) (a1_1 : Int) (a1_2 : Int) : F_wattleref01_Can [.agg [.int .i64 a0_0, .int .i64 a0_1, .int .i64 a0_2], .agg [.int .i64 a1_0, .int .i64 a1_1, .int .i64 a1_2]] = g_wattleref01_Can F_wattleref01_Check F_wattleref01_Width a0_0 a0_1 a0_2 a1_0 a1_1 a1_2 := G_wattleref01_Can F_wattleref01_Check F_wattleref01_Width a0_0 a0_1 a0_2 a1_0 a1_1 a1_2
def ann_wattleplay_Pair : Ann := { loops := [] }
noncomputable def F_wattleplay_Pair : List D → Option D := denP Try.prog (penv' [(ID.wattlekeep_Within, (.pure [0] F_wattlekeep_Within)), (ID.wattleref01_Can, (.pure [0] F_wattleref01_Can))]) ann_wattleplay_Pair [0, 0] ID.wattleplay_Pair
theorem sound_wattleplay_Pair : Sound Try.prog ID.wattleplay_Pair (.pure [0, 0] F_wattleplay_Pair) := denP_sound (penv_ok [fact_wattlekeep_Within, fact_wattleref01_Can]) mixed ⟨Try.f6, by kernel_rfl, by kernel_rfl, by kernel_rfl⟩
noncomputable def fact_wattleplay_Pair : Fact Try.prog := ⟨ID.wattleplay_Pair, (.pure [0, 0] F_wattleplay_Pair), sound_wattleplay_Pair⟩
noncomputable def g_wattleplay_Pair (F_wattlekeep_Within : List D → Option D) (F_wattleref01_Can : List D → Option D) (a0 : Int) (a1 : Int) : Option D :=
  bindK (F_wattlekeep_Within [D.int IntKind.i64 a0, D.int IntKind.i64 (2 : Int)]) fun r1 =>
  asI IntKind.i64 r1 fun i2 =>
  letN (IntKind.wrap IntKind.i64 ((3 : Int) + i2)) fun n3 =>
  letN (IntKind.wrap IntKind.i64 (Int.tdiv a0 (2 : Int))) fun n4 =>
  bindK (F_wattlekeep_Within [D.int IntKind.i64 n4, D.int IntKind.i64 (3 : Int)]) fun r5 =>
  asI IntKind.i64 r5 fun i6 =>
  sif ((0 : Int) ≤ i6) <|
  getK ([D.int IntKind.i64 (1 : Int), D.int IntKind.i64 (2 : Int), D.int IntKind.i64 (4 : Int)]) (Int.toNat i6) fun d7 =>
  asI IntKind.i64 d7 fun i8 =>
  letN (IntKind.wrap IntKind.i64 (Int.tdiv a0 (6 : Int))) fun n9 =>
  bindK (F_wattlekeep_Within [D.int IntKind.i64 n9, D.int IntKind.i64 (4 : Int)]) fun r10 =>
  asI IntKind.i64 r10 fun i11 =>
  brK (i11 == (3 : Int))
    (bindK (F_wattlekeep_Within [D.int IntKind.i64 a0, D.int IntKind.i64 (2 : Int)]) fun r12 =>
    asI IntKind.i64 r12 fun i13 =>
    letN (IntKind.wrap IntKind.i64 ((4 : Int) + i13)) fun n14 =>
    bindK (F_wattlekeep_Within [D.int IntKind.i64 a1, D.int IntKind.i64 (3 : Int)]) fun r15 =>
    asI IntKind.i64 r15 fun i16 =>
    letN (IntKind.wrap IntKind.i64 (n14 + i16)) fun n17 =>
    letN (IntKind.wrap IntKind.i64 (Int.tdiv a1 (3 : Int))) fun n18 =>
    bindK (F_wattlekeep_Within [D.int IntKind.i64 n18, D.int IntKind.i64 (3 : Int)]) fun r19 =>
    asI IntKind.i64 r19 fun i20 =>
    sif ((0 : Int) ≤ i20) <|
    getK ([D.int IntKind.i64 (1 : Int), D.int IntKind.i64 (2 : Int), D.int IntKind.i64 (4 : Int)]) (Int.toNat i20) fun d21 =>
    asI IntKind.i64 d21 fun i22 =>
    bindK (F_wattleref01_Can   [D.agg [D.int IntKind.i64 (6 : Int), D.int IntKind.i64 n14, D.int IntKind.i64 i8],     D.agg [D.int IntKind.i64 (6 : Int), D.int IntKind.i64 n17, D.int IntKind.i64 i22]]) fun r23 =>
    asB r23 fun b24 =>
    brK (!b24)
      (letN (IntKind.wrap IntKind.i64 (n17 + (1 : Int))) fun n25 =>
      some (D.tup   [D.agg [D.int IntKind.i64 (6 : Int), D.int IntKind.i64 n14, D.int IntKind.i64 i8],     D.agg [D.int IntKind.i64 (6 : Int), D.int IntKind.i64 n25, D.int IntKind.i64 i22]]))
      (some (D.tup   [D.agg [D.int IntKind.i64 (6 : Int), D.int IntKind.i64 n14, D.int IntKind.i64 i8],     D.agg [D.int IntKind.i64 (6 : Int), D.int IntKind.i64 n17, D.int IntKind.i64 i22]])))
    (bindK (F_wattlekeep_Within [D.int IntKind.i64 a1, D.int IntKind.i64 (3 : Int)]) fun r26 =>
    asI IntKind.i64 r26 fun i27 =>
    letN (IntKind.wrap IntKind.i64 (n3 + i27)) fun n28 =>
    letN (IntKind.wrap IntKind.i64 (Int.tdiv a1 (3 : Int))) fun n29 =>
    bindK (F_wattlekeep_Within [D.int IntKind.i64 n29, D.int IntKind.i64 (3 : Int)]) fun r30 =>
    asI IntKind.i64 r30 fun i31 =>
    sif ((0 : Int) ≤ i31) <|
    getK ([D.int IntKind.i64 (1 : Int), D.int IntKind.i64 (2 : Int), D.int IntKind.i64 (4 : Int)]) (Int.toNat i31) fun d32 =>
    asI IntKind.i64 d32 fun i33 =>
    letN (IntKind.wrap IntKind.i64 (Int.tdiv a1 (9 : Int))) fun n34 =>
    bindK (F_wattlekeep_Within [D.int IntKind.i64 n34, D.int IntKind.i64 (2 : Int)]) fun r35 =>
    asI IntKind.i64 r35 fun i36 =>
    brK (i36 == (1 : Int))
      (letN (IntKind.wrap IntKind.i64 (n3 + (1 : Int))) fun n37 =>
      letN (max n28 n37) fun n38 =>
      bindK (F_wattleref01_Can   [D.agg [D.int IntKind.i64 (5 : Int), D.int IntKind.i64 n3, D.int IntKind.i64 i8],     D.agg [D.int IntKind.i64 (6 : Int), D.int IntKind.i64 n38, D.int IntKind.i64 i33]]) fun r39 =>
      asB r39 fun b40 =>
      brK (!b40)
        (letN (IntKind.wrap IntKind.i64 (n38 + (1 : Int))) fun n41 =>
        some (D.tup   [D.agg [D.int IntKind.i64 (5 : Int), D.int IntKind.i64 n3, D.int IntKind.i64 i8],     D.agg [D.int IntKind.i64 (6 : Int), D.int IntKind.i64 n41, D.int IntKind.i64 i33]]))
        (some (D.tup   [D.agg [D.int IntKind.i64 (5 : Int), D.int IntKind.i64 n3, D.int IntKind.i64 i8],     D.agg [D.int IntKind.i64 (6 : Int), D.int IntKind.i64 n38, D.int IntKind.i64 i33]])))
      (bindK (F_wattleref01_Can   [D.agg [D.int IntKind.i64 (5 : Int), D.int IntKind.i64 n3, D.int IntKind.i64 i8],     D.agg [D.int IntKind.i64 (5 : Int), D.int IntKind.i64 n28, D.int IntKind.i64 i33]]) fun r42 =>
      asB r42 fun b43 =>
      brK (!b43)
        (letN (IntKind.wrap IntKind.i64 (n28 + (1 : Int))) fun n44 =>
        some (D.tup   [D.agg [D.int IntKind.i64 (5 : Int), D.int IntKind.i64 n3, D.int IntKind.i64 i8],     D.agg [D.int IntKind.i64 (5 : Int), D.int IntKind.i64 n44, D.int IntKind.i64 i33]]))
        (some (D.tup   [D.agg [D.int IntKind.i64 (5 : Int), D.int IntKind.i64 n3, D.int IntKind.i64 i8],     D.agg [D.int IntKind.i64 (5 : Int), D.int IntKind.i64 n28, D.int IntKind.i64 i33]]))))
theorem G_wattleplay_Pair (F_wattlekeep_Within : List D → Option D) (F_wattleref01_Can : List D → Option D) (a0 : Int) (a1 : Int) : denP Try.prog (penv' [(ID.wattlekeep_Within, (.pure [0] F_wattlekeep_Within)), (ID.wattleref01_Can, (.pure [0] F_wattleref01_Can))]) ann_wattleplay_Pair [0, 0] ID.wattleplay_Pair [.int .i64 a0, .int .i64 a1] = g_wattleplay_Pair F_wattlekeep_Within F_wattleref01_Can a0 a1 := by kernel_rfl
theorem F_wattleplay_Pair_eq (a0 : Int) (a1 : Int) : F_wattleplay_Pair [.int .i64 a0, .int .i64 a1] = g_wattleplay_Pair F_wattlekeep_Within F_wattleref01_Can a0 a1 := G_wattleplay_Pair F_wattlekeep_Within F_wattleref01_Can a0 a1
def ann_wattleref01_Capacity : Ann := { loops := [] }
noncomputable def F_wattleref01_Capacity : List D → Option D := denP Try.prog (penv' [(ID.wattleref01_Width, (.pure [0] F_wattleref01_Width))]) ann_wattleref01_Capacity [0] ID.wattleref01_Capacity
theorem sound_wattleref01_Capacity : Sound Try.prog ID.wattleref01_Capacity (.pure [0] F_wattleref01_Capacity) := denP_sound (penv_ok [fact_wattleref01_Width]) mixed ⟨Try.f9, by kernel_rfl, by kernel_rfl, by kernel_rfl⟩
noncomputable def fact_wattleref01_Capacity : Fact Try.prog := ⟨ID.wattleref01_Capacity, (.pure [0] F_wattleref01_Capacity), sound_wattleref01_Capacity⟩
noncomputable def g_wattleref01_Capacity (F_wattleref01_Width : List D → Option D) (a0_0 : Int) (a0_1 : Int) (a0_2 : Int) : Option D :=
  bindK (F_wattleref01_Width [D.agg [D.int IntKind.i64 a0_0, D.int IntKind.i64 a0_1, D.int IntKind.i64 a0_2]]) fun r1 =>
  asI IntKind.i64 r1 fun i2 =>
  letN (IntKind.wrap IntKind.i64 (i2 * (16 : Int))) fun n3 =>
  some (D.int IntKind.i64 n3)
theorem G_wattleref01_Capacity (F_wattleref01_Width : List D → Option D) (a0_0 : Int) (a0_1 : Int) (a0_2 : Int) : denP Try.prog (penv' [(ID.wattleref01_Width, (.pure [0] F_wattleref01_Width))]) ann_wattleref01_Capacity [0] ID.wattleref01_Capacity [.agg [.int .i64 a0_0, .int .i64 a0_1, .int .i64 a0_2]] = g_wattleref01_Capacity F_wattleref01_Width a0_0 a0_1 a0_2 := by kernel_rfl
theorem F_wattleref01_Capacity_eq (a0_0 : Int) (a0_1 : Int) (a0_2 : Int) : F_wattleref01_Capacity [.agg [.int .i64 a0_0, .int .i64 a0_1, .int .i64 a0_2]] = g_wattleref01_Capacity F_wattleref01_Width a0_0 a0_1 a0_2 := G_wattleref01_Capacity F_wattleref01_Width a0_0 a0_1 a0_2
def ann_wattlekeep_Copy_byte : Ann := { loops := [] }
noncomputable def F_wattlekeep_Copy_byte : List D → Option D := denP Try.prog (penv' []) ann_wattlekeep_Copy_byte [1] ID.wattlekeep_Copy_byte
theorem sound_wattlekeep_Copy_byte : Sound Try.prog ID.wattlekeep_Copy_byte (.pure [1] F_wattlekeep_Copy_byte) := denP_sound (penv_ok []) mixed ⟨Try.f12, by kernel_rfl, by kernel_rfl, by kernel_rfl⟩
noncomputable def fact_wattlekeep_Copy_byte : Fact Try.prog := ⟨ID.wattlekeep_Copy_byte, (.pure [1] F_wattlekeep_Copy_byte), sound_wattlekeep_Copy_byte⟩
noncomputable def g_wattlekeep_Copy_byte (a0 : List D) : Option D :=
  sif (List.length a0 ≤ (4294967296 : Nat)) <|
  sif (okEls (1 : Nat) a0 = true) <|
  sif (List.length a0 = List.length a0) <|
  sif (List.all a0 D.free = true) <|
  some (D.sl Tag.own a0)
theorem G_wattlekeep_Copy_byte (tga0 : Tag) (a0 : List D) : denP Try.prog (penv' []) ann_wattlekeep_Copy_byte [1] ID.wattlekeep_Copy_byte [.sl tga0 a0] = g_wattlekeep_Copy_byte (D.lentL a0) := by kernel_rfl
theorem F_wattlekeep_Copy_byte_eq (tga0 : Tag) (a0 : List D) : F_wattlekeep_Copy_byte [.sl tga0 a0] = g_wattlekeep_Copy_byte (D.lentL a0) := G_wattlekeep_Copy_byte tga0 a0
def ann_wattleref01_least : Ann := { loops := [(0, [.val (.cell (.int .i64)), .val (.cell (.int .i64)), .dead, .dead, .dead, .val (.cell (.int .i64))])] }
noncomputable def F_wattleref01_least : List D → Option D := denP Try.prog (penv' []) ann_wattleref01_least [0] ID.wattleref01_least
theorem sound_wattleref01_least : Sound Try.prog ID.wattleref01_least (.pure [0] F_wattleref01_least) := denP_sound (penv_ok []) mixed ⟨Try.f64, by kernel_rfl, by kernel_rfl, by kernel_rfl⟩
noncomputable def fact_wattleref01_least : Fact Try.prog := ⟨ID.wattleref01_least, (.pure [0] F_wattleref01_least), sound_wattleref01_least⟩
noncomputable def g_wattleref01_least (a0 : Int) (a1 : Int) : Option D :=
  loopN (α := (Int × Int × Int × PUnit) × PUnit) (fun again1 ((i2, (i3, (i4, _))), _) =>
    sif (i3 ≠ (0 : Int)) <|
    letN (Int.tmod i4 i3) fun n5 =>
    brK (n5 != (0 : Int))
      (letN (IntKind.wrap IntKind.i64 (i4 + i2)) fun n6 =>
      again1 (((i2, i3, n6, PUnit.unit), PUnit.unit)))
      (some (D.int IntKind.i64 i4)))
    (((a0, a1, a0, PUnit.unit), PUnit.unit))
theorem G_wattleref01_least (a0 : Int) (a1 : Int) : denP Try.prog (penv' []) ann_wattleref01_least [0] ID.wattleref01_least [.int .i64 a0, .int .i64 a1] = g_wattleref01_least a0 a1 := by kernel_rfl
theorem F_wattleref01_least_eq (a0 : Int) (a1 : Int) : F_wattleref01_least [.int .i64 a0, .int .i64 a1] = g_wattleref01_least a0 a1 := G_wattleref01_least a0 a1
def ann_wattleref01_Rows : Ann := { loops := [] }
noncomputable def F_wattleref01_Rows : List D → Option D := denP Try.prog (penv' [(ID.wattleref01_Can, (.pure [0] F_wattleref01_Can)), (ID.wattleref01_least, (.pure [0] F_wattleref01_least))]) ann_wattleref01_Rows [0] ID.wattleref01_Rows
theorem sound_wattleref01_Rows : Sound Try.prog ID.wattleref01_Rows (.pure [0] F_wattleref01_Rows) := denP_sound (penv_ok [fact_wattleref01_Can, fact_wattleref01_least]) mixed ⟨Try.f41, by kernel_rfl, by kernel_rfl, by kernel_rfl⟩
noncomputable def fact_wattleref01_Rows : Fact Try.prog := ⟨ID.wattleref01_Rows, (.pure [0] F_wattleref01_Rows), sound_wattleref01_Rows⟩
noncomputable def g_wattleref01_Rows (F_wattleref01_Can : List D → Option D) (F_wattleref01_least : List D → Option D) (a0_0 : Int) (a0_1 : Int) (a0_2 : Int) (a1_0 : Int) (a1_1 : Int) (a1_2 : Int) : Option D :=
  bindK (F_wattleref01_Can   [D.agg [D.int IntKind.i64 a0_0, D.int IntKind.i64 a0_1, D.int IntKind.i64 a0_2],     D.agg [D.int IntKind.i64 a1_0, D.int IntKind.i64 a1_1, D.int IntKind.i64 a1_2]]) fun r1 =>
  asB r1 fun b2 =>
  brK (!b2)
    (some (D.int IntKind.i64 (0 : Int)))
    (bindK (F_wattleref01_least [D.int IntKind.i64 a0_2, D.int IntKind.i64 a1_2]) fun r3 =>
    asI IntKind.i64 r3 fun i4 =>
    some (D.int IntKind.i64 i4))
theorem G_wattleref01_Rows (F_wattleref01_Can : List D → Option D) (F_wattleref01_least : List D → Option D) (a0_0 : Int) (a0_1 : Int) (a0_2 : Int) (a1_0 : Int) (a1_1 : Int) (a1_2 : Int) : denP Try.prog (penv' [(ID.wattleref01_Can, (.pure [0] F_wattleref01_Can)), (ID.wattleref01_least, (.pure [0] F_wattleref01_least))]) ann_wattleref01_Rows [0] ID.wattleref01_Rows [.agg [.int .i64 a0_0, .int .i64 a0_1, .int .i64 a0_2], .agg [.int .i64 a1_0, .int .i64 a1_1, .int .i64 a1_2]] = g_wattleref01_Rows F_wattleref01_Can F_wattleref01_least a0_0 a0_1 a0_2 a1_0 a1_1 a1_2 := by kernel_rfl
theorem F_wattleref01_Rows_eq (a0_0 : Int) (a0_1 : Int) (a0_2 : Int) (a1_0 : Int) (a1_1 : Int) (a1_2 : Int) : F_wattleref01_Rows [.agg [.int .i64 a0_0, .int .i64 a0_1, .int .i64 a0_2], .agg [.int .i64 a1_0, .int .i64 a1_1, .int .i64 a1_2]] = g_wattleref01_Rows F_wattleref01_Can F_wattleref01_least a0_0 a0_1 a0_2 a1_0 a1_1 a1_2 := G_wattleref01_Rows F_wattleref01_Can F_wattleref01_least a0_0 a0_1 a0_2 a1_0 a1_1 a1_2
def ann_wattleref01_Windows : Ann := { loops := [] }
noncomputable def F_wattleref01_Windows : List D → Option D := denP Try.prog (penv' [(ID.wattleref01_Can, (.pure [0] F_wattleref01_Can)), (ID.wattleref01_Rows, (.pure [0] F_wattleref01_Rows))]) ann_wattleref01_Windows [0] ID.wattleref01_Windows
theorem sound_wattleref01_Windows : Sound Try.prog ID.wattleref01_Windows (.pure [0] F_wattleref01_Windows) := denP_sound (penv_ok [fact_wattleref01_Can, fact_wattleref01_Rows]) mixed ⟨Try.f15, by kernel_rfl, by kernel_rfl, by kernel_rfl⟩
noncomputable def fact_wattleref01_Windows : Fact Try.prog := ⟨ID.wattleref01_Windows, (.pure [0] F_wattleref01_Windows), sound_wattleref01_Windows⟩
noncomputable def g_wattleref01_Windows (F_wattleref01_Can : List D → Option D) (F_wattleref01_Rows : List D → Option D) (a0_0 : Int) (a0_1 : Int) (a0_2 : Int) (a1_0 : Int) (a1_1 : Int) (a1_2 : Int) : Option D :=
  bindK (F_wattleref01_Can   [D.agg [D.int IntKind.i64 a0_0, D.int IntKind.i64 a0_1, D.int IntKind.i64 a0_2],     D.agg [D.int IntKind.i64 a1_0, D.int IntKind.i64 a1_1, D.int IntKind.i64 a1_2]]) fun r1 =>
  asB r1 fun b2 =>
  brK (!b2)
    (some (D.int IntKind.i64 (0 : Int)))
    (bindK (F_wattleref01_Rows   [D.agg [D.int IntKind.i64 a0_0, D.int IntKind.i64 a0_1, D.int IntKind.i64 a0_2],     D.agg [D.int IntKind.i64 a1_0, D.int IntKind.i64 a1_1, D.int IntKind.i64 a1_2]]) fun r3 =>
    asI IntKind.i64 r3 fun i4 =>
    sif (i4 ≠ (0 : Int)) <|
    letN (IntKind.wrap IntKind.i64 (Int.tdiv (16 : Int) i4)) fun n5 =>
    some (D.int IntKind.i64 n5))
theorem G_wattleref01_Windows (F_wattleref01_Can : List D → Option D) (F_wattleref01_Rows : List D → Option D) (a0_0 : Int) (a0_1 : Int) (a0_2 : Int) (a1_0 : Int) (a1_1 : Int) (a1_2 : Int) : denP Try.prog (penv' [(ID.wattleref01_Can, (.pure [0] F_wattleref01_Can)), (ID.wattleref01_Rows, (.pure [0] F_wattleref01_Rows))]) ann_wattleref01_Windows [0] ID.wattleref01_Windows [.agg [.int .i64 a0_0, .int .i64 a0_1, .int .i64 a0_2], .agg [.int .i64 a1_0, .int .i64 a1_1, .int .i64 a1_2]] = g_wattleref01_Windows F_wattleref01_Can F_wattleref01_Rows a0_0 a0_1 a0_2 a1_0 a1_1 a1_2 := by kernel_rfl
theorem F_wattleref01_Windows_eq (a0_0 : Int) (a0_1 : Int) (a0_2 : Int) (a1_0 : Int) (a1_1 : Int) (a1_2 : Int) : F_wattleref01_Windows [.agg [.int .i64 a0_0, .int .i64 a0_1, .int .i64 a0_2], .agg [.int .i64 a1_0, .int .i64 a1_1, .int .i64 a1_2]] = g_wattleref01_Windows F_wattleref01_Can F_wattleref01_Rows a0_0 a0_1 a0_2 a1_0 a1_1 a1_2 := G_wattleref01_Windows F_wattleref01_Can F_wattleref01_Rows a0_0 a0_1 a0_2 a1_0 a1_1 a1_2
end Wf

