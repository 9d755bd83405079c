/-
  What the program's functions are called here.
-/
import Derived.Test.YtgekoicndhcghaaProg
import Derived.ProofKit
import Derived.Test.YtgekoicndhcghaaFe
set_option linter.unusedVariables false
set_option linter.unusedSimpArgs false
set_option linter.unnecessarySimpa false
namespace Wf
open Go Go.RowKit Go.Proofs
set_option linter.unusedVariables false
set_option maxRecDepth 100000
theorem mixed : Try.prog.follows .mixedOrders = true := by kernel_rfl
namespace ID
abbrev wattlekeep_Within : Nat := 8
abbrev wattleplay_Geom : Nat := 23
abbrev wattleref01_Check : Nat := 46
abbrev wattleplay_Good : Nat := 22
abbrev disk_New : Nat := 66
abbrev bench_New : Nat := 47
abbrev wattleref01_Budget : Nat := 59
abbrev wattleref01_Width : Nat := 36
abbrev wattleplay_Sector : Nat := 10
abbrev wattleplay_Sectors : Nat := 49
abbrev wattleref01_fine : Nat := 53
abbrev wattleref01_Parity : Nat := 58
abbrev wattleref01_Disk : Nat := 32
abbrev wattleref01_alike : Nat := 84
abbrev wattleref01_P : Nat := 67
abbrev wattleref01_Mul : Nat := 86
abbrev wattleref01_Pow : Nat := 85
abbrev wattleref01_Q : Nat := 68
abbrev wattleref01_Fill : Nat := 48
abbrev bench_Bench_is : Nat := 56
abbrev disk_Disk_may : Nat := 88
abbrev disk_Disk_put : Nat := 79
abbrev slices_Clone_disk_write_disk_write : Nat := 81
abbrev disk_Disk_Damage_1 : Nat := 82
abbrev slices_IndexFunc_disk_write_disk_write : Nat := 96
abbrev slices_DeleteFunc_disk_write_disk_write : Nat := 80
abbrev disk_Disk_Damage : Nat := 57
abbrev bench_Bench_Damage : Nat := 31
abbrev wattlelaw14_Filled : Nat := 26
abbrev wattleplay_Live : Nat := 27
abbrev slices_Index_int_int : Nat := 83
abbrev slices_Contains_int_int : Nat := 60
abbrev geom_Check : Nat := 35
abbrev bench_Bench_Len : Nat := 69
abbrev disk_Disk_Failed : Nat := 87
abbrev bench_Bench_Failed : Nat := 70
abbrev stripe_up : Nat := 50
abbrev bench_Bench_may : Nat := 71
abbrev slices_Clone_byte_byte : Nat := 45
abbrev disk_Disk_Read : Nat := 72
abbrev bench_Bench_Read : Nat := 51
abbrev row_in : Nat := 73
abbrev geom_Budget : Nat := 61
abbrev geom_Width : Nat := 62
abbrev place_in : Nat := 77
abbrev place_Parity : Nat := 75
abbrev place_Disk : Nat := 74
abbrev erase_Missing : Nat := 89
abbrev erase_fits_1 : Nat := 98
abbrev slices_IndexFunc_byte_byte : Nat := 105
abbrev slices_ContainsFunc_byte_byte : Nat := 97
abbrev erase_fits : Nat := 90
abbrev erase_filled : Nat := 91
abbrev gf_double : Nat := 107
abbrev gf_Mul : Nat := 108
abbrev synd_Scale : Nat := 102
abbrev synd_Add : Nat := 93
abbrev gf_Pow : Nat := 101
abbrev synd_P_1 : Nat := 104
abbrev synd_sum : Nat := 103
abbrev synd_P : Nat := 94
abbrev synd_Q : Nat := 99
abbrev gf_Log : Nat := 106
abbrev gf_Inv : Nat := 100
abbrev erase_two : Nat := 92
abbrev erase_byQ : Nat := 95
abbrev erase_Solve : Nat := 76
abbrev row_Take : Nat := 52
abbrev stripe_Read : Nat := 28
abbrev wattleref01_Numbers : Nat := 29
abbrev geom_Capacity : Nat := 42
abbrev place_Of : Nat := 54
abbrev place_number : Nat := 78
abbrev place_Numbers : Nat := 55
abbrev stripe_One : Nat := 30
abbrev wattlekeep_Same_byte : Nat := 20
abbrev wattlelaw14_wakes : Nat := 33
abbrev wattlelaw14_StripeOnes : Nat := 5
end ID
end Wf

/-
  Functions, read off.
-/
namespace Wf
open Go Go.RowKit Go.Proofs
set_option linter.unusedVariables false
set_option maxRecDepth 100000
def ann_wattlekeep_Within : Ann := { loops := [] }
noncomputable def F_wattlekeep_Within : List D → Option D := denP Try.prog (penv' []) ann_wattlekeep_Within [0] ID.wattlekeep_Within
theorem sound_wattlekeep_Within : Sound Try.prog ID.wattlekeep_Within (.pure [0] F_wattlekeep_Within) := denP_sound (penv_ok []) mixed ⟨Try.f8, by kernel_rfl, by kernel_rfl, by kernel_rfl⟩
noncomputable def fact_wattlekeep_Within : Fact Try.prog := ⟨ID.wattlekeep_Within, (.pure [0] F_wattlekeep_Within), sound_wattlekeep_Within⟩
noncomputable def g_wattlekeep_Within (a0 : Int) (a1 : Int) : Option D :=
  brK (decide (a1 < (1 : Int)))
    (some (D.int IntKind.i64 (0 : Int)))
    (sif (a1 ≠ (0 : Int)) <|
    letN (Int.tmod a0 a1) fun n1 =>
    brK (decide (n1 < (0 : Int)))
      (letN (IntKind.wrap IntKind.i64 (n1 + a1)) fun n2 =>
      some (D.int IntKind.i64 n2))
      (some (D.int IntKind.i64 n1)))
theorem G_wattlekeep_Within (a0 : Int) (a1 : Int) : denP Try.prog (penv' []) ann_wattlekeep_Within [0] ID.wattlekeep_Within [.int .i64 a0, .int .i64 a1] = g_wattlekeep_Within a0 a1 := by kernel_rfl
theorem F_wattlekeep_Within_eq (a0 : Int) (a1 : Int) : F_wattlekeep_Within [.int .i64 a0, .int .i64 a1] = g_wattlekeep_Within a0 a1 := G_wattlekeep_Within a0 a1
def ann_wattleplay_Geom : Ann := { loops := [] }
noncomputable def F_wattleplay_Geom : List D → Option D := denP Try.prog (penv' [(ID.wattlekeep_Within, (.pure [0] F_wattlekeep_Within))]) ann_wattleplay_Geom [0] ID.wattleplay_Geom
theorem sound_wattleplay_Geom : Sound Try.prog ID.wattleplay_Geom (.pure [0] F_wattleplay_Geom) := denP_sound (penv_ok [fact_wattlekeep_Within]) mixed ⟨Try.f23, by kernel_rfl, by kernel_rfl, by kernel_rfl⟩
noncomputable def fact_wattleplay_Geom : Fact Try.prog := ⟨ID.wattleplay_Geom, (.pure [0] F_wattleplay_Geom), sound_wattleplay_Geom⟩
noncomputable def g_wattleplay_Geom (F_wattlekeep_Within : List D → Option D) (a0 : Int) : Option D :=
  bindK (F_wattlekeep_Within [D.int IntKind.i64 a0, D.int IntKind.i64 (2 : Int)]) fun r1 =>
  asI IntKind.i64 r1 fun i2 =>
  letN (IntKind.wrap IntKind.i64 ((5 : Int) + i2)) fun n3 =>
  letN (IntKind.wrap IntKind.i64 (Int.tdiv a0 (2 : Int))) fun n4 =>
  bindK (F_wattlekeep_Within [D.int IntKind.i64 n4, D.int IntKind.i64 (3 : Int)]) fun r5 =>
  asI IntKind.i64 r5 fun i6 =>
  sif ((0 : Int) ≤ i6) <|
  getK ([D.int IntKind.i64 (1 : Int), D.int IntKind.i64 (2 : Int), D.int IntKind.i64 (4 : Int)]) (Int.toNat i6) fun d7 =>
  asI IntKind.i64 d7 fun i8 =>
  letN (IntKind.wrap IntKind.i64 (Int.tdiv a0 (6 : Int))) fun n9 =>
  bindK (F_wattlekeep_Within [D.int IntKind.i64 n9, D.int IntKind.i64 (4 : Int)]) fun r10 =>
  asI IntKind.i64 r10 fun i11 =>
  letN (IntKind.wrap IntKind.i64 ((3 : Int) + i11)) fun n12 =>
  brK (n3 == (6 : Int))
    (letN (IntKind.wrap IntKind.i64 (Int.tdiv a0 (6 : Int))) fun n13 =>
    bindK (F_wattlekeep_Within [D.int IntKind.i64 n13, D.int IntKind.i64 (4 : Int)]) fun r14 =>
    asI IntKind.i64 r14 fun i15 =>
    letN (IntKind.wrap IntKind.i64 ((4 : Int) + i15)) fun n16 =>
    letN (IntKind.wrap IntKind.i64 (Int.tdiv a0 (24 : Int))) fun n17 =>
    bindK (F_wattlekeep_Within [D.int IntKind.i64 n17, D.int IntKind.i64 (40 : Int)]) fun r18 =>
    asI IntKind.i64 r18 fun i19 =>
    brK (i19 == (36 : Int))
      (bindK (F_wattlekeep_Within [D.int IntKind.i64 a0, D.int IntKind.i64 (9 : Int)]) fun r20 =>
      asI IntKind.i64 r20 fun i21 =>
      some (D.agg [D.int IntKind.i64 i21, D.int IntKind.i64 n16, D.int IntKind.i64 i8]))
      (brK (i19 == (37 : Int))
        (bindK (F_wattlekeep_Within [D.int IntKind.i64 a0, D.int IntKind.i64 (12 : Int)]) fun r22 =>
        asI IntKind.i64 r22 fun i23 =>
        letN (IntKind.wrap IntKind.i64 (i23 - (1 : Int))) fun n24 =>
        some (D.agg [D.int IntKind.i64 n3, D.int IntKind.i64 n24, D.int IntKind.i64 i8]))
        (brK (i19 == (38 : Int))
          (bindK (F_wattlekeep_Within [D.int IntKind.i64 a0, D.int IntKind.i64 (9 : Int)]) fun r25 =>
          asI IntKind.i64 r25 fun i26 =>
          letN (IntKind.wrap IntKind.i64 (i26 - (1 : Int))) fun n27 =>
          some (D.agg [D.int IntKind.i64 n3, D.int IntKind.i64 n16, D.int IntKind.i64 n27]))
          (brK (i19 == (39 : Int))
            (some (D.agg [D.int IntKind.i64 n3, D.int IntKind.i64 (8 : Int), D.int IntKind.i64 i8]))
            (some (D.agg [D.int IntKind.i64 n3, D.int IntKind.i64 n16, D.int IntKind.i64 i8]))))))
    (letN (IntKind.wrap IntKind.i64 (Int.tdiv a0 (24 : Int))) fun n28 =>
    bindK (F_wattlekeep_Within [D.int IntKind.i64 n28, D.int IntKind.i64 (40 : Int)]) fun r29 =>
    asI IntKind.i64 r29 fun i30 =>
    brK (i30 == (36 : Int))
      (bindK (F_wattlekeep_Within [D.int IntKind.i64 a0, D.int IntKind.i64 (9 : Int)]) fun r31 =>
      asI IntKind.i64 r31 fun i32 =>
      some (D.agg [D.int IntKind.i64 i32, D.int IntKind.i64 n12, D.int IntKind.i64 i8]))
      (brK (i30 == (37 : Int))
        (bindK (F_wattlekeep_Within [D.int IntKind.i64 a0, D.int IntKind.i64 (12 : Int)]) fun r33 =>
        asI IntKind.i64 r33 fun i34 =>
        letN (IntKind.wrap IntKind.i64 (i34 - (1 : Int))) fun n35 =>
        some (D.agg [D.int IntKind.i64 n3, D.int IntKind.i64 n35, D.int IntKind.i64 i8]))
        (brK (i30 == (38 : Int))
          (bindK (F_wattlekeep_Within [D.int IntKind.i64 a0, D.int IntKind.i64 (9 : Int)]) fun r36 =>
          asI IntKind.i64 r36 fun i37 =>
          letN (IntKind.wrap IntKind.i64 (i37 - (1 : Int))) fun n38 =>
          some (D.agg [D.int IntKind.i64 n3, D.int IntKind.i64 n12, D.int IntKind.i64 n38]))
          (brK (i30 == (39 : Int))
            (some (D.agg [D.int IntKind.i64 n3, D.int IntKind.i64 (8 : Int), D.int IntKind.i64 i8]))
            (some (D.agg [D.int IntKind.i64 n3, D.int IntKind.i64 n12, D.int IntKind.i64 i8]))))))
theorem G_wattleplay_Geom (F_wattlekeep_Within : List D → Option D) (a0 : Int) : denP Try.prog (penv' [(ID.wattlekeep_Within, (.pure [0] F_wattlekeep_Within))]) ann_wattleplay_Geom [0] ID.wattleplay_Geom [.int .i64 a0] = g_wattleplay_Geom F_wattlekeep_Within a0 := by kernel_rfl
theorem F_wattleplay_Geom_eq (a0 : Int) : F_wattleplay_Geom [.int .i64 a0] = g_wattleplay_Geom F_wattlekeep_Within a0 := G_wattleplay_Geom F_wattlekeep_Within a0
def ann_wattleref01_Check : Ann := { loops := [] }
noncomputable def F_wattleref01_Check : List D → Option D := denP Try.prog (penv' []) ann_wattleref01_Check [0] ID.wattleref01_Check
theorem sound_wattleref01_Check : Sound Try.prog ID.wattleref01_Check (.pure [0] F_wattleref01_Check) := denP_sound (penv_ok []) mixed ⟨Try.f46, by kernel_rfl, by kernel_rfl, by kernel_rfl⟩
noncomputable def fact_wattleref01_Check : Fact Try.prog := ⟨ID.wattleref01_Check, (.pure [0] F_wattleref01_Check), sound_wattleref01_Check⟩
noncomputable def g_wattleref01_Check (a0_0 : Int) (a0_1 : Int) (a0_2 : Int) : Option D :=
  brK (a0_0 == (6 : Int))
    (brK (a0_0 == (5 : Int))
      (brK (decide (a0_1 ≥ (4 : Int)))
        (brK (decide (a0_1 ≤ (8 : Int)))
          (brK (a0_2 == (1 : Int))
            (some (D.bool true))
            (brK (a0_2 == (2 : Int))
              (some (D.bool true))
              (some (D.bool (a0_2 == (4 : Int))))))
          (some (D.bool false)))
        (some (D.bool false)))
      (brK (a0_0 == (6 : Int))
        (brK (decide (a0_1 ≥ (4 : Int)))
          (brK (decide (a0_1 ≤ (8 : Int)))
            (brK (a0_2 == (1 : Int))
              (some (D.bool true))
              (brK (a0_2 == (2 : Int))
                (some (D.bool true))
                (some (D.bool (a0_2 == (4 : Int))))))
            (some (D.bool false)))
          (some (D.bool false)))
        (some (D.bool false))))
    (brK (a0_0 == (5 : Int))
      (brK (decide (a0_1 ≥ (3 : Int)))
        (brK (decide (a0_1 ≤ (8 : Int)))
          (brK (a0_2 == (1 : Int))
            (some (D.bool true))
            (brK (a0_2 == (2 : Int))
              (some (D.bool true))
              (some (D.bool (a0_2 == (4 : Int))))))
          (some (D.bool false)))
        (some (D.bool false)))
      (brK (a0_0 == (6 : Int))
        (brK (decide (a0_1 ≥ (3 : Int)))
          (brK (decide (a0_1 ≤ (8 : Int)))
            (brK (a0_2 == (1 : Int))
              (some (D.bool true))
              (brK (a0_2 == (2 : Int))
                (some (D.bool true))
                (some (D.bool (a0_2 == (4 : Int))))))
            (some (D.bool false)))
          (some (D.bool false)))
        (some (D.bool false))))
theorem G_wattleref01_Check (a0_0 : Int) (a0_1 : Int) (a0_2 : Int) : denP Try.prog (penv' []) ann_wattleref01_Check [0] ID.wattleref01_Check [.agg [.int .i64 a0_0, .int .i64 a0_1, .int .i64 a0_2]] = g_wattleref01_Check a0_0 a0_1 a0_2 := by kernel_rfl
theorem F_wattleref01_Check_eq (a0_0 : Int) (a0_1 : Int) (a0_2 : Int) : F_wattleref01_Check [.agg [.int .i64 a0_0, .int .i64 a0_1, .int .i64 a0_2]] = g_wattleref01_Check a0_0 a0_1 a0_2 := G_wattleref01_Check a0_0 a0_1 a0_2
def ann_wattleplay_Good : Ann := { loops := [] }
noncomputable def F_wattleplay_Good : List D → Option D := denP Try.prog (penv' [(ID.wattleplay_Geom, (.pure [0] F_wattleplay_Geom)), (ID.wattleref01_Check, (.pure [0] F_wattleref01_Check))]) ann_wattleplay_Good [0] ID.wattleplay_Good
theorem sound_wattleplay_Good : Sound Try.prog ID.wattleplay_Good (.pure [0] F_wattleplay_Good) := denP_sound (penv_ok [fact_wattleplay_Geom, fact_wattleref01_Check]) mixed ⟨Try.f22, by kernel_rfl, by kernel_rfl, by kernel_rfl⟩
noncomputable def fact_wattleplay_Good : Fact Try.prog := ⟨ID.wattleplay_Good, (.pure [0] F_wattleplay_Good), sound_wattleplay_Good⟩
noncomputable def g_wattleplay_Good (F_wattleplay_Geom : List D → Option D) (F_wattleref01_Check : List D → Option D) (a0 : Int) : Option D :=
  bindK (F_wattleplay_Geom [D.int IntKind.i64 a0]) fun r1 =>
  asAgg r1 fun cs2 =>
  getCells ([Lf.int IntKind.i64, Lf.int IntKind.i64, Lf.int IntKind.i64]) cs2 fun c3 =>
  bindK (F_wattleref01_Check [D.agg [D.int IntKind.i64 c3.fst, D.int IntKind.i64 c3.snd.fst, D.int IntKind.i64 c3.snd.snd.fst]]) fun r4 =>
  asB r4 fun b5 =>
  brK (!b5)
    (some (D.agg [D.int IntKind.i64 (5 : Int), D.int IntKind.i64 (3 : Int), D.int IntKind.i64 (1 : Int)]))
    (some (D.agg [D.int IntKind.i64 c3.fst, D.int IntKind.i64 c3.snd.fst, D.int IntKind.i64 c3.snd.snd.fst]))
theorem G_wattleplay_Good (F_wattleplay_Geom : List D → Option D) (F_wattleref01_Check : List D → Option D) (a0 : Int) : denP Try.prog (penv' [(ID.wattleplay_Geom, (.pure [0] F_wattleplay_Geom)), (ID.wattleref01_Check, (.pure [0] F_wattleref01_Check))]) ann_wattleplay_Good [0] ID.wattleplay_Good [.int .i64 a0] = g_wattleplay_Good F_wattleplay_Geom F_wattleref01_Check a0 := by kernel_rfl
theorem F_wattleplay_Good_eq (a0 : Int) : F_wattleplay_Good [.int .i64 a0] = g_wattleplay_Good F_wattleplay_Geom F_wattleref01_Check a0 := G_wattleplay_Good F_wattleplay_Geom F_wattleref01_Check a0
def ann_disk_New : Ann := { loops := [], pubs := [(1, [(0, 102, 6561)])], ks := [(6561, true)] }
noncomputable def F_disk_New : List D → List Tb → Option Ans := denS Try.prog (penv' []) ann_disk_New [0] ID.disk_New
theorem sound_disk_New : Sound Try.prog ID.disk_New (.st [] [0] [(6561, true)] F_disk_New) := denS_sound (penv_ok []) mixed ⟨Try.f66, by kernel_rfl, by kernel_rfl, by kernel_rfl⟩
noncomputable def fact_disk_New : Fact Try.prog := ⟨ID.disk_New, (.st [] [0] [(6561, true)] F_disk_New), sound_disk_New⟩
noncomputable def g_disk_New (T0 : Tb) : Option Ans :=
  letT (T0 ++   [List.map D.own0       (List.reverse         ([D.bool false, D.sl Tag.nil []] ++ (List.replicate 1664 (D.int IntKind.u8 (0 : Int)) ++ [])))]) fun U1 =>
  some (Ans.mk (D.h (6561 : Nat) (List.length T0) (0 : Nat)) [] [U1])
theorem G_disk_New (T0 : Tb) : denS Try.prog (penv' []) ann_disk_New [0] ID.disk_New [] [T0] = g_disk_New T0 := by kernel_rfl
theorem F_disk_New_eq (T0 : Tb) : F_disk_New [] [T0] = g_disk_New T0 := G_disk_New T0
def ann_bench_New : Ann := { loops := [(1, [.dead, .dead, .dead, .dead, .val (.cell (.hnd (5312 : Nat))), .dead, .dead, .dead, .dead, .dead, .dead, .dead, .dead, .dead, .val (.cell (.int .i64)), .val (.cell (.int .i64))])], pubs := [(3, [(4, 86, 5312)])], ks := [(5312, true), (6561, true)] }
noncomputable def F_bench_New : List D → List Tb → Option Ans := denS Try.prog (penv' [(ID.disk_New, (.st [] [0] [(6561, true)] F_disk_New))]) ann_bench_New [0, 0] ID.bench_New
theorem sound_bench_New : Sound Try.prog ID.bench_New (.st [] [0, 0] [(5312, true), (6561, true)] F_bench_New) := denS_sound (penv_ok [fact_disk_New]) mixed ⟨Try.f47, by kernel_rfl, by kernel_rfl, by kernel_rfl⟩
noncomputable def fact_bench_New : Fact Try.prog := ⟨ID.bench_New, (.st [] [0, 0] [(5312, true), (6561, true)] F_bench_New), sound_bench_New⟩
noncomputable def g_bench_New (F_disk_New : List D → List Tb → Option Ans) (a0 : Int) (T0 : Tb) (T1 : Tb) : Option Ans :=
  brK (decide (a0 < (1 : Int)))
    (some (Ans.mk (D.tup [D.nilp, D.int IntKind.i64 (1 : Int)]) [] [T0, T1]))
    (brK (decide (a0 > (8 : Int)))
      (some (Ans.mk (D.tup [D.nilp, D.int IntKind.i64 (1 : Int)]) [] [T0, T1]))
      (letT (T0 ++   [[D.own0 (D.int IntKind.i64 (0 : Int)), D.own0 (D.int IntKind.i64 (-1 : Int)), D.own0 (D.bool false),       D.own0 (D.sl Tag.nil [])]]) fun U1 =>
      loopN (α := (Nat × Int × Int × PUnit) × List (List D) × List (List D) × PUnit) (fun again2 ((x3, (i4, (i5, _))), (U6, (U7, _))) =>
        brK (decide (i5 < i4))
          (getK U6 x3 fun d8 =>
          getK d8 ((3 : Nat)) fun d9 =>
          asOwn d9 fun l10 =>
          bindK (F_disk_New [] [U7]) fun r11 =>
          nilK r11.outs <|
          consK r11.tbs fun c12 q13 =>
          nilK q13 <|
          sif (okData r11.r = true) <|
          sif (okEls (1 : Nat) [r11.r] = true) <|
          getK U6 x3 fun d14 =>
          getK d14 ((3 : Nat)) fun d15 =>
          asOwn d15 fun l16 =>
          sif (List.length l10 + (1 : Nat) ≤ (4294967296 : Nat)) <|
          sif (okEls (1 : Nat) [r11.r] = true) <|
          sif (List.length l10 = List.length l16) <|
          letT (setT U6 x3 (3 : Nat) D.undef) fun U17 =>
          getK U17 x3 fun d18 =>
          sif ((4 : Nat) ≤ List.length d18) <|
          sif (List.length l10 + (1 : Nat) = List.length (l16 ++ [r11.r])) <|
          sif (flatEls (l16 ++ [r11.r]) = true) <|
          sif (okElsW (1 : Nat) (l16 ++ [r11.r]) = true) <|
          letT (setCells U17 x3 (3 : Nat) [D.sl Tag.own (l16 ++ [r11.r])]) fun U19 =>
          letN (IntKind.wrap IntKind.i64 (i5 + (1 : Int))) fun n20 =>
          again2 (((x3, i4, n20, PUnit.unit), U19, c12, PUnit.unit)))
          (some (Ans.mk (D.tup [D.h (5312) x3 (0 : Nat), D.int IntKind.i64 (0 : Int)]) [] [U6, U7])))
        (((List.length T0, a0, (0 : Int), PUnit.unit), U1, T1, PUnit.unit))))
theorem G_bench_New (F_disk_New : List D → List Tb → Option Ans) (a0 : Int) (T0 : Tb) (T1 : Tb) : denS Try.prog (penv' [(ID.disk_New, (.st [] [0] [(6561, true)] F_disk_New))]) ann_bench_New [0, 0] ID.bench_New [.int .i64 a0] [T0, T1] = g_bench_New F_disk_New a0 T0 T1 := by kernel_rfl
theorem F_bench_New_eq (a0 : Int) (T0 : Tb) (T1 : Tb) : F_bench_New [.int .i64 a0] [T0, T1] = g_bench_New F_disk_New a0 T0 T1 := G_bench_New F_disk_New a0 T0 T1
def ann_wattleref01_Budget : Ann := { loops := [] }
noncomputable def F_wattleref01_Budget : List D → Option D := denP Try.prog (penv' [(ID.wattleref01_Check, (.pure [0] F_wattleref01_Check))]) ann_wattleref01_Budget [0] ID.wattleref01_Budget
theorem sound_wattleref01_Budget : Sound Try.prog ID.wattleref01_Budget (.pure [0] F_wattleref01_Budget) := denP_sound (penv_ok [fact_wattleref01_Check]) mixed ⟨Try.f59, by kernel_rfl, by kernel_rfl, by kernel_rfl⟩
noncomputable def fact_wattleref01_Budget : Fact Try.prog := ⟨ID.wattleref01_Budget, (.pure [0] F_wattleref01_Budget), sound_wattleref01_Budget⟩
noncomputable def g_wattleref01_Budget (F_wattleref01_Check : List D → Option D) (a0_0 : Int) (a0_1 : Int) (a0_2 : Int) : Option D :=
  bindK (F_wattleref01_Check [D.agg [D.int IntKind.i64 a0_0, D.int IntKind.i64 a0_1, D.int IntKind.i64 a0_2]]) fun r1 =>
  asB r1 fun b2 =>
  brK (!b2)
    (some (D.int IntKind.i64 (0 : Int)))
    (letN (IntKind.wrap IntKind.i64 (a0_0 - (4 : Int))) fun n3 =>
    some (D.int IntKind.i64 n3))
theorem G_wattleref01_Budget (F_wattleref01_Check : List D → Option D) (a0_0 : Int) (a0_1 : Int) (a0_2 : Int) : denP Try.prog (penv' [(ID.wattleref01_Check, (.pure [0] F_wattleref01_Check))]) ann_wattleref01_Budget [0] ID.wattleref01_Budget [.agg [.int .i64 a0_0, .int .i64 a0_1, .int .i64 a0_2]] = g_wattleref01_Budget F_wattleref01_Check a0_0 a0_1 a0_2 := by kernel_rfl
theorem F_wattleref01_Budget_eq (a0_0 : Int) (a0_1 : Int) (a0_2 : Int) : F_wattleref01_Budget [.agg [.int .i64 a0_0, .int .i64 a0_1, .int .i64 a0_2]] = g_wattleref01_Budget F_wattleref01_Check a0_0 a0_1 a0_2 := G_wattleref01_Budget F_wattleref01_Check a0_0 a0_1 a0_2
def ann_wattleref01_Width : Ann := { loops := [] }
noncomputable def F_wattleref01_Width : List D → Option D := denP Try.prog (penv' [(ID.wattleref01_Check, (.pure [0] F_wattleref01_Check)), (ID.wattleref01_Budget, (.pure [0] F_wattleref01_Budget))]) ann_wattleref01_Width [0] ID.wattleref01_Width
theorem sound_wattleref01_Width : Sound Try.prog ID.wattleref01_Width (.pure [0] F_wattleref01_Width) := denP_sound (penv_ok [fact_wattleref01_Check, fact_wattleref01_Budget]) mixed ⟨Try.f36, by kernel_rfl, by kernel_rfl, by kernel_rfl⟩
noncomputable def fact_wattleref01_Width : Fact Try.prog := ⟨ID.wattleref01_Width, (.pure [0] F_wattleref01_Width), sound_wattleref01_Width⟩
noncomputable def g_wattleref01_Width (F_wattleref01_Check : List D → Option D) (F_wattleref01_Budget : List D → Option D) (a0_0 : Int) (a0_1 : Int) (a0_2 : Int) : Option D :=
  bindK (F_wattleref01_Check [D.agg [D.int IntKind.i64 a0_0, D.int IntKind.i64 a0_1, D.int IntKind.i64 a0_2]]) fun r1 =>
  asB r1 fun b2 =>
  brK (!b2)
    (some (D.int IntKind.i64 (0 : Int)))
    (bindK (F_wattleref01_Budget [D.agg [D.int IntKind.i64 a0_0, D.int IntKind.i64 a0_1, D.int IntKind.i64 a0_2]]) fun r3 =>
    asI IntKind.i64 r3 fun i4 =>
    letN (IntKind.wrap IntKind.i64 (a0_1 - i4)) fun n5 =>
    some (D.int IntKind.i64 n5))
theorem G_wattleref01_Width (F_wattleref01_Check : List D → Option D) (F_wattleref01_Budget : List D → Option D) (a0_0 : Int) (a0_1 : Int) (a0_2 : Int) : denP Try.prog (penv' [(ID.wattleref01_Check, (.pure [0] F_wattleref01_Check)), (ID.wattleref01_Budget, (.pure [0] F_wattleref01_Budget))]) ann_wattleref01_Width [0] ID.wattleref01_Width [.agg [.int .i64 a0_0, .int .i64 a0_1, .int .i64 a0_2]] = g_wattleref01_Width F_wattleref01_Check F_wattleref01_Budget a0_0 a0_1 a0_2 := by kernel_rfl
theorem F_wattleref01_Width_eq (a0_0 : Int) (a0_1 : Int) (a0_2 : Int) : F_wattleref01_Width [.agg [.int .i64 a0_0, .int .i64 a0_1, .int .i64 a0_2]] = g_wattleref01_Width F_wattleref01_Check F_wattleref01_Budget a0_0 a0_1 a0_2 := G_wattleref01_Width F_wattleref01_Check F_wattleref01_Budget a0_0 a0_1 a0_2
def ann_wattleplay_Sector : Ann := { loops := [(1, [.val (.cell (.int .i64)), .dead, .dead, .own 1, .dead, .dead, .dead, .dead, .dead, .dead, .dead, .val (.cell (.int .i64)), .val (.cell (.int .i64))])] }
noncomputable def F_wattleplay_Sector : List D → Option D := denP Try.prog (penv' [(ID.wattlekeep_Within, (.pure [0] F_wattlekeep_Within))]) ann_wattleplay_Sector [1] ID.wattleplay_Sector
theorem sound_wattleplay_Sector : Sound Try.prog ID.wattleplay_Sector (.pure [1] F_wattleplay_Sector) := denP_sound (penv_ok [fact_wattlekeep_Within]) mixed ⟨Try.f10, by kernel_rfl, by kernel_rfl, by kernel_rfl⟩
noncomputable def fact_wattleplay_Sector : Fact Try.prog := ⟨ID.wattleplay_Sector, (.pure [1] F_wattleplay_Sector), sound_wattleplay_Sector⟩
noncomputable def g_wattleplay_Sector (F_wattlekeep_Within : List D → Option D) (a0 : Int) : Option D :=
  bindK (F_wattlekeep_Within [D.int IntKind.i64 a0, D.int IntKind.i64 (11 : Int)]) fun r1 =>
  asI IntKind.i64 r1 fun i2 =>
  brK (i2 == (10 : Int))
    (some (D.sl Tag.own   [D.int IntKind.u8 (0 : Int), D.int IntKind.u8 (0 : Int), D.int IntKind.u8 (0 : Int), D.int IntKind.u8 (0 : Int),     D.int IntKind.u8 (0 : Int), D.int IntKind.u8 (0 : Int), D.int IntKind.u8 (0 : Int), D.int IntKind.u8 (0 : Int),     D.int IntKind.u8 (0 : Int), D.int IntKind.u8 (0 : Int), D.int IntKind.u8 (0 : Int), D.int IntKind.u8 (0 : Int),     D.int IntKind.u8 (0 : Int), D.int IntKind.u8 (0 : Int), D.int IntKind.u8 (0 : Int), D.int IntKind.u8 (0 : Int),     D.int IntKind.u8 (0 : Int), D.int IntKind.u8 (0 : Int), D.int IntKind.u8 (0 : Int), D.int IntKind.u8 (0 : Int),     D.int IntKind.u8 (0 : Int), D.int IntKind.u8 (0 : Int), D.int IntKind.u8 (0 : Int), D.int IntKind.u8 (0 : Int),     D.int IntKind.u8 (0 : Int), D.int IntKind.u8 (0 : Int), D.int IntKind.u8 (0 : Int), D.int IntKind.u8 (0 : Int),     D.int IntKind.u8 (0 : Int), D.int IntKind.u8 (0 : Int), D.int IntKind.u8 (0 : Int), D.int IntKind.u8 (0 : Int)]))
    (loopN (α := (Int × List D × Int × Int × PUnit) × PUnit) (fun again3 ((i4, (l5, (i6, (i7, _)))), _) =>
      brK (decide (i7 < i6))
        (letN (IntKind.wrap IntKind.i64 (Int.tdiv i4 (7 : Int))) fun n8 =>
        letN (bits BinOp.or IntKind.i64 n8 (1 : Int)) fun n9 =>
        letN (IntKind.wrap IntKind.i64 (i7 * n9)) fun n10 =>
        letN (IntKind.wrap IntKind.i64 (i4 + n10)) fun n11 =>
        letN (IntKind.wrap IntKind.u8 n11) fun n12 =>
        sif ((0 : Int) ≤ i7) <|
        sif (Int.toNat i7 < List.length l5) <|
        getK l5 ((0 : Nat) + Int.toNat i7) fun d13 =>
        sif (D.isAgg d13 = false) <|
        letN (IntKind.wrap IntKind.i64 (i7 + (1 : Int))) fun n14 =>
        sif (List.length l5 = List.length (List.set l5 ((0 : Nat) + Int.toNat i7) (D.int IntKind.u8 n12))) <|
        again3 (((i4, List.set l5 ((0 : Nat) + Int.toNat i7) (D.int IntKind.u8 n12), i6, n14, PUnit.unit), PUnit.unit)))
        (sif (List.length l5 = List.length l5) <|
        sif (List.all l5 D.free = true) <|
        some (D.sl Tag.own l5)))
      (((a0,     [D.int IntKind.u8 (0 : Int), D.int IntKind.u8 (0 : Int), D.int IntKind.u8 (0 : Int), D.int IntKind.u8 (0 : Int),       D.int IntKind.u8 (0 : Int), D.int IntKind.u8 (0 : Int), D.int IntKind.u8 (0 : Int), D.int IntKind.u8 (0 : Int),       D.int IntKind.u8 (0 : Int), D.int IntKind.u8 (0 : Int), D.int IntKind.u8 (0 : Int), D.int IntKind.u8 (0 : Int),       D.int IntKind.u8 (0 : Int), D.int IntKind.u8 (0 : Int), D.int IntKind.u8 (0 : Int), D.int IntKind.u8 (0 : Int),       D.int IntKind.u8 (0 : Int), D.int IntKind.u8 (0 : Int), D.int IntKind.u8 (0 : Int), D.int IntKind.u8 (0 : Int),       D.int IntKind.u8 (0 : Int), D.int IntKind.u8 (0 : Int), D.int IntKind.u8 (0 : Int), D.int IntKind.u8 (0 : Int),       D.int IntKind.u8 (0 : Int), D.int IntKind.u8 (0 : Int), D.int IntKind.u8 (0 : Int), D.int IntKind.u8 (0 : Int),       D.int IntKind.u8 (0 : Int), D.int IntKind.u8 (0 : Int), D.int IntKind.u8 (0 : Int), D.int IntKind.u8 (0 : Int)],     (32 : Int), (0 : Int), PUnit.unit),   PUnit.unit)))
theorem G_wattleplay_Sector (F_wattlekeep_Within : List D → Option D) (a0 : Int) : denP Try.prog (penv' [(ID.wattlekeep_Within, (.pure [0] F_wattlekeep_Within))]) ann_wattleplay_Sector [1] ID.wattleplay_Sector [.int .i64 a0] = g_wattleplay_Sector F_wattlekeep_Within a0 := by kernel_rfl
theorem F_wattleplay_Sector_eq (a0 : Int) : F_wattleplay_Sector [.int .i64 a0] = g_wattleplay_Sector F_wattlekeep_Within a0 := G_wattleplay_Sector F_wattlekeep_Within a0
def ann_wattleplay_Sectors : Ann := { loops := [(0, [.val (.cell .lent), .val (.cell (.int .i64)), .dead, .dead, .dead, .own 1, .val (.cell (.int .i64))])] }
noncomputable def F_wattleplay_Sectors : List D → Option D := denP Try.prog (penv' [(ID.wattleplay_Sector, (.pure [1] F_wattleplay_Sector))]) ann_wattleplay_Sectors [1] ID.wattleplay_Sectors
theorem sound_wattleplay_Sectors : Sound Try.prog ID.wattleplay_Sectors (.pure [1] F_wattleplay_Sectors) := denP_sound (penv_ok [fact_wattleplay_Sector]) mixed ⟨Try.f49, by kernel_rfl, by kernel_rfl, by kernel_rfl⟩
noncomputable def fact_wattleplay_Sectors : Fact Try.prog := ⟨ID.wattleplay_Sectors, (.pure [1] F_wattleplay_Sectors), sound_wattleplay_Sectors⟩
noncomputable def g_wattleplay_Sectors (F_wattleplay_Sector : List D → Option D) (a0 : List D) (a1 : Int) : Option D :=
  loopN (α := (List D × Int × List D × Int × PUnit) × PUnit) (fun again1 ((l2, (i3, (l4, (i5, _)))), _) =>
    brK (decide (i5 < i3))
      (letN (IntKind.wrap IntKind.i64 ((3 : Int) * i5)) fun n6 =>
      brK (decide (i5 < (↑(List.length l2) : Int)))
        (sif ((0 : Int) ≤ i5) <|
        getK l2 (Int.toNat i5) fun d7 =>
        asI IntKind.i64 d7 fun i8 =>
        bindK (F_wattleplay_Sector [D.int IntKind.i64 i8]) fun r9 =>
        asOwn r9 fun l10 =>
        sif ((0 : Nat) + List.length l10 ≤ List.length l10) <|
        sif (List.length l4 + (1 : Nat) ≤ (4294967296 : Nat)) <|
        sif (List.length l4 = List.length l4) <|
        letN (IntKind.wrap IntKind.i64 (i5 + (1 : Int))) fun n11 =>
        sif (List.length l4 + (1 : Nat) = List.length (l4 ++ [D.sl Tag.fresh (cut (0 : Nat) (List.length l10) l10)])) <|
        again1 (((l2, i3, l4 ++ [D.sl Tag.fresh (cut (0 : Nat) (List.length l10) l10)], n11, PUnit.unit), PUnit.unit)))
        (bindK (F_wattleplay_Sector [D.int IntKind.i64 n6]) fun r12 =>
        asOwn r12 fun l13 =>
        sif ((0 : Nat) + List.length l13 ≤ List.length l13) <|
        sif (List.length l4 + (1 : Nat) ≤ (4294967296 : Nat)) <|
        sif (List.length l4 = List.length l4) <|
        letN (IntKind.wrap IntKind.i64 (i5 + (1 : Int))) fun n14 =>
        sif (List.length l4 + (1 : Nat) = List.length (l4 ++ [D.sl Tag.fresh (cut (0 : Nat) (List.length l13) l13)])) <|
        again1 (((l2, i3, l4 ++ [D.sl Tag.fresh (cut (0 : Nat) (List.length l13) l13)], n14, PUnit.unit), PUnit.unit))))
      (sif (List.length l4 = List.length l4) <|
      sif (List.all l4 D.free = true) <|
      some (D.sl Tag.own l4)))
    (((a0, a1, [], (0 : Int), PUnit.unit), PUnit.unit))
theorem G_wattleplay_Sectors (F_wattleplay_Sector : List D → Option D) (tga0 : Tag) (a0 : List D) (a1 : Int) : denP Try.prog (penv' [(ID.wattleplay_Sector, (.pure [1] F_wattleplay_Sector))]) ann_wattleplay_Sectors [1] ID.wattleplay_Sectors [.sl tga0 a0, .int .i64 a1] = g_wattleplay_Sectors F_wattleplay_Sector (D.lentL a0) a1 := by kernel_rfl
theorem F_wattleplay_Sectors_eq (tga0 : Tag) (a0 : List D) (a1 : Int) : F_wattleplay_Sectors [.sl tga0 a0, .int .i64 a1] = g_wattleplay_Sectors F_wattleplay_Sector (D.lentL a0) a1 := G_wattleplay_Sectors F_wattleplay_Sector tga0 a0 a1
def ann_wattleref01_fine : Ann := { loops := [] }
noncomputable def F_wattleref01_fine : List D → Option D := denP Try.prog (penv' [(ID.wattleref01_Check, (.pure [0] F_wattleref01_Check))]) ann_wattleref01_fine [0] ID.wattleref01_fine
theorem sound_wattleref01_fine : Sound Try.prog ID.wattleref01_fine (.pure [0] F_wattleref01_fine) := denP_sound (penv_ok [fact_wattleref01_Check]) mixed ⟨Try.f53, by kernel_rfl, by kernel_rfl, by kernel_rfl⟩
noncomputable def fact_wattleref01_fine : Fact Try.prog := ⟨ID.wattleref01_fine, (.pure [0] F_wattleref01_fine), sound_wattleref01_fine⟩
noncomputable def g_wattleref01_fine (F_wattleref01_Check : List D → Option D) (a0_0 : Int) (a0_1 : Int) (a0_2 : Int) (a1 : Int) : Option D :=
  bindK (F_wattleref01_Check [D.agg [D.int IntKind.i64 a0_0, D.int IntKind.i64 a0_1, D.int IntKind.i64 a0_2]]) fun r1 =>
  asB r1 fun b2 =>
  brK b2
    (brK (decide (a1 ≥ (0 : Int)))
      (some (D.bool (decide (a1 < (16 : Int)))))
      (some (D.bool false)))
    (some (D.bool false))
theorem G_wattleref01_fine (F_wattleref01_Check : List D → Option D) (a0_0 : Int) (a0_1 : Int) (a0_2 : Int) (a1 : Int) : denP Try.prog (penv' [(ID.wattleref01_Check, (.pure [0] F_wattleref01_Check))]) ann_wattleref01_fine [0] ID.wattleref01_fine [.agg [.int .i64 a0_0, .int .i64 a0_1, .int .i64 a0_2], .int .i64 a1] = g_wattleref01_fine F_wattleref01_Check a0_0 a0_1 a0_2 a1 := by kernel_rfl
theorem F_wattleref01_fine_eq (a0_0 : Int) (a0_1 : Int) (a0_2 : Int) (a1 : Int) : F_wattleref01_fine [.agg [.int .i64 a0_0, .int .i64 a0_1, .int .i64 a0_2], .int .i64 a1] = g_wattleref01_fine F_wattleref01_Check a0_0 a0_1 a0_2 a1 := G_wattleref01_fine F_wattleref01_Check a0_0 a0_1 a0_2 a1
def ann_wattleref01_Parity : Ann := { loops := [] }
noncomputable def F_wattleref01_Parity : List D → Option D := denP Try.prog (penv' [(ID.wattleref01_fine, (.pure [0] F_wattleref01_fine))]) ann_wattleref01_Parity [0, 0] ID.wattleref01_Parity
theorem sound_wattleref01_Parity : Sound Try.prog ID.wattleref01_Parity (.pure [0, 0] F_wattleref01_Parity) := denP_sound (penv_ok [fact_wattleref01_fine]) mixed ⟨Try.f58, by kernel_rfl, by kernel_rfl, by kernel_rfl⟩
noncomputable def fact_wattleref01_Parity : Fact Try.prog := ⟨ID.wattleref01_Parity, (.pure [0, 0] F_wattleref01_Parity), sound_wattleref01_Parity⟩
noncomputable def g_wattleref01_Parity (F_wattleref01_fine : List D → Option D) (a0_0 : Int) (a0_1 : Int) (a0_2 : Int) (a1 : Int) : Option D :=
  bindK (F_wattleref01_fine   [D.agg [D.int IntKind.i64 a0_0, D.int IntKind.i64 a0_1, D.int IntKind.i64 a0_2], D.int IntKind.i64 a1]) fun r1 =>
  asB r1 fun b2 =>
  brK (!b2)
    (some (D.tup [D.int IntKind.i64 (-1 : Int), D.int IntKind.i64 (-1 : Int)]))
    (letN (IntKind.wrap IntKind.i64 (a0_1 - (1 : Int))) fun n3 =>
    sif (a0_2 ≠ (0 : Int)) <|
    letN (IntKind.wrap IntKind.i64 (Int.tdiv a1 a0_2)) fun n4 =>
    sif (a0_1 ≠ (0 : Int)) <|
    letN (Int.tmod n4 a0_1) fun n5 =>
    letN (IntKind.wrap IntKind.i64 (n3 - n5)) fun n6 =>
    brK (a0_0 == (5 : Int))
      (some (D.tup [D.int IntKind.i64 n6, D.int IntKind.i64 (-1 : Int)]))
      (letN (IntKind.wrap IntKind.i64 (n6 + (1 : Int))) fun n7 =>
      sif (a0_1 ≠ (0 : Int)) <|
      letN (Int.tmod n7 a0_1) fun n8 =>
      some (D.tup [D.int IntKind.i64 n6, D.int IntKind.i64 n8])))
theorem G_wattleref01_Parity (F_wattleref01_fine : List D → Option D) (a0_0 : Int) (a0_1 : Int) (a0_2 : Int) (a1 : Int) : denP Try.prog (penv' [(ID.wattleref01_fine, (.pure [0] F_wattleref01_fine))]) ann_wattleref01_Parity [0, 0] ID.wattleref01_Parity [.agg [.int .i64 a0_0, .int .i64 a0_1, .int .i64 a0_2], .int .i64 a1] = g_wattleref01_Parity F_wattleref01_fine a0_0 a0_1 a0_2 a1 := by kernel_rfl
theorem F_wattleref01_Parity_eq (a0_0 : Int) (a0_1 : Int) (a0_2 : Int) (a1 : Int) : F_wattleref01_Parity [.agg [.int .i64 a0_0, .int .i64 a0_1, .int .i64 a0_2], .int .i64 a1] = g_wattleref01_Parity F_wattleref01_fine a0_0 a0_1 a0_2 a1 := G_wattleref01_Parity F_wattleref01_fine a0_0 a0_1 a0_2 a1
def ann_wattleref01_Disk : Ann := { loops := [] }
noncomputable def F_wattleref01_Disk : List D → Option D := denP Try.prog (penv' [(ID.wattleref01_fine, (.pure [0] F_wattleref01_fine)), (ID.wattleref01_Width, (.pure [0] F_wattleref01_Width)), (ID.wattleref01_Parity, (.pure [0, 0] F_wattleref01_Parity)), (ID.wattleref01_Budget, (.pure [0] F_wattleref01_Budget))]) ann_wattleref01_Disk [0] ID.wattleref01_Disk
theorem sound_wattleref01_Disk : Sound Try.prog ID.wattleref01_Disk (.pure [0] F_wattleref01_Disk) := denP_sound (penv_ok [fact_wattleref01_fine, fact_wattleref01_Width, fact_wattleref01_Parity, fact_wattleref01_Budget]) mixed ⟨Try.f32, by kernel_rfl, by kernel_rfl, by kernel_rfl⟩
noncomputable def fact_wattleref01_Disk : Fact Try.prog := ⟨ID.wattleref01_Disk, (.pure [0] F_wattleref01_Disk), sound_wattleref01_Disk⟩
noncomputable def g_wattleref01_Disk (F_wattleref01_fine : List D → Option D) (F_wattleref01_Width : List D → Option D) (F_wattleref01_Parity : List D → Option D) (F_wattleref01_Budget : List D → Option D) (a0_0 : Int) (a0_1 : Int) (a0_2 : Int) (a1 : Int) (a2 : Int) : Option D :=
  bindK (F_wattleref01_fine   [D.agg [D.int IntKind.i64 a0_0, D.int IntKind.i64 a0_1, D.int IntKind.i64 a0_2], D.int IntKind.i64 a1]) fun r1 =>
  asB r1 fun b2 =>
  brK (!b2)
    (some (D.int IntKind.i64 (-1 : Int)))
    (brK (decide (a2 < (0 : Int)))
      (some (D.int IntKind.i64 (-1 : Int)))
      (bindK (F_wattleref01_Width [D.agg [D.int IntKind.i64 a0_0, D.int IntKind.i64 a0_1, D.int IntKind.i64 a0_2]]) fun r3 =>
      asI IntKind.i64 r3 fun i4 =>
      brK (decide (a2 ≥ i4))
        (some (D.int IntKind.i64 (-1 : Int)))
        (bindK (F_wattleref01_Parity   [D.agg [D.int IntKind.i64 a0_0, D.int IntKind.i64 a0_1, D.int IntKind.i64 a0_2], D.int IntKind.i64 a1]) fun r5 =>
        asTup r5 fun ts6 =>
        getCells ([Lf.any, Lf.any]) ts6 fun c7 =>
        asI IntKind.i64 c7.fst fun i8 =>
        asI IntKind.i64 c7.snd.fst fun i9 =>
        bindK (F_wattleref01_Budget [D.agg [D.int IntKind.i64 a0_0, D.int IntKind.i64 a0_1, D.int IntKind.i64 a0_2]]) fun r10 =>
        asI IntKind.i64 r10 fun i11 =>
        letN (IntKind.wrap IntKind.i64 (i8 + i11)) fun n12 =>
        letN (IntKind.wrap IntKind.i64 (n12 + a2)) fun n13 =>
        sif (a0_1 ≠ (0 : Int)) <|
        letN (Int.tmod n13 a0_1) fun n14 =>
        some (D.int IntKind.i64 n14))))
theorem G_wattleref01_Disk (F_wattleref01_fine : List D → Option D) (F_wattleref01_Width : List D → Option D) (F_wattleref01_Parity : List D → Option D) (F_wattleref01_Budget : List D → Option D) (a0_0 : Int) (a0_1 : Int) (a0_2 : Int) (a1 : Int) (a2 : Int) : denP Try.prog (penv' [(ID.wattleref01_fine, (.pure [0] F_wattleref01_fine)), (ID.wattleref01_Width, (.pure [0] F_wattleref01_Width)), (ID.wattleref01_Parity, (.pure [0, 0] F_wattleref01_Parity)), (ID.wattleref01_Budget, (.pure [0] F_wattleref01_Budget))]) ann_wattleref01_Disk [0] ID.wattleref01_Disk [.agg [.int .i64 a0_0, .int .i64 a0_1, .int .i64 a0_2], .int .i64 a1, .int .i64 a2] = g_wattleref01_Disk F_wattleref01_fine F_wattleref01_Width F_wattleref01_Parity F_wattleref01_Budget a0_0 a0_1 a0_2 a1 a2 := by kernel_rfl
theorem F_wattleref01_Disk_eq (a0_0 : Int) (a0_1 : Int) (a0_2 : Int) (a1 : Int) (a2 : Int) : F_wattleref01_Disk [.agg [.int .i64 a0_0, .int .i64 a0_1, .int .i64 a0_2], .int .i64 a1, .int .i64 a2] = g_wattleref01_Disk F_wattleref01_fine F_wattleref01_Width F_wattleref01_Parity F_wattleref01_Budget a0_0 a0_1 a0_2 a1 a2 := G_wattleref01_Disk F_wattleref01_fine F_wattleref01_Width F_wattleref01_Parity F_wattleref01_Budget a0_0 a0_1 a0_2 a1 a2
def ann_wattleref01_alike : Ann := { loops := [(0, [.val (.cell .lent), .dead, .dead, .dead, .dead, .val (.cell .lent), .val (.cell (.int .i64)), .val (.cell (.int .i64))])] }
noncomputable def F_wattleref01_alike : List D → Option D := denP Try.prog (penv' []) ann_wattleref01_alike [0] ID.wattleref01_alike
theorem sound_wattleref01_alike : Sound Try.prog ID.wattleref01_alike (.pure [0] F_wattleref01_alike) := denP_sound (penv_ok []) mixed ⟨Try.f84, by kernel_rfl, by kernel_rfl, by kernel_rfl⟩
noncomputable def fact_wattleref01_alike : Fact Try.prog := ⟨ID.wattleref01_alike, (.pure [0] F_wattleref01_alike), sound_wattleref01_alike⟩
noncomputable def g_wattleref01_alike (a0 : List D) : Option D :=
  loopN (α := (List D × List D × Int × Int × PUnit) × PUnit) (fun again1 ((l2, (l3, (i4, (i5, _)))), _) =>
    brK (decide (i5 < i4))
      (sif ((0 : Int) ≤ i5) <|
      getK l3 (Int.toNat i5) fun d6 =>
      asSl d6 fun t7 l8 =>
      getK l2 ((0 : Nat)) fun d9 =>
      asSl d9 fun t10 l11 =>
      brK ((↑(List.length l8) : Int) != (↑(List.length l11) : Int))
        (some (D.bool false))
        (letN (IntKind.wrap IntKind.i64 (i5 + (1 : Int))) fun n12 =>
        again1 (((l2, l3, i4, n12, PUnit.unit), PUnit.unit))))
      (some (D.bool (decide ((↑(List.length l2) : Int) > (0 : Int))))))
    (((a0, a0, (↑(List.length a0) : Int), (0 : Int), PUnit.unit), PUnit.unit))
theorem G_wattleref01_alike (tga0 : Tag) (a0 : List D) : denP Try.prog (penv' []) ann_wattleref01_alike [0] ID.wattleref01_alike [.sl tga0 a0] = g_wattleref01_alike (D.lentL a0) := by kernel_rfl
theorem F_wattleref01_alike_eq (tga0 : Tag) (a0 : List D) : F_wattleref01_alike [.sl tga0 a0] = g_wattleref01_alike (D.lentL a0) := G_wattleref01_alike tga0 a0
def ann_wattleref01_P : Ann := { loops := [(1, [.dead, .dead, .dead, .own 1, .dead, .dead, .dead, .dead, .dead, .dead, .dead, .dead, .dead, .dead, .dead, .dead, .val (.cell .lent), .val (.cell (.int .i64)), .val (.cell (.int .i64))]), (3, [.dead, .dead, .dead, .own 1, .dead, .dead, .dead, .dead, .dead, .dead, .dead, .dead, .dead, .dead, .dead, .dead, .val (.cell .lent), .val (.cell (.int .i64)), .val (.cell (.int .i64)), .dead, .dead, .dead, .val (.cell .sl), .val (.cell (.int .i64)), .val (.cell (.int .i64))])] }
noncomputable def F_wattleref01_P : List D → Option D := denP Try.prog (penv' [(ID.wattleref01_alike, (.pure [0] F_wattleref01_alike))]) ann_wattleref01_P [1] ID.wattleref01_P
theorem sound_wattleref01_P : Sound Try.prog ID.wattleref01_P (.pure [1] F_wattleref01_P) := denP_sound (penv_ok [fact_wattleref01_alike]) mixed ⟨Try.f67, by kernel_rfl, by kernel_rfl, by kernel_rfl⟩
noncomputable def fact_wattleref01_P : Fact Try.prog := ⟨ID.wattleref01_P, (.pure [1] F_wattleref01_P), sound_wattleref01_P⟩
noncomputable def g_wattleref01_P (F_wattleref01_alike : List D → Option D) (a0 : List D) : Option D :=
  bindK (F_wattleref01_alike [D.sl Tag.lent a0]) fun r1 =>
  asB r1 fun b2 =>
  brK (!b2)
    (some (D.sl Tag.own []))
    (getK a0 ((0 : Nat)) fun d3 =>
    asSl d3 fun t4 l5 =>
    sif ((↑(List.length l5) : Int) = (↑(List.length l5) : Int)) <|
    sif ((↑(List.length l5) : Int) * (1 : Int) ≤ (140737488355328 : Int)) <|
    sif ((↑(List.length l5) : Int) ≤ (140737488355328 : Int)) <|
    sif (Int.toNat (↑(List.length l5) : Int) =   List.length (List.replicate (Int.toNat (↑(List.length l5) : Int)) (D.int IntKind.u8 (0 : Int)))) <|
    loopN (α := (List D × List D × Int × Int × PUnit) × PUnit) (fun again6 ((l7, (l8, (i9, (i10, _)))), _) =>
      brK (decide (i10 < i9))
        (sif ((0 : Int) ≤ i10) <|
        getK l8 (Int.toNat i10) fun d11 =>
        asSl d11 fun t12 l13 =>
        sif (List.length l7 = List.length l7) <|
        loopN (α := (List D × List D × Int × Int × (Tag × List D) × Int × Int × PUnit) × PUnit) (fun again14 ((l15, (l16, (i17, (i18, ((t19, l20), (i21, (i22, _))))))), _) =>
          brK (decide (i22 < i21))
            (sif ((0 : Int) ≤ i22) <|
            getK l20 (Int.toNat i22) fun d23 =>
            asI IntKind.u8 d23 fun i24 =>
            sif ((0 : Int) ≤ i22) <|
            sif (Int.toNat i22 < List.length l15) <|
            getK l15 ((0 : Nat) + Int.toNat i22) fun d25 =>
            asI IntKind.u8 d25 fun i26 =>
            letN (bits BinOp.xor IntKind.u8 i26 i24) fun n27 =>
            sif ((0 : Int) ≤ i22) <|
            sif (Int.toNat i22 < List.length l15) <|
            getK l15 ((0 : Nat) + Int.toNat i22) fun d28 =>
            sif (D.isAgg d28 = false) <|
            letN (IntKind.wrap IntKind.i64 (i22 + (1 : Int))) fun n29 =>
            sif (List.length l15 = List.length (List.set l15 ((0 : Nat) + Int.toNat i22) (D.int IntKind.u8 n27))) <|
            again14 (((List.set l15 ((0 : Nat) + Int.toNat i22) (D.int IntKind.u8 n27), l16, i17, i18, (t19, l20), i21, n29, PUnit.unit),   PUnit.unit)))
            (letN (IntKind.wrap IntKind.i64 (i18 + (1 : Int))) fun n30 =>
            sif (List.length l15 = List.length l15) <|
            again6 (((l15, l16, i17, n30, PUnit.unit), PUnit.unit))))
          (((l7, l8, i9, i10, (t12, l13), (↑(List.length l13) : Int), (0 : Int), PUnit.unit), PUnit.unit)))
        (sif (List.length l7 = List.length l7) <|
        sif (List.all l7 D.free = true) <|
        some (D.sl Tag.own l7)))
      (((List.replicate (Int.toNat (↑(List.length l5) : Int)) (D.int IntKind.u8 (0 : Int)), a0, (↑(List.length a0) : Int),     (0 : Int), PUnit.unit),   PUnit.unit)))
theorem G_wattleref01_P (F_wattleref01_alike : List D → Option D) (tga0 : Tag) (a0 : List D) : denP Try.prog (penv' [(ID.wattleref01_alike, (.pure [0] F_wattleref01_alike))]) ann_wattleref01_P [1] ID.wattleref01_P [.sl tga0 a0] = g_wattleref01_P F_wattleref01_alike (D.lentL a0) := by kernel_rfl
theorem F_wattleref01_P_eq (tga0 : Tag) (a0 : List D) : F_wattleref01_P [.sl tga0 a0] = g_wattleref01_P F_wattleref01_alike (D.lentL a0) := G_wattleref01_P F_wattleref01_alike tga0 a0
def ann_wattleref01_Mul : Ann := { loops := [(0, [.dead, .val (.cell (.int .u8)), .dead, .dead, .dead, .val (.cell (.int .i64)), .val (.cell (.int .i64)), .val (.cell (.int .i64))])] }
noncomputable def F_wattleref01_Mul : List D → Option D := denP Try.prog (penv' []) ann_wattleref01_Mul [0] ID.wattleref01_Mul
theorem sound_wattleref01_Mul : Sound Try.prog ID.wattleref01_Mul (.pure [0] F_wattleref01_Mul) := denP_sound (penv_ok []) mixed ⟨Try.f86, by kernel_rfl, by kernel_rfl, by kernel_rfl⟩
noncomputable def fact_wattleref01_Mul : Fact Try.prog := ⟨ID.wattleref01_Mul, (.pure [0] F_wattleref01_Mul), sound_wattleref01_Mul⟩
noncomputable def g_wattleref01_Mul (a0 : Int) (a1 : Int) : Option D :=
  letN (IntKind.wrap IntKind.i64 a0) fun n1 =>
  loopN (α := (Int × Int × Int × Int × PUnit) × PUnit) (fun again2 ((i3, (i4, (i5, (i6, _)))), _) =>
    brK (decide (i6 < (8 : Int)))
      (letN (IntKind.wrap IntKind.u64 i6) fun n7 =>
      sif ((0 : Int) ≤ n7) <|
      letN (Int.fdiv i3 ((2 : Int) ^ min (Int.toNat n7) (8 : Nat))) fun n8 =>
      letN (bits BinOp.and IntKind.u8 n8 (1 : Int)) fun n9 =>
      brK (n9 == (1 : Int))
        (letN (bits BinOp.xor IntKind.i64 i5 i4) fun n10 =>
        letN (IntKind.wrap IntKind.i64 (i4 * (2 : Int))) fun n11 =>
        brK (decide (n11 > (255 : Int)))
          (letN (bits BinOp.xor IntKind.i64 n11 (285 : Int)) fun n12 =>
          letN (IntKind.wrap IntKind.i64 (i6 + (1 : Int))) fun n13 =>
          again2 (((i3, n12, n10, n13, PUnit.unit), PUnit.unit)))
          (letN (IntKind.wrap IntKind.i64 (i6 + (1 : Int))) fun n14 =>
          again2 (((i3, n11, n10, n14, PUnit.unit), PUnit.unit))))
        (letN (IntKind.wrap IntKind.i64 (i4 * (2 : Int))) fun n15 =>
        brK (decide (n15 > (255 : Int)))
          (letN (bits BinOp.xor IntKind.i64 n15 (285 : Int)) fun n16 =>
          letN (IntKind.wrap IntKind.i64 (i6 + (1 : Int))) fun n17 =>
          again2 (((i3, n16, i5, n17, PUnit.unit), PUnit.unit)))
          (letN (IntKind.wrap IntKind.i64 (i6 + (1 : Int))) fun n18 =>
          again2 (((i3, n15, i5, n18, PUnit.unit), PUnit.unit)))))
      (letN (IntKind.wrap IntKind.u8 i5) fun n19 =>
      some (D.int IntKind.u8 n19)))
    (((a1, n1, (0 : Int), (0 : Int), PUnit.unit), PUnit.unit))
theorem G_wattleref01_Mul (a0 : Int) (a1 : Int) : denP Try.prog (penv' []) ann_wattleref01_Mul [0] ID.wattleref01_Mul [.int .u8 a0, .int .u8 a1] = g_wattleref01_Mul a0 a1 := by kernel_rfl
theorem F_wattleref01_Mul_eq (a0 : Int) (a1 : Int) : F_wattleref01_Mul [.int .u8 a0, .int .u8 a1] = g_wattleref01_Mul a0 a1 := G_wattleref01_Mul a0 a1
def ann_wattleref01_Pow : Ann := { loops := [(1, [.val (.cell (.int .i64)), .dead, .dead, .val (.cell (.int .u8))])] }
noncomputable def F_wattleref01_Pow : List D → Option D := denP Try.prog (penv' [(ID.wattleref01_Mul, (.pure [0] F_wattleref01_Mul))]) ann_wattleref01_Pow [0] ID.wattleref01_Pow
theorem sound_wattleref01_Pow : Sound Try.prog ID.wattleref01_Pow (.pure [0] F_wattleref01_Pow) := denP_sound (penv_ok [fact_wattleref01_Mul]) mixed ⟨Try.f85, by kernel_rfl, by kernel_rfl, by kernel_rfl⟩
noncomputable def fact_wattleref01_Pow : Fact Try.prog := ⟨ID.wattleref01_Pow, (.pure [0] F_wattleref01_Pow), sound_wattleref01_Pow⟩
noncomputable def g_wattleref01_Pow (F_wattleref01_Mul : List D → Option D) (a0 : Int) : Option D :=
  letN (Int.tmod a0 (255 : Int)) fun n1 =>
  brK (decide (n1 < (0 : Int)))
    (letN (IntKind.wrap IntKind.i64 (n1 + (255 : Int))) fun n2 =>
    loopN (α := (Int × Int × PUnit) × PUnit) (fun again3 ((i4, (i5, _)), _) =>
      brK (decide (i4 > (0 : Int)))
        (bindK (F_wattleref01_Mul [D.int IntKind.u8 i5, D.int IntKind.u8 (2 : Int)]) fun r6 =>
        asI IntKind.u8 r6 fun i7 =>
        letN (IntKind.wrap IntKind.i64 (i4 - (1 : Int))) fun n8 =>
        again3 (((n8, i7, PUnit.unit), PUnit.unit)))
        (some (D.int IntKind.u8 i5)))
      (((n2, (1 : Int), PUnit.unit), PUnit.unit)))
    (loopN (α := (Int × Int × PUnit) × PUnit) (fun again9 ((i10, (i11, _)), _) =>
      brK (decide (i10 > (0 : Int)))
        (bindK (F_wattleref01_Mul [D.int IntKind.u8 i11, D.int IntKind.u8 (2 : Int)]) fun r12 =>
        asI IntKind.u8 r12 fun i13 =>
        letN (IntKind.wrap IntKind.i64 (i10 - (1 : Int))) fun n14 =>
        again9 (((n14, i13, PUnit.unit), PUnit.unit)))
        (some (D.int IntKind.u8 i11)))
      (((n1, (1 : Int), PUnit.unit), PUnit.unit)))
theorem G_wattleref01_Pow (F_wattleref01_Mul : List D → Option D) (a0 : Int) : denP Try.prog (penv' [(ID.wattleref01_Mul, (.pure [0] F_wattleref01_Mul))]) ann_wattleref01_Pow [0] ID.wattleref01_Pow [.int .i64 a0] = g_wattleref01_Pow F_wattleref01_Mul a0 := by kernel_rfl
theorem F_wattleref01_Pow_eq (a0 : Int) : F_wattleref01_Pow [.int .i64 a0] = g_wattleref01_Pow F_wattleref01_Mul a0 := G_wattleref01_Pow F_wattleref01_Mul a0
def ann_wattleref01_Q : Ann := { loops := [(1, [.dead, .dead, .dead, .own 1, .dead, .dead, .dead, .dead, .dead, .dead, .dead, .dead, .dead, .dead, .dead, .dead, .dead, .val (.cell .lent), .val (.cell (.int .i64)), .val (.cell (.int .i64))]), (3, [.dead, .dead, .dead, .own 1, .dead, .dead, .val (.cell (.int .u8)), .dead, .dead, .dead, .dead, .dead, .dead, .dead, .dead, .dead, .dead, .val (.cell .lent), .val (.cell (.int .i64)), .val (.cell (.int .i64)), .dead, .dead, .dead, .dead, .dead, .dead, .val (.cell .sl), .val (.cell (.int .i64)), .val (.cell (.int .i64))])] }
noncomputable def F_wattleref01_Q : List D → Option D := denP Try.prog (penv' [(ID.wattleref01_alike, (.pure [0] F_wattleref01_alike)), (ID.wattleref01_Pow, (.pure [0] F_wattleref01_Pow)), (ID.wattleref01_Mul, (.pure [0] F_wattleref01_Mul))]) ann_wattleref01_Q [1] ID.wattleref01_Q
theorem sound_wattleref01_Q : Sound Try.prog ID.wattleref01_Q (.pure [1] F_wattleref01_Q) := denP_sound (penv_ok [fact_wattleref01_alike, fact_wattleref01_Pow, fact_wattleref01_Mul]) mixed ⟨Try.f68, by kernel_rfl, by kernel_rfl, by kernel_rfl⟩
noncomputable def fact_wattleref01_Q : Fact Try.prog := ⟨ID.wattleref01_Q, (.pure [1] F_wattleref01_Q), sound_wattleref01_Q⟩
noncomputable def g_wattleref01_Q (F_wattleref01_alike : List D → Option D) (F_wattleref01_Pow : List D → Option D) (F_wattleref01_Mul : List D → Option D) (a0 : List D) : Option D :=
  bindK (F_wattleref01_alike [D.sl Tag.lent a0]) fun r1 =>
  asB r1 fun b2 =>
  brK (!b2)
    (some (D.sl Tag.own []))
    (getK a0 ((0 : Nat)) fun d3 =>
    asSl d3 fun t4 l5 =>
    sif ((↑(List.length l5) : Int) = (↑(List.length l5) : Int)) <|
    sif ((↑(List.length l5) : Int) * (1 : Int) ≤ (140737488355328 : Int)) <|
    sif ((↑(List.length l5) : Int) ≤ (140737488355328 : Int)) <|
    sif (Int.toNat (↑(List.length l5) : Int) =   List.length (List.replicate (Int.toNat (↑(List.length l5) : Int)) (D.int IntKind.u8 (0 : Int)))) <|
    loopN (α := (List D × List D × Int × Int × PUnit) × PUnit) (fun again6 ((l7, (l8, (i9, (i10, _)))), _) =>
      brK (decide (i10 < i9))
        (sif ((0 : Int) ≤ i10) <|
        getK l8 (Int.toNat i10) fun d11 =>
        asSl d11 fun t12 l13 =>
        bindK (F_wattleref01_Pow [D.int IntKind.i64 i10]) fun r14 =>
        asI IntKind.u8 r14 fun i15 =>
        sif (List.length l7 = List.length l7) <|
        loopN (α := (List D × Int × List D × Int × Int × (Tag × List D) × Int × Int × PUnit) × PUnit) (fun again16 ((l17, (i18, (l19, (i20, (i21, ((t22, l23), (i24, (i25, _)))))))), _) =>
          brK (decide (i25 < i24))
            (sif ((0 : Int) ≤ i25) <|
            getK l23 (Int.toNat i25) fun d26 =>
            asI IntKind.u8 d26 fun i27 =>
            sif ((0 : Int) ≤ i25) <|
            sif (Int.toNat i25 < List.length l17) <|
            getK l17 ((0 : Nat) + Int.toNat i25) fun d28 =>
            asI IntKind.u8 d28 fun i29 =>
            bindK (F_wattleref01_Mul [D.int IntKind.u8 i27, D.int IntKind.u8 i18]) fun r30 =>
            asI IntKind.u8 r30 fun i31 =>
            letN (bits BinOp.xor IntKind.u8 i29 i31) fun n32 =>
            sif ((0 : Int) ≤ i25) <|
            sif (Int.toNat i25 < List.length l17) <|
            getK l17 ((0 : Nat) + Int.toNat i25) fun d33 =>
            sif (D.isAgg d33 = false) <|
            letN (IntKind.wrap IntKind.i64 (i25 + (1 : Int))) fun n34 =>
            sif (List.length l17 = List.length (List.set l17 ((0 : Nat) + Int.toNat i25) (D.int IntKind.u8 n32))) <|
            again16 (((List.set l17 ((0 : Nat) + Int.toNat i25) (D.int IntKind.u8 n32), i18, l19, i20, i21, (t22, l23), i24, n34,     PUnit.unit),   PUnit.unit)))
            (letN (IntKind.wrap IntKind.i64 (i21 + (1 : Int))) fun n35 =>
            sif (List.length l17 = List.length l17) <|
            again6 (((l17, l19, i20, n35, PUnit.unit), PUnit.unit))))
          (((l7, i15, l8, i9, i10, (t12, l13), (↑(List.length l13) : Int), (0 : Int), PUnit.unit), PUnit.unit)))
        (sif (List.length l7 = List.length l7) <|
        sif (List.all l7 D.free = true) <|
        some (D.sl Tag.own l7)))
      (((List.replicate (Int.toNat (↑(List.length l5) : Int)) (D.int IntKind.u8 (0 : Int)), a0, (↑(List.length a0) : Int),     (0 : Int), PUnit.unit),   PUnit.unit)))
theorem G_wattleref01_Q (F_wattleref01_alike : List D → Option D) (F_wattleref01_Pow : List D → Option D) (F_wattleref01_Mul : List D → Option D) (tga0 : Tag) (a0 : List D) : denP Try.prog (penv' [(ID.wattleref01_alike, (.pure [0] F_wattleref01_alike)), (ID.wattleref01_Pow, (.pure [0] F_wattleref01_Pow)), (ID.wattleref01_Mul, (.pure [0] F_wattleref01_Mul))]) ann_wattleref01_Q [1] ID.wattleref01_Q [.sl tga0 a0] = g_wattleref01_Q F_wattleref01_alike F_wattleref01_Pow F_wattleref01_Mul (D.lentL a0) := by kernel_rfl
theorem F_wattleref01_Q_eq (tga0 : Tag) (a0 : List D) : F_wattleref01_Q [.sl tga0 a0] = g_wattleref01_Q F_wattleref01_alike F_wattleref01_Pow F_wattleref01_Mul (D.lentL a0) := G_wattleref01_Q F_wattleref01_alike F_wattleref01_Pow F_wattleref01_Mul tga0 a0
def ann_wattleref01_Fill : Ann := { loops := [(1, [.dead, .val (.cell (.int .i64)), .val (.cell .lent), .box true [(.int .i64), (.int .i64), (.int .i64)], .dead, .dead, .dead, .dead, .own 1, .dead, .dead, .dead, .dead, .dead, .dead, .dead, .dead, .dead, .dead, .dead, .dead, .dead, .dead, .dead, .dead, .dead, .dead, .val (.cell .lent), .val (.cell (.int .i64)), .val (.cell (.int .i64))])] }
noncomputable def F_wattleref01_Fill : List D → Option D := denP Try.prog (penv' [(ID.wattleref01_fine, (.pure [0] F_wattleref01_fine)), (ID.wattleref01_Width, (.pure [0] F_wattleref01_Width)), (ID.wattleref01_Disk, (.pure [0] F_wattleref01_Disk)), (ID.wattleref01_Parity, (.pure [0, 0] F_wattleref01_Parity)), (ID.wattleref01_P, (.pure [1] F_wattleref01_P)), (ID.wattleref01_Q, (.pure [1] F_wattleref01_Q))]) ann_wattleref01_Fill [1, 0] ID.wattleref01_Fill
theorem sound_wattleref01_Fill : Sound Try.prog ID.wattleref01_Fill (.pure [1, 0] F_wattleref01_Fill) := denP_sound (penv_ok [fact_wattleref01_fine, fact_wattleref01_Width, fact_wattleref01_Disk, fact_wattleref01_Parity, fact_wattleref01_P, fact_wattleref01_Q]) mixed ⟨Try.f48, by kernel_rfl, by kernel_rfl, by kernel_rfl⟩
noncomputable def fact_wattleref01_Fill : Fact Try.prog := ⟨ID.wattleref01_Fill, (.pure [1, 0] F_wattleref01_Fill), sound_wattleref01_Fill⟩
noncomputable def g_wattleref01_Fill (F_wattleref01_fine : List D → Option D) (F_wattleref01_Width : List D → Option D) (F_wattleref01_Disk : List D → Option D) (F_wattleref01_Parity : List D → Option D) (F_wattleref01_P : List D → Option D) (F_wattleref01_Q : List D → Option D) (a0_0 : Int) (a0_1 : Int) (a0_2 : Int) (a1 : Int) (a2 : List D) : Option D :=
  bindK (F_wattleref01_fine   [D.agg [D.int IntKind.i64 a0_0, D.int IntKind.i64 a0_1, D.int IntKind.i64 a0_2], D.int IntKind.i64 a1]) fun r1 =>
  asB r1 fun b2 =>
  brK (!b2)
    (some (D.tup [D.sl Tag.own [], D.bool false]))
    (bindK (F_wattleref01_Width [D.agg [D.int IntKind.i64 a0_0, D.int IntKind.i64 a0_1, D.int IntKind.i64 a0_2]]) fun r3 =>
    asI IntKind.i64 r3 fun i4 =>
    brK ((↑(List.length a2) : Int) != i4)
      (some (D.tup [D.sl Tag.own [], D.bool false]))
      (sif ((0 : Int) ≤ a0_1) <|
      sif (a0_1 = a0_1) <|
      sif (a0_1 * (24 : Int) ≤ (140737488355328 : Int)) <|
      sif (a0_1 ≤ (140737488355328 : Int)) <|
      sif (Int.toNat a0_1 = List.length (List.replicate (Int.toNat a0_1) (D.sl Tag.nil []))) <|
      loopN (α := (Int × List D × (Int × Int × Int × PUnit) × List D × List D × Int × Int × PUnit) × PUnit) (fun again5 ((i6, (l7, ((i8, (i9, (i10, _))), (l11, (l12, (i13, (i14, _))))))), _) =>
        brK (decide (i14 < i13))
          (sif ((0 : Int) ≤ i14) <|
          getK l12 (Int.toNat i14) fun d15 =>
          asSl d15 fun t16 l17 =>
          brK ((↑(List.length l17) : Int) != (32 : Int))
            (some (D.tup [D.sl Tag.own [], D.bool false]))
            (bindK (F_wattleref01_Disk   [D.agg [D.int IntKind.i64 i8, D.int IntKind.i64 i9, D.int IntKind.i64 i10], D.int IntKind.i64 i6,     D.int IntKind.i64 i14]) fun r18 =>
            asI IntKind.i64 r18 fun i19 =>
            sif (List.length l17 ≤ (4294967296 : Nat)) <|
            sif (okEls (1 : Nat) l17 = true) <|
            sif ((0 : Int) ≤ i19) <|
            sif (Int.toNat i19 < List.length l11) <|
            sif ((0 : Nat) + List.length l17 ≤ List.length l17) <|
            getK l11 ((0 : Nat) + Int.toNat i19) fun d20 =>
            sif ((0 : Nat) + List.length l17 ≤ List.length l17) <|
            sif (D.isAgg d20 = false) <|
            letN (IntKind.wrap IntKind.i64 (i14 + (1 : Int))) fun n21 =>
            sif (List.length l11 =   List.length (List.set l11 ((0 : Nat) + Int.toNat i19) (D.sl Tag.fresh (cut (0 : Nat) (List.length l17) l17)))) <|
            again5 (((i6, l7, (i8, i9, i10, PUnit.unit),     List.set l11 ((0 : Nat) + Int.toNat i19) (D.sl Tag.fresh (cut (0 : Nat) (List.length l17) l17)), l12, i13, n21,     PUnit.unit),   PUnit.unit))))
          (bindK (F_wattleref01_Parity [D.agg [D.int IntKind.i64 i8, D.int IntKind.i64 i9, D.int IntKind.i64 i10], D.int IntKind.i64 i6]) fun r22 =>
          asTup r22 fun ts23 =>
          getCells ([Lf.any, Lf.any]) ts23 fun c24 =>
          asI IntKind.i64 c24.fst fun i25 =>
          asI IntKind.i64 c24.snd.fst fun i26 =>
          bindK (F_wattleref01_P [D.sl Tag.lent l7]) fun r27 =>
          asOwn r27 fun l28 =>
          sif ((0 : Int) ≤ i25) <|
          sif (Int.toNat i25 < List.length l11) <|
          sif ((0 : Nat) + List.length l28 ≤ List.length l28) <|
          getK l11 ((0 : Nat) + Int.toNat i25) fun d29 =>
          sif ((0 : Nat) + List.length l28 ≤ List.length l28) <|
          sif (D.isAgg d29 = false) <|
          brK (decide (i26 ≥ (0 : Int)))
            (bindK (F_wattleref01_Q [D.sl Tag.lent l7]) fun r30 =>
            asOwn r30 fun l31 =>
            sif ((0 : Int) ≤ i26) <|
            sif (Int.toNat i26 < List.length l11) <|
            sif ((0 : Nat) + List.length l31 ≤ List.length l31) <|
            getK (List.set l11 ((0 : Nat) + Int.toNat i25) (D.sl Tag.fresh (cut (0 : Nat) (List.length l28) l28))) ((0 : Nat) + Int.toNat i26) fun d32 =>
            sif ((0 : Nat) + List.length l31 ≤ List.length l31) <|
            sif (D.isAgg d32 = false) <|
            sif (List.length l11 =   List.length     (List.set (List.set l11 ((0 : Nat) + Int.toNat i25) (D.sl Tag.fresh (cut (0 : Nat) (List.length l28) l28)))       ((0 : Nat) + Int.toNat i26) (D.sl Tag.fresh (cut (0 : Nat) (List.length l31) l31)))) <|
            sif (List.all     (List.set (List.set l11 ((0 : Nat) + Int.toNat i25) (D.sl Tag.fresh (cut (0 : Nat) (List.length l28) l28)))       ((0 : Nat) + Int.toNat i26) (D.sl Tag.fresh (cut (0 : Nat) (List.length l31) l31)))     D.free =   true) <|
            some (D.tup   [D.sl Tag.own       (List.set (List.set l11 ((0 : Nat) + Int.toNat i25) (D.sl Tag.fresh (cut (0 : Nat) (List.length l28) l28)))         ((0 : Nat) + Int.toNat i26) (D.sl Tag.fresh (cut (0 : Nat) (List.length l31) l31))),     D.bool true]))
            (sif (List.length l11 =   List.length (List.set l11 ((0 : Nat) + Int.toNat i25) (D.sl Tag.fresh (cut (0 : Nat) (List.length l28) l28)))) <|
            sif (List.all (List.set l11 ((0 : Nat) + Int.toNat i25) (D.sl Tag.fresh (cut (0 : Nat) (List.length l28) l28))) D.free = true) <|
            some (D.tup   [D.sl Tag.own (List.set l11 ((0 : Nat) + Int.toNat i25) (D.sl Tag.fresh (cut (0 : Nat) (List.length l28) l28))),     D.bool true]))))
        (((a1, a2, (a0_0, a0_1, a0_2, PUnit.unit), List.replicate (Int.toNat a0_1) (D.sl Tag.nil []), a2,     (↑(List.length a2) : Int), (0 : Int), PUnit.unit),   PUnit.unit))))
theorem G_wattleref01_Fill (F_wattleref01_fine : List D → Option D) (F_wattleref01_Width : List D → Option D) (F_wattleref01_Disk : List D → Option D) (F_wattleref01_Parity : List D → Option D) (F_wattleref01_P : List D → Option D) (F_wattleref01_Q : List D → Option D) (tga2 : Tag) (a0_0 : Int) (a0_1 : Int) (a0_2 : Int) (a1 : Int) (a2 : List D) : denP Try.prog (penv' [(ID.wattleref01_fine, (.pure [0] F_wattleref01_fine)), (ID.wattleref01_Width, (.pure [0] F_wattleref01_Width)), (ID.wattleref01_Disk, (.pure [0] F_wattleref01_Disk)), (ID.wattleref01_Parity, (.pure [0, 0] F_wattleref01_Parity)), (ID.wattleref01_P, (.pure [1] F_wattleref01_P)), (ID.wattleref01_Q, (.pure [1] F_wattleref01_Q))]) ann_wattleref01_Fill [1, 0] ID.wattleref01_Fill [.agg [.int .i64 a0_0, .int .i64 a0_1, .int .i64 a0_2], .int .i64 a1, .sl tga2 a2] = g_wattleref01_Fill F_wattleref01_fine F_wattleref01_Width F_wattleref01_Disk F_wattleref01_Parity F_wattleref01_P F_wattleref01_Q a0_0 a0_1 a0_2 a1 (D.lentL a2) := by kernel_rfl
theorem F_wattleref01_Fill_eq (tga2 : Tag) (a0_0 : Int) (a0_1 : Int) (a0_2 : Int) (a1 : Int) (a2 : List D) : F_wattleref01_Fill [.agg [.int .i64 a0_0, .int .i64 a0_1, .int .i64 a0_2], .int .i64 a1, .sl tga2 a2] = g_wattleref01_Fill F_wattleref01_fine F_wattleref01_Width F_wattleref01_Disk F_wattleref01_Parity F_wattleref01_P F_wattleref01_Q a0_0 a0_1 a0_2 a1 (D.lentL a2) := G_wattleref01_Fill F_wattleref01_fine F_wattleref01_Width F_wattleref01_Disk F_wattleref01_Parity F_wattleref01_P F_wattleref01_Q tga2 a0_0 a0_1 a0_2 a1 a2
def ann_bench_Bench_is : Ann := { loops := [], ks := [(5312, false)] }
noncomputable def F_bench_Bench_is : List D → List Tb → Option Ans := denS Try.prog (penv' []) ann_bench_Bench_is [0] ID.bench_Bench_is
theorem sound_bench_Bench_is : Sound Try.prog ID.bench_Bench_is (.st [] [0] [(5312, false)] F_bench_Bench_is) := denS_sound (penv_ok []) mixed ⟨Try.f56, by kernel_rfl, by kernel_rfl, by kernel_rfl⟩
noncomputable def fact_bench_Bench_is : Fact Try.prog := ⟨ID.bench_Bench_is, (.st [] [0] [(5312, false)] F_bench_Bench_is), sound_bench_Bench_is⟩
noncomputable def g_bench_Bench_is (a0 : Nat) (a1 : Int) (T0 : Tb) : Option Ans :=
  brK (decide (a1 ≥ (0 : Int)))
    (getK T0 a0 fun d1 =>
    getK d1 ((3 : Nat)) fun d2 =>
    asOwn d2 fun l3 =>
    getK T0 a0 fun d4 =>
    getK d4 ((3 : Nat)) fun d5 =>
    asOwn d5 fun l6 =>
    sif ((0 : Nat) + List.length l3 ≤ List.length l6) <|
    some (Ans.mk (D.bool (decide (a1 < (↑(List.length l3) : Int)))) [] []))
    (some (Ans.mk (D.bool false) [] []))
theorem G_bench_Bench_is (a0 : Nat) (a1 : Int) (T0 : Tb) : denS Try.prog (penv' []) ann_bench_Bench_is [0] ID.bench_Bench_is [.h 5312 a0 0, .int .i64 a1] [T0] = g_bench_Bench_is a0 a1 T0 := by kernel_rfl
theorem F_bench_Bench_is_eq (a0 : Nat) (a1 : Int) (T0 : Tb) : F_bench_Bench_is [.h 5312 a0 0, .int .i64 a1] [T0] = g_bench_Bench_is a0 a1 T0 := G_bench_Bench_is a0 a1 T0
def ann_disk_Disk_may : Ann := { loops := [], ks := [(6561, false)] }
noncomputable def F_disk_Disk_may : List D → List Tb → Option Ans := denS Try.prog (penv' []) ann_disk_Disk_may [0] ID.disk_Disk_may
theorem sound_disk_Disk_may : Sound Try.prog ID.disk_Disk_may (.st [] [0] [(6561, false)] F_disk_Disk_may) := denS_sound (penv_ok []) mixed ⟨Try.f88, by kernel_rfl, by kernel_rfl, by kernel_rfl⟩
noncomputable def fact_disk_Disk_may : Fact Try.prog := ⟨ID.disk_Disk_may, (.st [] [0] [(6561, false)] F_disk_Disk_may), sound_disk_Disk_may⟩
noncomputable def g_disk_Disk_may (a0 : Nat) (a1 : Int) (T0 : Tb) : Option Ans :=
  getK T0 a0 fun d1 =>
  getK d1 ((1665 : Nat)) fun d2 =>
  asB d2 fun b3 =>
  brK b3
    (some (Ans.mk (D.int IntKind.i64 (5 : Int)) [] []))
    (brK (decide (a1 < (0 : Int)))
      (some (Ans.mk (D.int IntKind.i64 (4 : Int)) [] []))
      (brK (decide (a1 ≥ (52 : Int)))
        (some (Ans.mk (D.int IntKind.i64 (4 : Int)) [] []))
        (some (Ans.mk (D.int IntKind.i64 (0 : Int)) [] []))))
theorem G_disk_Disk_may (a0 : Nat) (a1 : Int) (T0 : Tb) : denS Try.prog (penv' []) ann_disk_Disk_may [0] ID.disk_Disk_may [.h 6561 a0 0, .int .i64 a1] [T0] = g_disk_Disk_may a0 a1 T0 := by kernel_rfl
theorem F_disk_Disk_may_eq (a0 : Nat) (a1 : Int) (T0 : Tb) : F_disk_Disk_may [.h 6561 a0 0, .int .i64 a1] [T0] = g_disk_Disk_may a0 a1 T0 := G_disk_Disk_may a0 a1 T0
def ann_disk_Disk_put : Ann := { loops := [], ks := [(6561, false)] }
noncomputable def F_disk_Disk_put : List D → List Tb → Option Ans := denS Try.prog (penv' [(ID.disk_Disk_may, (.st [] [0] [(6561, false)] F_disk_Disk_may))]) ann_disk_Disk_put [0, 0] ID.disk_Disk_put
theorem sound_disk_Disk_put : Sound Try.prog ID.disk_Disk_put (.st [] [0, 0] [(6561, false)] F_disk_Disk_put) := denS_sound (penv_ok [fact_disk_Disk_may]) mixed ⟨Try.f79, by kernel_rfl, by kernel_rfl, by kernel_rfl⟩
noncomputable def fact_disk_Disk_put : Fact Try.prog := ⟨ID.disk_Disk_put, (.st [] [0, 0] [(6561, false)] F_disk_Disk_put), sound_disk_Disk_put⟩
noncomputable def g_disk_Disk_put (F_disk_Disk_may : List D → List Tb → Option Ans) (a0 : Nat) (a1 : Int) (a2 : List D) (T0 : Tb) : Option Ans :=
  bindK (F_disk_Disk_may [D.h (6561 : Nat) a0 (0 : Nat), D.int IntKind.i64 a1] [T0]) fun r1 =>
  nilK r1.outs <|
  nilK r1.tbs <|
  asI IntKind.i64 r1.r fun i2 =>
  brK (i2 != (0 : Int))
    (some (Ans.mk   (D.tup     [D.agg         [D.int IntKind.i64 (0 : Int), D.int IntKind.u8 (0 : Int), D.int IntKind.u8 (0 : Int),           D.int IntKind.u8 (0 : Int), D.int IntKind.u8 (0 : Int), D.int IntKind.u8 (0 : Int),           D.int IntKind.u8 (0 : Int), D.int IntKind.u8 (0 : Int), D.int IntKind.u8 (0 : Int),           D.int IntKind.u8 (0 : Int), D.int IntKind.u8 (0 : Int), D.int IntKind.u8 (0 : Int),           D.int IntKind.u8 (0 : Int), D.int IntKind.u8 (0 : Int), D.int IntKind.u8 (0 : Int),           D.int IntKind.u8 (0 : Int), D.int IntKind.u8 (0 : Int), D.int IntKind.u8 (0 : Int),           D.int IntKind.u8 (0 : Int), D.int IntKind.u8 (0 : Int), D.int IntKind.u8 (0 : Int),           D.int IntKind.u8 (0 : Int), D.int IntKind.u8 (0 : Int), D.int IntKind.u8 (0 : Int),           D.int IntKind.u8 (0 : Int), D.int IntKind.u8 (0 : Int), D.int IntKind.u8 (0 : Int),           D.int IntKind.u8 (0 : Int), D.int IntKind.u8 (0 : Int), D.int IntKind.u8 (0 : Int),           D.int IntKind.u8 (0 : Int), D.int IntKind.u8 (0 : Int), D.int IntKind.u8 (0 : Int)],       D.int IntKind.i64 i2])   [] []))
    (brK ((↑(List.length a2) : Int) != (32 : Int))
      (some (Ans.mk   (D.tup     [D.agg         [D.int IntKind.i64 (0 : Int), D.int IntKind.u8 (0 : Int), D.int IntKind.u8 (0 : Int),           D.int IntKind.u8 (0 : Int), D.int IntKind.u8 (0 : Int), D.int IntKind.u8 (0 : Int),           D.int IntKind.u8 (0 : Int), D.int IntKind.u8 (0 : Int), D.int IntKind.u8 (0 : Int),           D.int IntKind.u8 (0 : Int), D.int IntKind.u8 (0 : Int), D.int IntKind.u8 (0 : Int),           D.int IntKind.u8 (0 : Int), D.int IntKind.u8 (0 : Int), D.int IntKind.u8 (0 : Int),           D.int IntKind.u8 (0 : Int), D.int IntKind.u8 (0 : Int), D.int IntKind.u8 (0 : Int),           D.int IntKind.u8 (0 : Int), D.int IntKind.u8 (0 : Int), D.int IntKind.u8 (0 : Int),           D.int IntKind.u8 (0 : Int), D.int IntKind.u8 (0 : Int), D.int IntKind.u8 (0 : Int),           D.int IntKind.u8 (0 : Int), D.int IntKind.u8 (0 : Int), D.int IntKind.u8 (0 : Int),           D.int IntKind.u8 (0 : Int), D.int IntKind.u8 (0 : Int), D.int IntKind.u8 (0 : Int),           D.int IntKind.u8 (0 : Int), D.int IntKind.u8 (0 : Int), D.int IntKind.u8 (0 : Int)],       D.int IntKind.i64 (1 : Int)])   [] []))
      (sif (cells a2 = true) <|
      sif (List.length a2 = (32 : Nat)) <|
      sif ((33 : Nat) ≤ List.length ([D.int IntKind.i64 a1] ++ (a2 ++ []))) <|
      getCells ([Lf.int IntKind.i64, Lf.arr (32)]) (List.take (33 : Nat) (List.drop (0 : Nat) ([D.int IntKind.i64 a1] ++ (a2 ++ [])))) fun c3 =>
      sif (List.length ([D.int IntKind.i64 c3.fst] ++ (c3.snd.fst ++ [])) = (33 : Nat)) <|
      sif ((33 : Nat) ≤ List.length ([D.int IntKind.i64 c3.fst] ++ (c3.snd.fst ++ []))) <|
      getCells ([Lf.int IntKind.i64, Lf.arr (32)]) (List.take (33 : Nat) (List.drop (0 : Nat) ([D.int IntKind.i64 c3.fst] ++ (c3.snd.fst ++ [])))) fun c4 =>
      sif (D.free (D.agg ([D.int IntKind.i64 c4.fst] ++ (c4.snd.fst ++ []))) = true) <|
      some (Ans.mk (D.tup [D.agg ([D.int IntKind.i64 c4.fst] ++ (c4.snd.fst ++ [])), D.int IntKind.i64 (0 : Int)]) [] [])))
theorem G_disk_Disk_put (F_disk_Disk_may : List D → List Tb → Option Ans) (tga2 : Tag) (a0 : Nat) (a1 : Int) (a2 : List D) (T0 : Tb) : denS Try.prog (penv' [(ID.disk_Disk_may, (.st [] [0] [(6561, false)] F_disk_Disk_may))]) ann_disk_Disk_put [0, 0] ID.disk_Disk_put [.h 6561 a0 0, .int .i64 a1, .sl tga2 a2] [T0] = g_disk_Disk_put F_disk_Disk_may a0 a1 (D.lentL a2) T0 := by kernel_rfl
theorem F_disk_Disk_put_eq (tga2 : Tag) (a0 : Nat) (a1 : Int) (a2 : List D) (T0 : Tb) : F_disk_Disk_put [.h 6561 a0 0, .int .i64 a1, .sl tga2 a2] [T0] = g_disk_Disk_put F_disk_Disk_may a0 a1 (D.lentL a2) T0 := G_disk_Disk_put F_disk_Disk_may tga2 a0 a1 a2 T0
def ann_slices_Clone_disk_write_disk_write : Ann := { loops := [] }
noncomputable def F_slices_Clone_disk_write_disk_write : List D → Option D := denE Try.prog (penv' []) ann_slices_Clone_disk_write_disk_write [33] ID.slices_Clone_disk_write_disk_write
theorem sound_slices_Clone_disk_write_disk_write : Sound Try.prog ID.slices_Clone_disk_write_disk_write (.pure [33] F_slices_Clone_disk_write_disk_write) := denE_sound (penv_ok []) mixed ⟨Try.f81, by kernel_rfl, by kernel_rfl, by kernel_rfl⟩
noncomputable def fact_slices_Clone_disk_write_disk_write : Fact Try.prog := ⟨ID.slices_Clone_disk_write_disk_write, (.pure [33] F_slices_Clone_disk_write_disk_write), sound_slices_Clone_disk_write_disk_write⟩
noncomputable def g_slices_Clone_disk_write_disk_write (a0 : D) (b0 : List D) : Option D :=
  sif (List.length (a0 :: b0) ≤ (4294967296 : Nat)) <|
  sif (okEls (33 : Nat) (a0 :: b0) = true) <|
  sif (List.length (a0 :: b0) = List.length (a0 :: b0)) <|
  sif (List.all (a0 :: b0) D.free = true) <|
  some (D.sl Tag.own (a0 :: b0))
theorem G_slices_Clone_disk_write_disk_write (tga0 : Tag) (a0 : D) (b0 : List D) : denE Try.prog (penv' []) ann_slices_Clone_disk_write_disk_write [33] ID.slices_Clone_disk_write_disk_write [.sl tga0 (a0 :: b0)] = g_slices_Clone_disk_write_disk_write (D.lent a0) (D.lentL b0) := by kernel_rfl
theorem F_slices_Clone_disk_write_disk_write_eq (tga0 : Tag) (a0 : D) (b0 : List D) : F_slices_Clone_disk_write_disk_write [.sl tga0 (a0 :: b0)] = g_slices_Clone_disk_write_disk_write (D.lent a0) (D.lentL b0) := G_slices_Clone_disk_write_disk_write tga0 a0 b0
theorem F_slices_Clone_disk_write_disk_write_nil (tg : Tag) : F_slices_Clone_disk_write_disk_write [.sl tg []] = some (.sl .own []) := (eitherK_same (some (.sl .own [])))
def ann_disk_Disk_Damage_1 : Ann := { loops := [], hints := [(1, .at1 (.int .i64))] }
noncomputable def F_disk_Disk_Damage_1 : List D → Option D := denP Try.prog (penv' []) ann_disk_Disk_Damage_1 [0] ID.disk_Disk_Damage_1
theorem sound_disk_Disk_Damage_1 : Sound Try.prog ID.disk_Disk_Damage_1 (.pure [0] F_disk_Disk_Damage_1) := denP_sound (penv_ok []) mixed ⟨Try.f82, by kernel_rfl, by kernel_rfl, by kernel_rfl⟩
noncomputable def fact_disk_Disk_Damage_1 : Fact Try.prog := ⟨ID.disk_Disk_Damage_1, (.pure [0] F_disk_Disk_Damage_1), sound_disk_Disk_Damage_1⟩
noncomputable def g_disk_Disk_Damage_1 (a0 : List D) (c0 : Int) : Option D :=
  getCells ([Lf.int IntKind.i64, Lf.arr (32)]) a0 fun c1 =>
  some (D.bool (c1.fst == c0))
theorem G_disk_Disk_Damage_1 (a0 : List D) (c0 : Int) : denP Try.prog (penv' []) ann_disk_Disk_Damage_1 [0] ID.disk_Disk_Damage_1 [.agg a0, .at_ (.int .i64 c0)] = g_disk_Disk_Damage_1 (D.lentL a0) c0 := by kernel_rfl
theorem F_disk_Disk_Damage_1_eq (a0 : List D) (c0 : Int) : F_disk_Disk_Damage_1 [.agg a0, .at_ (.int .i64 c0)] = g_disk_Disk_Damage_1 (D.lentL a0) c0 := G_disk_Disk_Damage_1 a0 c0
def ann_slices_IndexFunc_disk_write_disk_write : Ann := { loops := [(0, [.val (.cell .lent), .val (.fn1 (82 : FuncId) (.int .i64)), .dead, .dead, .dead, .dead, .dead, .val (.cell (.int .i64)), .val (.cell (.int .i64))])] }
noncomputable def F_slices_IndexFunc_disk_write_disk_write : List D → Option D := denP Try.prog (penv' [(ID.disk_Disk_Damage_1, (.pure [0] F_disk_Disk_Damage_1))]) ann_slices_IndexFunc_disk_write_disk_write [0] ID.slices_IndexFunc_disk_write_disk_write
theorem sound_slices_IndexFunc_disk_write_disk_write : Sound Try.prog ID.slices_IndexFunc_disk_write_disk_write (.pure [0] F_slices_IndexFunc_disk_write_disk_write) := denP_sound (penv_ok [fact_disk_Disk_Damage_1]) mixed ⟨Try.f96, by kernel_rfl, by kernel_rfl, by kernel_rfl⟩
noncomputable def fact_slices_IndexFunc_disk_write_disk_write : Fact Try.prog := ⟨ID.slices_IndexFunc_disk_write_disk_write, (.pure [0] F_slices_IndexFunc_disk_write_disk_write), sound_slices_IndexFunc_disk_write_disk_write⟩
noncomputable def g_slices_IndexFunc_disk_write_disk_write__Damage (F_disk_Disk_Damage_1 : List D → Option D) (a0 : List D) (c0 : Int) : Option D :=
  loopN (α := (List D × Int × Int × Int × PUnit) × PUnit) (fun again1 ((l2, (i3, (i4, (i5, _)))), _) =>
    brK (decide (i5 < i4))
      (sif ((0 : Int) ≤ i5) <|
      getK l2 (Int.toNat i5) fun d6 =>
      asAgg d6 fun cs7 =>
      getCells ([Lf.int IntKind.i64, Lf.arr (32)]) cs7 fun c8 =>
      sif (D.width (D.agg ([D.int IntKind.i64 c8.fst] ++ (c8.snd.fst ++ []))) = (33 : Nat)) <|
      getCells ([Lf.int IntKind.i64, Lf.arr (32)]) ([D.int IntKind.i64 c8.fst] ++ (c8.snd.fst ++ [])) fun c9 =>
      sif (D.width (D.agg ([D.int IntKind.i64 c9.fst] ++ (c9.snd.fst ++ []))) = (33 : Nat)) <|
      bindK (F_disk_Disk_Damage_1 [D.agg ([D.int IntKind.i64 c9.fst] ++ (c9.snd.fst ++ [])), D.at_ (D.int IntKind.i64 i3)]) fun r10 =>
      asB r10 fun b11 =>
      brK b11
        (some (D.int IntKind.i64 i5))
        (letN (IntKind.wrap IntKind.i64 (i5 + (1 : Int))) fun n12 =>
        again1 (((l2, i3, i4, n12, PUnit.unit), PUnit.unit))))
      (some (D.int IntKind.i64 (-1 : Int))))
    (((a0, c0, (↑(List.length a0) : Int), (0 : Int), PUnit.unit), PUnit.unit))
theorem G_slices_IndexFunc_disk_write_disk_write__Damage (F_disk_Disk_Damage_1 : List D → Option D) (tga0 : Tag) (a0 : List D) (c0 : Int) : denP Try.prog (penv' [(ID.disk_Disk_Damage_1, (.pure [0] F_disk_Disk_Damage_1))]) ann_slices_IndexFunc_disk_write_disk_write [0] ID.slices_IndexFunc_disk_write_disk_write [.sl tga0 a0, .fn 82 [] [.at_ (.int .i64 c0)]] = g_slices_IndexFunc_disk_write_disk_write__Damage F_disk_Disk_Damage_1 (D.lentL a0) c0 := by kernel_rfl
theorem F_slices_IndexFunc_disk_write_disk_write__Damage_eq (tga0 : Tag) (a0 : List D) (c0 : Int) : F_slices_IndexFunc_disk_write_disk_write [.sl tga0 a0, .fn 82 [] [.at_ (.int .i64 c0)]] = g_slices_IndexFunc_disk_write_disk_write__Damage F_disk_Disk_Damage_1 (D.lentL a0) c0 := G_slices_IndexFunc_disk_write_disk_write__Damage F_disk_Disk_Damage_1 tga0 a0 c0
def ann_slices_DeleteFunc_disk_write_disk_write : Ann := { loops := [(1, [.own 33, .val (.fn1 (82 : FuncId) (.int .i64)), .dead, .dead, .dead, .val (.cell (.int .i64)), .val (.cell (.int .i64))])], pms := [(.own, 33)] }
noncomputable def F_slices_DeleteFunc_disk_write_disk_write : List D → List Tb → Option Ans := denS Try.prog (penv' [(ID.slices_IndexFunc_disk_write_disk_write, (.pure [0] F_slices_IndexFunc_disk_write_disk_write)), (ID.disk_Disk_Damage_1, (.pure [0] F_disk_Disk_Damage_1))]) ann_slices_DeleteFunc_disk_write_disk_write [33] ID.slices_DeleteFunc_disk_write_disk_write
theorem sound_slices_DeleteFunc_disk_write_disk_write : Sound Try.prog ID.slices_DeleteFunc_disk_write_disk_write (.st [(.own, 33)] [33] [] F_slices_DeleteFunc_disk_write_disk_write) := denS_sound (penv_ok [fact_slices_IndexFunc_disk_write_disk_write, fact_disk_Disk_Damage_1]) mixed ⟨Try.f80, by kernel_rfl, by kernel_rfl, by kernel_rfl⟩
noncomputable def fact_slices_DeleteFunc_disk_write_disk_write : Fact Try.prog := ⟨ID.slices_DeleteFunc_disk_write_disk_write, (.st [(.own, 33)] [33] [] F_slices_DeleteFunc_disk_write_disk_write), sound_slices_DeleteFunc_disk_write_disk_write⟩
noncomputable def g_slices_DeleteFunc_disk_write_disk_write__Damage (F_slices_IndexFunc_disk_write_disk_write : List D → Option D) (F_disk_Disk_Damage_1 : List D → Option D) (a0 : List D) (c0 : Int) : Option Ans :=
  sif ((0 : Nat) + List.length a0 ≤ List.length a0) <|
  bindK (F_slices_IndexFunc_disk_write_disk_write   [D.sl Tag.lent (cut (0 : Nat) (List.length a0) a0), D.fn (82 : FuncId) [] [D.at_ (D.int IntKind.i64 c0)]]) fun r1 =>
  asI IntKind.i64 r1 fun i2 =>
  brK (i2 == (-1 : Int))
    (sif (List.length a0 = List.length a0) <|
    sif (List.all a0 D.free = true) <|
    some (Ans.mk (D.sl Tag.own a0) [] []))
    (letN (IntKind.wrap IntKind.i64 (i2 + (1 : Int))) fun n3 =>
    none)
theorem G_slices_DeleteFunc_disk_write_disk_write__Damage (F_slices_IndexFunc_disk_write_disk_write : List D → Option D) (F_disk_Disk_Damage_1 : List D → Option D) (a0 : List D) (c0 : Int) : denS Try.prog (penv' [(ID.slices_IndexFunc_disk_write_disk_write, (.pure [0] F_slices_IndexFunc_disk_write_disk_write)), (ID.disk_Disk_Damage_1, (.pure [0] F_disk_Disk_Damage_1))]) ann_slices_DeleteFunc_disk_write_disk_write [33] ID.slices_DeleteFunc_disk_write_disk_write [.sl .own a0, .fn 82 [] [.at_ (.int .i64 c0)]] [] = g_slices_DeleteFunc_disk_write_disk_write__Damage F_slices_IndexFunc_disk_write_disk_write F_disk_Disk_Damage_1 a0 c0 := by kernel_rfl
theorem F_slices_DeleteFunc_disk_write_disk_write__Damage_eq (a0 : List D) (c0 : Int) : F_slices_DeleteFunc_disk_write_disk_write [.sl .own a0, .fn 82 [] [.at_ (.int .i64 c0)]] [] = g_slices_DeleteFunc_disk_write_disk_write__Damage F_slices_IndexFunc_disk_write_disk_write F_disk_Disk_Damage_1 a0 c0 := G_slices_DeleteFunc_disk_write_disk_write__Damage F_slices_IndexFunc_disk_write_disk_write F_disk_Disk_Damage_1 a0 c0
def ann_disk_Disk_Damage : Ann := { loops := [], ks := [(6561, true)] }
noncomputable def F_disk_Disk_Damage : List D → List Tb → Option Ans := denS Try.prog (penv' [(ID.disk_Disk_put, (.st [] [0, 0] [(6561, false)] F_disk_Disk_put)), (ID.slices_Clone_disk_write_disk_write, (.pure [33] F_slices_Clone_disk_write_disk_write)), (ID.slices_DeleteFunc_disk_write_disk_write, (.st [(.own, 33)] [33] [] F_slices_DeleteFunc_disk_write_disk_write))]) ann_disk_Disk_Damage [0] ID.disk_Disk_Damage
theorem sound_disk_Disk_Damage : Sound Try.prog ID.disk_Disk_Damage (.st [] [0] [(6561, true)] F_disk_Disk_Damage) := denS_sound (penv_ok [fact_disk_Disk_put, fact_slices_Clone_disk_write_disk_write, fact_slices_DeleteFunc_disk_write_disk_write]) mixed ⟨Try.f57, by kernel_rfl, by kernel_rfl, by kernel_rfl⟩
noncomputable def fact_disk_Disk_Damage : Fact Try.prog := ⟨ID.disk_Disk_Damage, (.st [] [0] [(6561, true)] F_disk_Disk_Damage), sound_disk_Disk_Damage⟩
noncomputable def g_disk_Disk_Damage (F_disk_Disk_put : List D → List Tb → Option Ans) (F_slices_Clone_disk_write_disk_write : List D → Option D) (F_slices_DeleteFunc_disk_write_disk_write : List D → List Tb → Option Ans) (a0 : Nat) (a1 : Int) (a2 : List D) (T0 : Tb) : Option Ans :=
  bindK (F_disk_Disk_put [D.h (6561 : Nat) a0 (0 : Nat), D.int IntKind.i64 a1, D.sl Tag.lent a2] [T0]) fun r1 =>
  nilK r1.outs <|
  nilK r1.tbs <|
  asTup r1.r fun ts2 =>
  getCells ([Lf.any, Lf.any]) ts2 fun c3 =>
  asAgg c3.fst fun cs4 =>
  getCells ([Lf.int IntKind.i64, Lf.arr (32)]) cs4 fun c5 =>
  asI IntKind.i64 c3.snd.fst fun i6 =>
  sif (List.length ([D.int IntKind.i64 c5.fst] ++ (c5.snd.fst ++ [])) = (33 : Nat)) <|
  brK (i6 != (0 : Int))
    (some (Ans.mk (D.int IntKind.i64 i6) [] [T0]))
    (sif ((33 : Nat) ≤ List.length ([D.int IntKind.i64 c5.fst] ++ (c5.snd.fst ++ []))) <|
    sif (List.length (List.take (32 : Nat) (List.drop (1 : Nat) ([D.int IntKind.i64 c5.fst] ++ (c5.snd.fst ++ [])))) = (32 : Nat)) <|
    sif ((0 : Int) ≤ a1) <|
    sif (Int.toNat a1 < (52 : Nat)) <|
    getK T0 a0 fun d7 =>
    sif ((0 : Nat) + Int.toNat a1 * (32 : Nat) + (32 : Nat) ≤ List.length d7) <|
    sif (List.length (List.take (32 : Nat) (List.drop (1 : Nat) ([D.int IntKind.i64 c5.fst] ++ (c5.snd.fst ++ [])))) = (32 : Nat)) <|
    sif (flats (List.take (32 : Nat) (List.drop (1 : Nat) ([D.int IntKind.i64 c5.fst] ++ (c5.snd.fst ++ [])))) = true) <|
    sif (flats (List.take (32 : Nat) (List.drop ((0 : Nat) + Int.toNat a1 * (32 : Nat)) d7)) = true) <|
    letT (setCells T0 a0 ((0 : Nat) + Int.toNat a1 * (32 : Nat))   (List.take (32 : Nat) (List.drop (1 : Nat) ([D.int IntKind.i64 c5.fst] ++ (c5.snd.fst ++ []))))) fun U8 =>
    getK U8 a0 fun d9 =>
    getK d9 ((1664 : Nat)) fun d10 =>
    asOwn d10 fun l11 =>
    getK U8 a0 fun d12 =>
    getK d12 ((1664 : Nat)) fun d13 =>
    asOwn d13 fun l14 =>
    sif ((0 : Nat) + List.length l11 ≤ List.length l14) <|
    bindK (F_slices_Clone_disk_write_disk_write [D.sl Tag.lent (cut (0 : Nat) (List.length l11) l14)]) fun r15 =>
    asOwn r15 fun l16 =>
    sif (List.length l16 = List.length l16) <|
    sif (flatEls l16 = true) <|
    bindK (F_slices_DeleteFunc_disk_write_disk_write [D.sl Tag.own l16, D.fn (82 : Nat) [] [D.at_ (D.int IntKind.i64 a1)]] []) fun r17 =>
    nilK r17.outs <|
    nilK r17.tbs <|
    asOwn r17.r fun l18 =>
    sif ((0 : Nat) + List.length l18 ≤ List.length l18) <|
    getK U8 a0 fun d19 =>
    sif ((1665 : Nat) ≤ List.length d19) <|
    sif (List.length l18 = List.length l18) <|
    sif (flatEls l18 = true) <|
    sif (okElsW (33 : Nat) l18 = true) <|
    letT (setCells U8 a0 (1664 : Nat) [D.sl Tag.own l18]) fun U20 =>
    some (Ans.mk (D.int IntKind.i64 (0 : Int)) [] [U20]))
theorem G_disk_Disk_Damage (F_disk_Disk_put : List D → List Tb → Option Ans) (F_slices_Clone_disk_write_disk_write : List D → Option D) (F_slices_DeleteFunc_disk_write_disk_write : List D → List Tb → Option Ans) (tga2 : Tag) (a0 : Nat) (a1 : Int) (a2 : List D) (T0 : Tb) : denS Try.prog (penv' [(ID.disk_Disk_put, (.st [] [0, 0] [(6561, false)] F_disk_Disk_put)), (ID.slices_Clone_disk_write_disk_write, (.pure [33] F_slices_Clone_disk_write_disk_write)), (ID.slices_DeleteFunc_disk_write_disk_write, (.st [(.own, 33)] [33] [] F_slices_DeleteFunc_disk_write_disk_write))]) ann_disk_Disk_Damage [0] ID.disk_Disk_Damage [.h 6561 a0 0, .int .i64 a1, .sl tga2 a2] [T0] = g_disk_Disk_Damage F_disk_Disk_put F_slices_Clone_disk_write_disk_write F_slices_DeleteFunc_disk_write_disk_write a0 a1 (D.lentL a2) T0 := by kernel_rfl
theorem F_disk_Disk_Damage_eq (tga2 : Tag) (a0 : Nat) (a1 : Int) (a2 : List D) (T0 : Tb) : F_disk_Disk_Damage [.h 6561 a0 0, .int .i64 a1, .sl tga2 a2] [T0] = g_disk_Disk_Damage F_disk_Disk_put F_slices_Clone_disk_write_disk_write F_slices_DeleteFunc_disk_write_disk_write a0 a1 (D.lentL a2) T0 := G_disk_Disk_Damage F_disk_Disk_put F_slices_Clone_disk_write_disk_write F_slices_DeleteFunc_disk_write_disk_write tga2 a0 a1 a2 T0
def ann_bench_Bench_Damage : Ann := { loops := [], ks := [(5312, false), (6561, true)] }
noncomputable def F_bench_Bench_Damage : List D → List Tb → Option Ans := denS Try.prog (penv' [(ID.bench_Bench_is, (.st [] [0] [(5312, false)] F_bench_Bench_is)), (ID.disk_Disk_Damage, (.st [] [0] [(6561, true)] F_disk_Disk_Damage))]) ann_bench_Bench_Damage [0] ID.bench_Bench_Damage
theorem sound_bench_Bench_Damage : Sound Try.prog ID.bench_Bench_Damage (.st [] [0] [(5312, false), (6561, true)] F_bench_Bench_Damage) := denS_sound (penv_ok [fact_bench_Bench_is, fact_disk_Disk_Damage]) mixed ⟨Try.f31, by kernel_rfl, by kernel_rfl, by kernel_rfl⟩
noncomputable def fact_bench_Bench_Damage : Fact Try.prog := ⟨ID.bench_Bench_Damage, (.st [] [0] [(5312, false), (6561, true)] F_bench_Bench_Damage), sound_bench_Bench_Damage⟩
noncomputable def g_bench_Bench_Damage (F_bench_Bench_is : List D → List Tb → Option Ans) (F_disk_Disk_Damage : List D → List Tb → Option Ans) (a0 : Nat) (a1 : Int) (a2 : Int) (a3 : List D) (T0 : Tb) (T1 : Tb) : Option Ans :=
  bindK (F_bench_Bench_is [D.h (5312 : Nat) a0 (0 : Nat), D.int IntKind.i64 a1] [T0]) fun r1 =>
  nilK r1.outs <|
  nilK r1.tbs <|
  asB r1.r fun b2 =>
  brK (!b2)
    (some (Ans.mk (D.int IntKind.i64 (1 : Int)) [] [T1]))
    (getK T0 a0 fun d3 =>
    getK d3 ((3 : Nat)) fun d4 =>
    asOwn d4 fun l5 =>
    getK T0 a0 fun d6 =>
    getK d6 ((3 : Nat)) fun d7 =>
    asOwn d7 fun l8 =>
    sif ((0 : Int) ≤ a1) <|
    sif (Int.toNat a1 < List.length l5) <|
    getK T0 a0 fun d9 =>
    getK d9 ((3 : Nat)) fun d10 =>
    asOwn d10 fun l11 =>
    getK l11 ((0 : Nat) + Int.toNat a1) fun d12 =>
    sif (D.isAgg d12 = false) <|
    sif (D.width d12 = (1 : Nat)) <|
    sif (D.cell d12 = true) <|
    bindK (F_disk_Disk_Damage [d12, D.int IntKind.i64 a2, D.sl Tag.lent a3] [T1]) fun r13 =>
    nilK r13.outs <|
    consK r13.tbs fun c14 q15 =>
    nilK q15 <|
    asI IntKind.i64 r13.r fun i16 =>
    some (Ans.mk (D.int IntKind.i64 i16) [] [c14]))
theorem G_bench_Bench_Damage (F_bench_Bench_is : List D → List Tb → Option Ans) (F_disk_Disk_Damage : List D → List Tb → Option Ans) (tga3 : Tag) (a0 : Nat) (a1 : Int) (a2 : Int) (a3 : List D) (T0 : Tb) (T1 : Tb) : denS Try.prog (penv' [(ID.bench_Bench_is, (.st [] [0] [(5312, false)] F_bench_Bench_is)), (ID.disk_Disk_Damage, (.st [] [0] [(6561, true)] F_disk_Disk_Damage))]) ann_bench_Bench_Damage [0] ID.bench_Bench_Damage [.h 5312 a0 0, .int .i64 a1, .int .i64 a2, .sl tga3 a3] [T0, T1] = g_bench_Bench_Damage F_bench_Bench_is F_disk_Disk_Damage a0 a1 a2 (D.lentL a3) T0 T1 := by kernel_rfl
theorem F_bench_Bench_Damage_eq (tga3 : Tag) (a0 : Nat) (a1 : Int) (a2 : Int) (a3 : List D) (T0 : Tb) (T1 : Tb) : F_bench_Bench_Damage [.h 5312 a0 0, .int .i64 a1, .int .i64 a2, .sl tga3 a3] [T0, T1] = g_bench_Bench_Damage F_bench_Bench_is F_disk_Disk_Damage a0 a1 a2 (D.lentL a3) T0 T1 := G_bench_Bench_Damage F_bench_Bench_is F_disk_Disk_Damage tga3 a0 a1 a2 a3 T0 T1
def ann_wattlelaw14_Filled : Ann := { loops := [(1, [.dead, .val (.cell (.int .i64)), .val (.cell .lent), .box true [(.int .i64), (.int .i64), (.int .i64)], .dead, .dead, .dead, .ptr 5312, .dead, .val (.cell (.int .i64))]), (3, [.dead, .val (.cell (.int .i64)), .val (.cell .lent), .box true [(.int .i64), (.int .i64), (.int .i64)], .dead, .dead, .dead, .ptr 5312, .dead, .val (.cell (.int .i64)), .own 1, .val (.cell .bool), .val (.cell (.int .i64))])], ks := [(5312, true), (6561, true)] }
noncomputable def F_wattlelaw14_Filled : List D → List Tb → Option Ans := denS Try.prog (penv' [(ID.bench_New, (.st [] [0, 0] [(5312, true), (6561, true)] F_bench_New)), (ID.wattleref01_Width, (.pure [0] F_wattleref01_Width)), (ID.wattleplay_Sectors, (.pure [1] F_wattleplay_Sectors)), (ID.wattleref01_Fill, (.pure [1, 0] F_wattleref01_Fill)), (ID.bench_Bench_Damage, (.st [] [0] [(5312, false), (6561, true)] F_bench_Bench_Damage))]) ann_wattlelaw14_Filled [0] ID.wattlelaw14_Filled
theorem sound_wattlelaw14_Filled : Sound Try.prog ID.wattlelaw14_Filled (.st [] [0] [(5312, true), (6561, true)] F_wattlelaw14_Filled) := denS_sound (penv_ok [fact_bench_New, fact_wattleref01_Width, fact_wattleplay_Sectors, fact_wattleref01_Fill, fact_bench_Bench_Damage]) mixed ⟨Try.f26, by kernel_rfl, by kernel_rfl, by kernel_rfl⟩
noncomputable def fact_wattlelaw14_Filled : Fact Try.prog := ⟨ID.wattlelaw14_Filled, (.st [] [0] [(5312, true), (6561, true)] F_wattlelaw14_Filled), sound_wattlelaw14_Filled⟩
noncomputable def g_wattlelaw14_Filled (F_bench_New : List D → List Tb → Option Ans) (F_wattleref01_Width : List D → Option D) (F_wattleplay_Sectors : List D → Option D) (F_wattleref01_Fill : List D → Option D) (F_bench_Bench_Damage : List D → List Tb → Option Ans) (a0_0 : Int) (a0_1 : Int) (a0_2 : Int) (a1 : Int) (a2 : List D) (T0 : Tb) (T1 : Tb) : Option Ans :=
  bindK (F_bench_New [D.int IntKind.i64 a1] [T0, T1]) fun r1 =>
  nilK r1.outs <|
  consK r1.tbs fun c2 q3 =>
  consK q3 fun c4 q5 =>
  nilK q5 <|
  asTup r1.r fun ts6 =>
  getCells ([Lf.any, Lf.any]) ts6 fun c7 =>
  sif (okData c7.fst = true) <|
  asI IntKind.i64 c7.snd.fst fun i8 =>
  brK (i8 != (0 : Int))
    (some (Ans.mk D.nilp [] [c2, c4]))
    (asNil c7.fst fun b9 =>
    brK b9
      (some (Ans.mk D.nilp [] [c2, c4]))
      (loopN (α := (Int × List D × (Int × Int × Int × PUnit) × D × Int × PUnit) × List (List D) × List (List D) × PUnit) (fun again10 ((i11, (l12, ((i13, (i14, (i15, _))), (x16, (i17, _))))), (U18, (U19, _))) =>
        brK (decide (i17 < (16 : Int)))
          (letN (min i17 (↑(List.length l12) : Int)) fun n20 =>
          sif ((0 : Int) ≤ n20) <|
          sif (n20 ≤ (↑(List.length l12) : Int)) <|
          sif ((↑(List.length l12) : Int) ≤ (↑(List.length l12) : Int)) <|
          sif ((↑(List.length l12) : Int) = (↑(List.length l12) : Int)) <|
          sif (rowOk (1 : Nat) l12 = true) <|
          bindK (F_wattleref01_Width [D.agg [D.int IntKind.i64 i13, D.int IntKind.i64 i14, D.int IntKind.i64 i15]]) fun r21 =>
          asI IntKind.i64 r21 fun i22 =>
          bindK (F_wattleplay_Sectors   [D.sl (sliceTag Tag.lent false (decide ((↑(List.length l12) : Int) = (↑(List.length l12) : Int))))       (cutI n20 (↑(List.length l12) : Int) l12),     D.int IntKind.i64 i22]) fun r23 =>
          asOwn r23 fun l24 =>
          sif ((0 : Nat) + List.length l24 ≤ List.length l24) <|
          bindK (F_wattleref01_Fill   [D.agg [D.int IntKind.i64 i13, D.int IntKind.i64 i14, D.int IntKind.i64 i15], D.int IntKind.i64 i17,     D.sl Tag.lent (cut (0 : Nat) (List.length l24) l24)]) fun r25 =>
          asTup r25 fun ts26 =>
          getCells ([Lf.any, Lf.any]) ts26 fun c27 =>
          asOwn c27.fst fun l28 =>
          asB c27.snd.fst fun b29 =>
          sif (List.length l28 = List.length l28) <|
          loopN (α := (Int × List D × (Int × Int × Int × PUnit) × D × Int × List D × Bool × Int × PUnit) ×   List (List D) × List (List D) × PUnit) (fun again30 ((i31, (l32, ((i33, (i34, (i35, _))), (x36, (i37, (l38, (b39, (i40, _)))))))), (U41, (U42, _))) =>
            brK b39
              (sif ((0 : Nat) + List.length l38 ≤ List.length l38) <|
              brK (decide (i40 < (↑(List.length l38) : Int)))
                (brK (decide (i40 < i31))
                  (letN (IntKind.wrap IntKind.i64 ((36 : Int) + i37)) fun n43 =>
                  sif ((0 : Int) ≤ i40) <|
                  sif (Int.toNat i40 < List.length l38) <|
                  getK l38 ((0 : Nat) + Int.toNat i40) fun d44 =>
                  asSl d44 fun t45 l46 =>
                  bindK (F_bench_Bench_Damage [x36, D.int IntKind.i64 i40, D.int IntKind.i64 n43, D.sl t45 l46] [U41, U42]) fun r47 =>
                  nilK r47.outs <|
                  consK r47.tbs fun c48 q49 =>
                  nilK q49 <|
                  asI IntKind.i64 r47.r fun i50 =>
                  letN (IntKind.wrap IntKind.i64 (i40 + (1 : Int))) fun n51 =>
                  sif (List.length l38 = List.length l38) <|
                  again30 (((i31, l32, (i33, i34, i35, PUnit.unit), x36, i37, l38, b39, n51, PUnit.unit), U41, c48, PUnit.unit)))
                  (letN (IntKind.wrap IntKind.i64 (i37 + (1 : Int))) fun n52 =>
                  again10 (((i31, l32, (i33, i34, i35, PUnit.unit), x36, n52, PUnit.unit), U41, U42, PUnit.unit))))
                (letN (IntKind.wrap IntKind.i64 (i37 + (1 : Int))) fun n53 =>
                again10 (((i31, l32, (i33, i34, i35, PUnit.unit), x36, n53, PUnit.unit), U41, U42, PUnit.unit))))
              (letN (IntKind.wrap IntKind.i64 (i37 + (1 : Int))) fun n54 =>
              again10 (((i31, l32, (i33, i34, i35, PUnit.unit), x36, n54, PUnit.unit), U41, U42, PUnit.unit))))
            (((i11, l12, (i13, i14, i15, PUnit.unit), x16, i17, l28, b29, (0 : Int), PUnit.unit), U18, U19, PUnit.unit)))
          (sif (D.free x16 = true) <|
          some (Ans.mk x16 [] [U18, U19])))
        (((a1, a2, (a0_0, a0_1, a0_2, PUnit.unit), c7.fst, (0 : Int), PUnit.unit), c2, c4, PUnit.unit))))
theorem G_wattlelaw14_Filled (F_bench_New : List D → List Tb → Option Ans) (F_wattleref01_Width : List D → Option D) (F_wattleplay_Sectors : List D → Option D) (F_wattleref01_Fill : List D → Option D) (F_bench_Bench_Damage : List D → List Tb → Option Ans) (tga2 : Tag) (a0_0 : Int) (a0_1 : Int) (a0_2 : Int) (a1 : Int) (a2 : List D) (T0 : Tb) (T1 : Tb) : denS Try.prog (penv' [(ID.bench_New, (.st [] [0, 0] [(5312, true), (6561, true)] F_bench_New)), (ID.wattleref01_Width, (.pure [0] F_wattleref01_Width)), (ID.wattleplay_Sectors, (.pure [1] F_wattleplay_Sectors)), (ID.wattleref01_Fill, (.pure [1, 0] F_wattleref01_Fill)), (ID.bench_Bench_Damage, (.st [] [0] [(5312, false), (6561, true)] F_bench_Bench_Damage))]) ann_wattlelaw14_Filled [0] ID.wattlelaw14_Filled [.agg [.int .i64 a0_0, .int .i64 a0_1, .int .i64 a0_2], .int .i64 a1, .sl tga2 a2] [T0, T1] = g_wattlelaw14_Filled F_bench_New F_wattleref01_Width F_wattleplay_Sectors F_wattleref01_Fill F_bench_Bench_Damage a0_0 a0_1 a0_2 a1 (D.lentL a2) T0 T1 := by kernel_rfl
theorem F_wattlelaw14_Filled_eq (tga2 : Tag) (a0_0 : Int) (a0_1 : Int) (a0_2 : Int) (a1 : Int) (a2 : List D) (T0 : Tb) (T1 : Tb) : F_wattlelaw14_Filled [.agg [.int .i64 a0_0, .int .i64 a0_1, .int .i64 a0_2], .int .i64 a1, .sl tga2 a2] [T0, T1] = g_wattlelaw14_Filled F_bench_New F_wattleref01_Width F_wattleplay_Sectors F_wattleref01_Fill F_bench_Bench_Damage a0_0 a0_1 a0_2 a1 (D.lentL a2) T0 T1 := G_wattlelaw14_Filled F_bench_New F_wattleref01_Width F_wattleplay_Sectors F_wattleref01_Fill F_bench_Bench_Damage tga2 a0_0 a0_1 a0_2 a1 a2 T0 T1
def ann_wattleplay_Live : Ann := { loops := [(0, [.val (.cell (.int .i64)), .val (.cell (.int .i64)), .dead, .dead, .dead, .own 1, .dead, .dead, .dead, .dead, .val (.cell (.int .i64)), .val (.cell (.int .i64))])] }
noncomputable def F_wattleplay_Live : List D → Option D := denP Try.prog (penv' [(ID.wattlekeep_Within, (.pure [0] F_wattlekeep_Within))]) ann_wattleplay_Live [1] ID.wattleplay_Live
theorem sound_wattleplay_Live : Sound Try.prog ID.wattleplay_Live (.pure [1] F_wattleplay_Live) := denP_sound (penv_ok [fact_wattlekeep_Within]) mixed ⟨Try.f27, by kernel_rfl, by kernel_rfl, by kernel_rfl⟩
noncomputable def fact_wattleplay_Live : Fact Try.prog := ⟨ID.wattleplay_Live, (.pure [1] F_wattleplay_Live), sound_wattleplay_Live⟩
noncomputable def g_wattleplay_Live (F_wattlekeep_Within : List D → Option D) (a0 : Int) (a1 : Int) : Option D :=
  sif ((0 : Int) ≤ a1) <|
  sif (a1 = a1) <|
  sif (a1 * (1 : Int) ≤ (140737488355328 : Int)) <|
  sif (a1 ≤ (140737488355328 : Int)) <|
  sif ((0 : Nat) + Int.toNat a1 ≤ List.length (List.replicate (Int.toNat a1) (D.bool false))) <|
  sif (Int.toNat a1 = List.length (List.replicate (Int.toNat a1) (D.bool false))) <|
  loopN (α := (Int × Int × List D × Int × Int × PUnit) × PUnit) (fun again1 ((i2, (i3, (l4, (i5, (i6, _))))), _) =>
    brK (decide (i6 < i5))
      (sif ((0 : Int) ≤ i6) <|
      sif (Int.toNat i6 < List.length l4) <|
      getK l4 ((0 : Nat) + Int.toNat i6) fun d7 =>
      sif (D.isAgg d7 = false) <|
      letN (IntKind.wrap IntKind.i64 (i6 + (1 : Int))) fun n8 =>
      sif (List.length l4 = List.length (List.set l4 ((0 : Nat) + Int.toNat i6) (D.bool true))) <|
      again1 (((i2, i3, List.set l4 ((0 : Nat) + Int.toNat i6) (D.bool true), i5, n8, PUnit.unit), PUnit.unit)))
      (brK (decide (i3 > (0 : Int)))
        (bindK (F_wattlekeep_Within [D.int IntKind.i64 i2, D.int IntKind.i64 (3 : Int)]) fun r9 =>
        asI IntKind.i64 r9 fun i10 =>
        brK (decide (i10 > (0 : Int)))
          (letN (IntKind.wrap IntKind.i64 (Int.tdiv i2 (3 : Int))) fun n11 =>
          bindK (F_wattlekeep_Within [D.int IntKind.i64 n11, D.int IntKind.i64 i3]) fun r12 =>
          asI IntKind.i64 r12 fun i13 =>
          sif ((0 : Int) ≤ i13) <|
          sif (Int.toNat i13 < List.length l4) <|
          getK l4 ((0 : Nat) + Int.toNat i13) fun d14 =>
          sif (D.isAgg d14 = false) <|
          brK (decide (i3 > (0 : Int)))
            (bindK (F_wattlekeep_Within [D.int IntKind.i64 i2, D.int IntKind.i64 (9 : Int)]) fun r15 =>
            asI IntKind.i64 r15 fun i16 =>
            brK (i16 == (8 : Int))
              (letN (IntKind.wrap IntKind.i64 (Int.tdiv i2 (27 : Int))) fun n17 =>
              bindK (F_wattlekeep_Within [D.int IntKind.i64 n17, D.int IntKind.i64 i3]) fun r18 =>
              asI IntKind.i64 r18 fun i19 =>
              sif ((0 : Int) ≤ i19) <|
              sif (Int.toNat i19 < List.length l4) <|
              getK (List.set l4 ((0 : Nat) + Int.toNat i13) (D.bool false)) ((0 : Nat) + Int.toNat i19) fun d20 =>
              sif (D.isAgg d20 = false) <|
              sif (List.length l4 =   List.length     (List.set (List.set l4 ((0 : Nat) + Int.toNat i13) (D.bool false)) ((0 : Nat) + Int.toNat i19) (D.bool false))) <|
              sif (List.all (List.set (List.set l4 ((0 : Nat) + Int.toNat i13) (D.bool false)) ((0 : Nat) + Int.toNat i19) (D.bool false))     D.free =   true) <|
              some (D.sl Tag.own   (List.set (List.set l4 ((0 : Nat) + Int.toNat i13) (D.bool false)) ((0 : Nat) + Int.toNat i19) (D.bool false))))
              (sif (List.length l4 = List.length (List.set l4 ((0 : Nat) + Int.toNat i13) (D.bool false))) <|
              sif (List.all (List.set l4 ((0 : Nat) + Int.toNat i13) (D.bool false)) D.free = true) <|
              some (D.sl Tag.own (List.set l4 ((0 : Nat) + Int.toNat i13) (D.bool false)))))
            (sif (List.length l4 = List.length (List.set l4 ((0 : Nat) + Int.toNat i13) (D.bool false))) <|
            sif (List.all (List.set l4 ((0 : Nat) + Int.toNat i13) (D.bool false)) D.free = true) <|
            some (D.sl Tag.own (List.set l4 ((0 : Nat) + Int.toNat i13) (D.bool false)))))
          (brK (decide (i3 > (0 : Int)))
            (bindK (F_wattlekeep_Within [D.int IntKind.i64 i2, D.int IntKind.i64 (9 : Int)]) fun r21 =>
            asI IntKind.i64 r21 fun i22 =>
            brK (i22 == (8 : Int))
              (letN (IntKind.wrap IntKind.i64 (Int.tdiv i2 (27 : Int))) fun n23 =>
              bindK (F_wattlekeep_Within [D.int IntKind.i64 n23, D.int IntKind.i64 i3]) fun r24 =>
              asI IntKind.i64 r24 fun i25 =>
              sif ((0 : Int) ≤ i25) <|
              sif (Int.toNat i25 < List.length l4) <|
              getK l4 ((0 : Nat) + Int.toNat i25) fun d26 =>
              sif (D.isAgg d26 = false) <|
              sif (List.length l4 = List.length (List.set l4 ((0 : Nat) + Int.toNat i25) (D.bool false))) <|
              sif (List.all (List.set l4 ((0 : Nat) + Int.toNat i25) (D.bool false)) D.free = true) <|
              some (D.sl Tag.own (List.set l4 ((0 : Nat) + Int.toNat i25) (D.bool false))))
              (sif (List.length l4 = List.length l4) <|
              sif (List.all l4 D.free = true) <|
              some (D.sl Tag.own l4)))
            (sif (List.length l4 = List.length l4) <|
            sif (List.all l4 D.free = true) <|
            some (D.sl Tag.own l4))))
        (brK (decide (i3 > (0 : Int)))
          (bindK (F_wattlekeep_Within [D.int IntKind.i64 i2, D.int IntKind.i64 (9 : Int)]) fun r27 =>
          asI IntKind.i64 r27 fun i28 =>
          brK (i28 == (8 : Int))
            (letN (IntKind.wrap IntKind.i64 (Int.tdiv i2 (27 : Int))) fun n29 =>
            bindK (F_wattlekeep_Within [D.int IntKind.i64 n29, D.int IntKind.i64 i3]) fun r30 =>
            asI IntKind.i64 r30 fun i31 =>
            sif ((0 : Int) ≤ i31) <|
            sif (Int.toNat i31 < List.length l4) <|
            getK l4 ((0 : Nat) + Int.toNat i31) fun d32 =>
            sif (D.isAgg d32 = false) <|
            sif (List.length l4 = List.length (List.set l4 ((0 : Nat) + Int.toNat i31) (D.bool false))) <|
            sif (List.all (List.set l4 ((0 : Nat) + Int.toNat i31) (D.bool false)) D.free = true) <|
            some (D.sl Tag.own (List.set l4 ((0 : Nat) + Int.toNat i31) (D.bool false))))
            (sif (List.length l4 = List.length l4) <|
            sif (List.all l4 D.free = true) <|
            some (D.sl Tag.own l4)))
          (sif (List.length l4 = List.length l4) <|
          sif (List.all l4 D.free = true) <|
          some (D.sl Tag.own l4)))))
    (((a0, a1, List.replicate (Int.toNat a1) (D.bool false), (↑(Int.toNat a1) : Int), (0 : Int), PUnit.unit), PUnit.unit))
theorem G_wattleplay_Live (F_wattlekeep_Within : List D → Option D) (a0 : Int) (a1 : Int) : denP Try.prog (penv' [(ID.wattlekeep_Within, (.pure [0] F_wattlekeep_Within))]) ann_wattleplay_Live [1] ID.wattleplay_Live [.int .i64 a0, .int .i64 a1] = g_wattleplay_Live F_wattlekeep_Within a0 a1 := by kernel_rfl
theorem F_wattleplay_Live_eq (a0 : Int) (a1 : Int) : F_wattleplay_Live [.int .i64 a0, .int .i64 a1] = g_wattleplay_Live F_wattlekeep_Within a0 a1 := G_wattleplay_Live F_wattlekeep_Within a0 a1
def ann_slices_Index_int_int : Ann := { loops := [(0, [.val (.cell .lent), .val (.cell (.int .i64)), .dead, .dead, .dead, .dead, .dead, .val (.cell (.int .i64)), .val (.cell (.int .i64))])] }
noncomputable def F_slices_Index_int_int : List D → Option D := denP Try.prog (penv' []) ann_slices_Index_int_int [0] ID.slices_Index_int_int
theorem sound_slices_Index_int_int : Sound Try.prog ID.slices_Index_int_int (.pure [0] F_slices_Index_int_int) := denP_sound (penv_ok []) mixed ⟨Try.f83, by kernel_rfl, by kernel_rfl, by kernel_rfl⟩
noncomputable def fact_slices_Index_int_int : Fact Try.prog := ⟨ID.slices_Index_int_int, (.pure [0] F_slices_Index_int_int), sound_slices_Index_int_int⟩
noncomputable def g_slices_Index_int_int (a0 : List D) (a1 : Int) : Option D :=
  loopN (α := (List D × Int × Int × Int × PUnit) × PUnit) (fun again1 ((l2, (i3, (i4, (i5, _)))), _) =>
    brK (decide (i5 < i4))
      (sif ((0 : Int) ≤ i5) <|
      getK l2 (Int.toNat i5) fun d6 =>
      asI IntKind.i64 d6 fun i7 =>
      brK (i3 == i7)
        (some (D.int IntKind.i64 i5))
        (letN (IntKind.wrap IntKind.i64 (i5 + (1 : Int))) fun n8 =>
        again1 (((l2, i3, i4, n8, PUnit.unit), PUnit.unit))))
      (some (D.int IntKind.i64 (-1 : Int))))
    (((a0, a1, (↑(List.length a0) : Int), (0 : Int), PUnit.unit), PUnit.unit))
theorem G_slices_Index_int_int (tga0 : Tag) (a0 : List D) (a1 : Int) : denP Try.prog (penv' []) ann_slices_Index_int_int [0] ID.slices_Index_int_int [.sl tga0 a0, .int .i64 a1] = g_slices_Index_int_int (D.lentL a0) a1 := by kernel_rfl
theorem F_slices_Index_int_int_eq (tga0 : Tag) (a0 : List D) (a1 : Int) : F_slices_Index_int_int [.sl tga0 a0, .int .i64 a1] = g_slices_Index_int_int (D.lentL a0) a1 := G_slices_Index_int_int tga0 a0 a1
def ann_slices_Contains_int_int : Ann := { loops := [] }
noncomputable def F_slices_Contains_int_int : List D → Option D := denP Try.prog (penv' [(ID.slices_Index_int_int, (.pure [0] F_slices_Index_int_int))]) ann_slices_Contains_int_int [0] ID.slices_Contains_int_int
theorem sound_slices_Contains_int_int : Sound Try.prog ID.slices_Contains_int_int (.pure [0] F_slices_Contains_int_int) := denP_sound (penv_ok [fact_slices_Index_int_int]) mixed ⟨Try.f60, by kernel_rfl, by kernel_rfl, by kernel_rfl⟩
noncomputable def fact_slices_Contains_int_int : Fact Try.prog := ⟨ID.slices_Contains_int_int, (.pure [0] F_slices_Contains_int_int), sound_slices_Contains_int_int⟩
noncomputable def g_slices_Contains_int_int (F_slices_Index_int_int : List D → Option D) (a0 : List D) (a1 : Int) : Option D :=
  bindK (F_slices_Index_int_int [D.sl Tag.lent a0, D.int IntKind.i64 a1]) fun r1 =>
  asI IntKind.i64 r1 fun i2 =>
  some (D.bool (decide (i2 ≥ (0 : Int))))
theorem G_slices_Contains_int_int (F_slices_Index_int_int : List D → Option D) (tga0 : Tag) (a0 : List D) (a1 : Int) : denP Try.prog (penv' [(ID.slices_Index_int_int, (.pure [0] F_slices_Index_int_int))]) ann_slices_Contains_int_int [0] ID.slices_Contains_int_int [.sl tga0 a0, .int .i64 a1] = g_slices_Contains_int_int F_slices_Index_int_int (D.lentL a0) a1 := by kernel_rfl
theorem F_slices_Contains_int_int_eq (tga0 : Tag) (a0 : List D) (a1 : Int) : F_slices_Contains_int_int [.sl tga0 a0, .int .i64 a1] = g_slices_Contains_int_int F_slices_Index_int_int (D.lentL a0) a1 := G_slices_Contains_int_int F_slices_Index_int_int tga0 a0 a1
def ann_geom_Check : Ann := { loops := [] }
noncomputable def F_geom_Check : List D → Option D := denP Try.prog (penv' [(ID.slices_Contains_int_int, (.pure [0] F_slices_Contains_int_int))]) ann_geom_Check [0] ID.geom_Check
theorem sound_geom_Check : Sound Try.prog ID.geom_Check (.pure [0] F_geom_Check) := denP_sound (penv_ok [fact_slices_Contains_int_int]) mixed ⟨Try.f35, by kernel_rfl, by kernel_rfl, by kernel_rfl⟩
noncomputable def fact_geom_Check : Fact Try.prog := ⟨ID.geom_Check, (.pure [0] F_geom_Check), sound_geom_Check⟩
noncomputable def g_geom_Check (F_slices_Contains_int_int : List D → Option D) (a0_0 : Int) (a0_1 : Int) (a0_2 : Int) : Option D :=
  asI IntKind.i64 (lookD a0_0 (D.int IntKind.i64 (0 : Int))   (setD (6 : Int) (D.int IntKind.i64 (4 : Int)) (setD (5 : Int) (D.int IntKind.i64 (3 : Int)) []))) fun i1 =>
  brK (i1 == (0 : Int))
    (some (D.int IntKind.i64 (1 : Int)))
    (brK (decide (a0_1 < i1))
      (some (D.int IntKind.i64 (1 : Int)))
      (brK (decide (a0_1 > (8 : Int)))
        (some (D.int IntKind.i64 (1 : Int)))
        (bindK (F_slices_Contains_int_int   [D.sl Tag.full [D.int IntKind.i64 (1 : Int), D.int IntKind.i64 (2 : Int), D.int IntKind.i64 (4 : Int)],     D.int IntKind.i64 a0_2]) fun r2 =>
        asB r2 fun b3 =>
        brK (!b3)
          (some (D.int IntKind.i64 (1 : Int)))
          (some (D.int IntKind.i64 (0 : Int))))))
theorem G_geom_Check (F_slices_Contains_int_int : List D → Option D) (a0_0 : Int) (a0_1 : Int) (a0_2 : Int) : denP Try.prog (penv' [(ID.slices_Contains_int_int, (.pure [0] F_slices_Contains_int_int))]) ann_geom_Check [0] ID.geom_Check [.agg [.int .i64 a0_0, .int .i64 a0_1, .int .i64 a0_2]] = g_geom_Check F_slices_Contains_int_int a0_0 a0_1 a0_2 := by kernel_rfl
theorem F_geom_Check_eq (a0_0 : Int) (a0_1 : Int) (a0_2 : Int) : F_geom_Check [.agg [.int .i64 a0_0, .int .i64 a0_1, .int .i64 a0_2]] = g_geom_Check F_slices_Contains_int_int a0_0 a0_1 a0_2 := G_geom_Check F_slices_Contains_int_int a0_0 a0_1 a0_2
def ann_bench_Bench_Len : Ann := { loops := [], ks := [(5312, false)] }
noncomputable def F_bench_Bench_Len : List D → List Tb → Option Ans := denS Try.prog (penv' []) ann_bench_Bench_Len [0] ID.bench_Bench_Len
theorem sound_bench_Bench_Len : Sound Try.prog ID.bench_Bench_Len (.st [] [0] [(5312, false)] F_bench_Bench_Len) := denS_sound (penv_ok []) mixed ⟨Try.f69, by kernel_rfl, by kernel_rfl, by kernel_rfl⟩
noncomputable def fact_bench_Bench_Len : Fact Try.prog := ⟨ID.bench_Bench_Len, (.st [] [0] [(5312, false)] F_bench_Bench_Len), sound_bench_Bench_Len⟩
noncomputable def g_bench_Bench_Len (a0 : Nat) (T0 : Tb) : Option Ans :=
  getK T0 a0 fun d1 =>
  getK d1 ((3 : Nat)) fun d2 =>
  asOwn d2 fun l3 =>
  getK T0 a0 fun d4 =>
  getK d4 ((3 : Nat)) fun d5 =>
  asOwn d5 fun l6 =>
  sif ((0 : Nat) + List.length l3 ≤ List.length l6) <|
  some (Ans.mk (D.int IntKind.i64 (↑(List.length l3) : Int)) [] [])
theorem G_bench_Bench_Len (a0 : Nat) (T0 : Tb) : denS Try.prog (penv' []) ann_bench_Bench_Len [0] ID.bench_Bench_Len [.h 5312 a0 0] [T0] = g_bench_Bench_Len a0 T0 := by kernel_rfl
theorem F_bench_Bench_Len_eq (a0 : Nat) (T0 : Tb) : F_bench_Bench_Len [.h 5312 a0 0] [T0] = g_bench_Bench_Len a0 T0 := G_bench_Bench_Len a0 T0
def ann_disk_Disk_Failed : Ann := { loops := [], ks := [(6561, false)] }
noncomputable def F_disk_Disk_Failed : List D → List Tb → Option Ans := denS Try.prog (penv' []) ann_disk_Disk_Failed [0] ID.disk_Disk_Failed
theorem sound_disk_Disk_Failed : Sound Try.prog ID.disk_Disk_Failed (.st [] [0] [(6561, false)] F_disk_Disk_Failed) := denS_sound (penv_ok []) mixed ⟨Try.f87, by kernel_rfl, by kernel_rfl, by kernel_rfl⟩
noncomputable def fact_disk_Disk_Failed : Fact Try.prog := ⟨ID.disk_Disk_Failed, (.st [] [0] [(6561, false)] F_disk_Disk_Failed), sound_disk_Disk_Failed⟩
noncomputable def g_disk_Disk_Failed (a0 : Nat) (T0 : Tb) : Option Ans :=
  getK T0 a0 fun d1 =>
  getK d1 ((1665 : Nat)) fun d2 =>
  asB d2 fun b3 =>
  some (Ans.mk (D.bool b3) [] [])
theorem G_disk_Disk_Failed (a0 : Nat) (T0 : Tb) : denS Try.prog (penv' []) ann_disk_Disk_Failed [0] ID.disk_Disk_Failed [.h 6561 a0 0] [T0] = g_disk_Disk_Failed a0 T0 := by kernel_rfl
theorem F_disk_Disk_Failed_eq (a0 : Nat) (T0 : Tb) : F_disk_Disk_Failed [.h 6561 a0 0] [T0] = g_disk_Disk_Failed a0 T0 := G_disk_Disk_Failed a0 T0
def ann_bench_Bench_Failed : Ann := { loops := [], ks := [(5312, false), (6561, false)] }
noncomputable def F_bench_Bench_Failed : List D → List Tb → Option Ans := denS Try.prog (penv' [(ID.bench_Bench_is, (.st [] [0] [(5312, false)] F_bench_Bench_is)), (ID.disk_Disk_Failed, (.st [] [0] [(6561, false)] F_disk_Disk_Failed))]) ann_bench_Bench_Failed [0] ID.bench_Bench_Failed
theorem sound_bench_Bench_Failed : Sound Try.prog ID.bench_Bench_Failed (.st [] [0] [(5312, false), (6561, false)] F_bench_Bench_Failed) := denS_sound (penv_ok [fact_bench_Bench_is, fact_disk_Disk_Failed]) mixed ⟨Try.f70, by kernel_rfl, by kernel_rfl, by kernel_rfl⟩
noncomputable def fact_bench_Bench_Failed : Fact Try.prog := ⟨ID.bench_Bench_Failed, (.st [] [0] [(5312, false), (6561, false)] F_bench_Bench_Failed), sound_bench_Bench_Failed⟩
noncomputable def g_bench_Bench_Failed (F_bench_Bench_is : List D → List Tb → Option Ans) (F_disk_Disk_Failed : List D → List Tb → Option Ans) (a0 : Nat) (a1 : Int) (T0 : Tb) (T1 : Tb) : Option Ans :=
  bindK (F_bench_Bench_is [D.h (5312 : Nat) a0 (0 : Nat), D.int IntKind.i64 a1] [T0]) fun r1 =>
  nilK r1.outs <|
  nilK r1.tbs <|
  asB r1.r fun b2 =>
  brK b2
    (getK T0 a0 fun d3 =>
    getK d3 ((3 : Nat)) fun d4 =>
    asOwn d4 fun l5 =>
    getK T0 a0 fun d6 =>
    getK d6 ((3 : Nat)) fun d7 =>
    asOwn d7 fun l8 =>
    sif ((0 : Int) ≤ a1) <|
    sif (Int.toNat a1 < List.length l5) <|
    getK T0 a0 fun d9 =>
    getK d9 ((3 : Nat)) fun d10 =>
    asOwn d10 fun l11 =>
    getK l11 ((0 : Nat) + Int.toNat a1) fun d12 =>
    sif (D.isAgg d12 = false) <|
    sif (D.width d12 = (1 : Nat)) <|
    sif (D.cell d12 = true) <|
    bindK (F_disk_Disk_Failed [d12] [T1]) fun r13 =>
    nilK r13.outs <|
    nilK r13.tbs <|
    asB r13.r fun b14 =>
    some (Ans.mk (D.bool b14) [] []))
    (some (Ans.mk (D.bool false) [] []))
theorem G_bench_Bench_Failed (F_bench_Bench_is : List D → List Tb → Option Ans) (F_disk_Disk_Failed : List D → List Tb → Option Ans) (a0 : Nat) (a1 : Int) (T0 : Tb) (T1 : Tb) : denS Try.prog (penv' [(ID.bench_Bench_is, (.st [] [0] [(5312, false)] F_bench_Bench_is)), (ID.disk_Disk_Failed, (.st [] [0] [(6561, false)] F_disk_Disk_Failed))]) ann_bench_Bench_Failed [0] ID.bench_Bench_Failed [.h 5312 a0 0, .int .i64 a1] [T0, T1] = g_bench_Bench_Failed F_bench_Bench_is F_disk_Disk_Failed a0 a1 T0 T1 := by kernel_rfl
theorem F_bench_Bench_Failed_eq (a0 : Nat) (a1 : Int) (T0 : Tb) (T1 : Tb) : F_bench_Bench_Failed [.h 5312 a0 0, .int .i64 a1] [T0, T1] = g_bench_Bench_Failed F_bench_Bench_is F_disk_Disk_Failed a0 a1 T0 T1 := G_bench_Bench_Failed F_bench_Bench_is F_disk_Disk_Failed a0 a1 T0 T1
def ann_stripe_up : Ann := { loops := [], ks := [(5312, false), (6561, false)] }
noncomputable def F_stripe_up : List D → List Tb → Option Ans := denS Try.prog (penv' [(ID.bench_Bench_Len, (.st [] [0] [(5312, false)] F_bench_Bench_Len)), (ID.bench_Bench_Failed, (.st [] [0] [(5312, false), (6561, false)] F_bench_Bench_Failed))]) ann_stripe_up [0] ID.stripe_up
theorem sound_stripe_up : Sound Try.prog ID.stripe_up (.st [] [0] [(5312, false), (6561, false)] F_stripe_up) := denS_sound (penv_ok [fact_bench_Bench_Len, fact_bench_Bench_Failed]) mixed ⟨Try.f50, by kernel_rfl, by kernel_rfl, by kernel_rfl⟩
noncomputable def fact_stripe_up : Fact Try.prog := ⟨ID.stripe_up, (.st [] [0] [(5312, false), (6561, false)] F_stripe_up), sound_stripe_up⟩
noncomputable def g_stripe_up (F_bench_Bench_Len : List D → List Tb → Option Ans) (F_bench_Bench_Failed : List D → List Tb → Option Ans) (a0 : Nat) (a1 : List D) (a2 : Int) (T0 : Tb) (T1 : Tb) : Option Ans :=
  bindK (F_bench_Bench_Len [D.h (5312 : Nat) a0 (0 : Nat)] [T0]) fun r1 =>
  nilK r1.outs <|
  nilK r1.tbs <|
  asI IntKind.i64 r1.r fun i2 =>
  brK (decide (a2 < i2))
    (brK (decide (a2 < (↑(List.length a1) : Int)))
      (sif ((0 : Int) ≤ a2) <|
      getK a1 (Int.toNat a2) fun d3 =>
      asB d3 fun b4 =>
      brK b4
        (bindK (F_bench_Bench_Failed [D.h (5312 : Nat) a0 (0 : Nat), D.int IntKind.i64 a2] [T0, T1]) fun r5 =>
        nilK r5.outs <|
        nilK r5.tbs <|
        asB r5.r fun b6 =>
        some (Ans.mk (D.bool !b6) [] []))
        (some (Ans.mk (D.bool false) [] [])))
      (some (Ans.mk (D.bool false) [] [])))
    (some (Ans.mk (D.bool false) [] []))
theorem G_stripe_up (F_bench_Bench_Len : List D → List Tb → Option Ans) (F_bench_Bench_Failed : List D → List Tb → Option Ans) (tga1 : Tag) (a0 : Nat) (a1 : List D) (a2 : Int) (T0 : Tb) (T1 : Tb) : denS Try.prog (penv' [(ID.bench_Bench_Len, (.st [] [0] [(5312, false)] F_bench_Bench_Len)), (ID.bench_Bench_Failed, (.st [] [0] [(5312, false), (6561, false)] F_bench_Bench_Failed))]) ann_stripe_up [0] ID.stripe_up [.h 5312 a0 0, .sl tga1 a1, .int .i64 a2] [T0, T1] = g_stripe_up F_bench_Bench_Len F_bench_Bench_Failed a0 (D.lentL a1) a2 T0 T1 := by kernel_rfl
theorem F_stripe_up_eq (tga1 : Tag) (a0 : Nat) (a1 : List D) (a2 : Int) (T0 : Tb) (T1 : Tb) : F_stripe_up [.h 5312 a0 0, .sl tga1 a1, .int .i64 a2] [T0, T1] = g_stripe_up F_bench_Bench_Len F_bench_Bench_Failed a0 (D.lentL a1) a2 T0 T1 := G_stripe_up F_bench_Bench_Len F_bench_Bench_Failed tga1 a0 a1 a2 T0 T1
def ann_bench_Bench_may : Ann := { loops := [], ks := [(5312, false)] }
noncomputable def F_bench_Bench_may : List D → List Tb → Option Ans := denS Try.prog (penv' [(ID.bench_Bench_is, (.st [] [0] [(5312, false)] F_bench_Bench_is))]) ann_bench_Bench_may [0] ID.bench_Bench_may
theorem sound_bench_Bench_may : Sound Try.prog ID.bench_Bench_may (.st [] [0] [(5312, false)] F_bench_Bench_may) := denS_sound (penv_ok [fact_bench_Bench_is]) mixed ⟨Try.f71, by kernel_rfl, by kernel_rfl, by kernel_rfl⟩
noncomputable def fact_bench_Bench_may : Fact Try.prog := ⟨ID.bench_Bench_may, (.st [] [0] [(5312, false)] F_bench_Bench_may), sound_bench_Bench_may⟩
noncomputable def g_bench_Bench_may (F_bench_Bench_is : List D → List Tb → Option Ans) (a0 : Nat) (a1 : Int) (T0 : Tb) : Option Ans :=
  bindK (F_bench_Bench_is [D.h (5312 : Nat) a0 (0 : Nat), D.int IntKind.i64 a1] [T0]) fun r1 =>
  nilK r1.outs <|
  nilK r1.tbs <|
  asB r1.r fun b2 =>
  brK (!b2)
    (some (Ans.mk (D.int IntKind.i64 (1 : Int)) [] []))
    (getK T0 a0 fun d3 =>
    getK d3 ((2 : Nat)) fun d4 =>
    asB d4 fun b5 =>
    brK b5
      (some (Ans.mk (D.int IntKind.i64 (6 : Int)) [] []))
      (some (Ans.mk (D.int IntKind.i64 (0 : Int)) [] [])))
theorem G_bench_Bench_may (F_bench_Bench_is : List D → List Tb → Option Ans) (a0 : Nat) (a1 : Int) (T0 : Tb) : denS Try.prog (penv' [(ID.bench_Bench_is, (.st [] [0] [(5312, false)] F_bench_Bench_is))]) ann_bench_Bench_may [0] ID.bench_Bench_may [.h 5312 a0 0, .int .i64 a1] [T0] = g_bench_Bench_may F_bench_Bench_is a0 a1 T0 := by kernel_rfl
theorem F_bench_Bench_may_eq (a0 : Nat) (a1 : Int) (T0 : Tb) : F_bench_Bench_may [.h 5312 a0 0, .int .i64 a1] [T0] = g_bench_Bench_may F_bench_Bench_is a0 a1 T0 := G_bench_Bench_may F_bench_Bench_is a0 a1 T0
def ann_slices_Clone_byte_byte : Ann := { loops := [] }
noncomputable def F_slices_Clone_byte_byte : List D → Option D := denE Try.prog (penv' []) ann_slices_Clone_byte_byte [1] ID.slices_Clone_byte_byte
theorem sound_slices_Clone_byte_byte : Sound Try.prog ID.slices_Clone_byte_byte (.pure [1] F_slices_Clone_byte_byte) := denE_sound (penv_ok []) mixed ⟨Try.f45, by kernel_rfl, by kernel_rfl, by kernel_rfl⟩
noncomputable def fact_slices_Clone_byte_byte : Fact Try.prog := ⟨ID.slices_Clone_byte_byte, (.pure [1] F_slices_Clone_byte_byte), sound_slices_Clone_byte_byte⟩
noncomputable def g_slices_Clone_byte_byte (a0 : D) (b0 : List D) : Option D :=
  sif (List.length (a0 :: b0) ≤ (4294967296 : Nat)) <|
  sif (okEls (1 : Nat) (a0 :: b0) = true) <|
  sif (List.length (a0 :: b0) = List.length (a0 :: b0)) <|
  sif (List.all (a0 :: b0) D.free = true) <|
  some (D.sl Tag.own (a0 :: b0))
theorem G_slices_Clone_byte_byte (tga0 : Tag) (a0 : D) (b0 : List D) : denE Try.prog (penv' []) ann_slices_Clone_byte_byte [1] ID.slices_Clone_byte_byte [.sl tga0 (a0 :: b0)] = g_slices_Clone_byte_byte (D.lent a0) (D.lentL b0) := by kernel_rfl
theorem F_slices_Clone_byte_byte_eq (tga0 : Tag) (a0 : D) (b0 : List D) : F_slices_Clone_byte_byte [.sl tga0 (a0 :: b0)] = g_slices_Clone_byte_byte (D.lent a0) (D.lentL b0) := G_slices_Clone_byte_byte tga0 a0 b0
theorem F_slices_Clone_byte_byte_nil (tg : Tag) : F_slices_Clone_byte_byte [.sl tg []] = some (.sl .own []) := (eitherK_same (some (.sl .own [])))
def ann_disk_Disk_Read : Ann := { loops := [(1, [.dead, .val (.cell (.int .i64)), .dead, .dead, .dead, .dead, .dead, .box true [(.arr 32)], .dead, .dead, .dead, .dead, .dead, .dead, .dead, .dead, .dead, .dead, .dead, .dead, .dead, .dead, .dead, .dead, .dead, .view 6561 1664, .val (.cell (.int .i64)), .val (.cell (.int .i64))])], ks := [(6561, false)] }
noncomputable def F_disk_Disk_Read : List D → List Tb → Option Ans := denS Try.prog (penv' [(ID.disk_Disk_may, (.st [] [0] [(6561, false)] F_disk_Disk_may)), (ID.slices_Clone_byte_byte, (.pure [1] F_slices_Clone_byte_byte))]) ann_disk_Disk_Read [1, 0] ID.disk_Disk_Read
theorem sound_disk_Disk_Read : Sound Try.prog ID.disk_Disk_Read (.st [] [1, 0] [(6561, false)] F_disk_Disk_Read) := denS_sound (penv_ok [fact_disk_Disk_may, fact_slices_Clone_byte_byte]) mixed ⟨Try.f72, by kernel_rfl, by kernel_rfl, by kernel_rfl⟩
noncomputable def fact_disk_Disk_Read : Fact Try.prog := ⟨ID.disk_Disk_Read, (.st [] [1, 0] [(6561, false)] F_disk_Disk_Read), sound_disk_Disk_Read⟩
noncomputable def g_disk_Disk_Read (F_disk_Disk_may : List D → List Tb → Option Ans) (F_slices_Clone_byte_byte : List D → Option D) (a0 : Nat) (a1 : Int) (T0 : Tb) : Option Ans :=
  bindK (F_disk_Disk_may [D.h (6561 : Nat) a0 (0 : Nat), D.int IntKind.i64 a1] [T0]) fun r1 =>
  nilK r1.outs <|
  nilK r1.tbs <|
  asI IntKind.i64 r1.r fun i2 =>
  brK (i2 != (0 : Int))
    (some (Ans.mk (D.tup [D.sl Tag.own [], D.int IntKind.i64 i2]) [] []))
    (sif ((0 : Int) ≤ a1) <|
    sif (Int.toNat a1 < (52 : Nat)) <|
    getK T0 a0 fun d3 =>
    sif ((0 : Nat) + Int.toNat a1 * (32 : Nat) + (32 : Nat) ≤ List.length d3) <|
    sif (flats (List.take (32 : Nat) (List.drop ((0 : Nat) + Int.toNat a1 * (32 : Nat)) d3)) = true) <|
    sif (List.length (List.take (32 : Nat) (List.drop ((0 : Nat) + Int.toNat a1 * (32 : Nat)) d3)) = (32 : Nat)) <|
    sif (List.length (List.take (32 : Nat) (List.drop ((0 : Nat) + Int.toNat a1 * (32 : Nat)) d3)) = (32 : Nat)) <|
    getK T0 a0 fun d4 =>
    getK d4 ((1664 : Nat)) fun d5 =>
    asOwn d5 fun l6 =>
    getK T0 a0 fun d7 =>
    getK d7 ((1664 : Nat)) fun d8 =>
    asOwn d8 fun l9 =>
    sif ((0 : Nat) + List.length l6 ≤ List.length l9) <|
    getCells ([Lf.arr (32)]) (List.take (32 : Nat) (List.drop ((0 : Nat) + Int.toNat a1 * (32 : Nat)) d3)) fun c10 =>
    loopN (α := (Int × (List D × PUnit) × (Nat × Nat × Nat) × Int × Int × PUnit) × List (List D) × PUnit) (fun again11 ((i12, ((l13, _), ((x14, (x15, x16)), (i17, (i18, _))))), (U19, _)) =>
      brK (decide (i18 < i17))
        (getK U19 x14 fun d20 =>
        getK d20 ((1664 : Nat)) fun d21 =>
        asOwn d21 fun l22 =>
        sif ((0 : Int) ≤ i18) <|
        sif (Int.toNat i18 < x16) <|
        getK U19 x14 fun d23 =>
        getK d23 ((1664 : Nat)) fun d24 =>
        asOwn d24 fun l25 =>
        getK l25 (x15 + Int.toNat i18) fun d26 =>
        asAgg d26 fun cs27 =>
        getCells ([Lf.int IntKind.i64, Lf.arr (32)]) cs27 fun c28 =>
        sif (D.width (D.agg ([D.int IntKind.i64 c28.fst] ++ (c28.snd.fst ++ []))) = (33 : Nat)) <|
        sif (List.length ([D.int IntKind.i64 c28.fst] ++ (c28.snd.fst ++ [])) = (33 : Nat)) <|
        brK (c28.fst == i12)
          (sif ((33 : Nat) ≤ List.length ([D.int IntKind.i64 c28.fst] ++ (c28.snd.fst ++ []))) <|
          sif (List.length (List.take (32 : Nat) (List.drop (1 : Nat) ([D.int IntKind.i64 c28.fst] ++ (c28.snd.fst ++ [])))) =   (32 : Nat)) <|
          sif (List.length (List.take (32 : Nat) (List.drop (1 : Nat) ([D.int IntKind.i64 c28.fst] ++ (c28.snd.fst ++ [])))) =   (32 : Nat)) <|
          sif ((32 : Nat) ≤ List.length (l13 ++ [])) <|
          letN (IntKind.wrap IntKind.i64 (i18 + (1 : Int))) fun n29 =>
          getCells ([Lf.arr (32)]) (spl (0 : Nat) (32 : Nat) (l13 ++ [])   (List.take (32 : Nat) (List.drop (1 : Nat) ([D.int IntKind.i64 c28.fst] ++ (c28.snd.fst ++ []))))) fun c30 =>
          again11 (((i12, c30, (x14, x15, x16), i17, n29, PUnit.unit), U19, PUnit.unit)))
          (letN (IntKind.wrap IntKind.i64 (i18 + (1 : Int))) fun n31 =>
          getCells ([Lf.arr (32)]) (l13 ++ []) fun c32 =>
          again11 (((i12, c32, (x14, x15, x16), i17, n31, PUnit.unit), U19, PUnit.unit))))
        (sif ((32 : Nat) ≤ List.length (l13 ++ [])) <|
        sif ((32 : Nat) ≤ List.length (l13 ++ [])) <|
        bindK (F_slices_Clone_byte_byte [D.sl Tag.lent (cut (0 : Nat) (32 : Nat) (l13 ++ []))]) fun r33 =>
        asOwn r33 fun l34 =>
        sif (List.length l34 = List.length l34) <|
        sif (List.all l34 D.free = true) <|
        some (Ans.mk (D.tup [D.sl Tag.own l34, D.int IntKind.i64 (0 : Int)]) [] [])))
      (((a1, c10, (a0, (0 : Nat), List.length l6), (↑(List.length l6) : Int), (0 : Int), PUnit.unit), T0, PUnit.unit)))
theorem G_disk_Disk_Read (F_disk_Disk_may : List D → List Tb → Option Ans) (F_slices_Clone_byte_byte : List D → Option D) (a0 : Nat) (a1 : Int) (T0 : Tb) : denS Try.prog (penv' [(ID.disk_Disk_may, (.st [] [0] [(6561, false)] F_disk_Disk_may)), (ID.slices_Clone_byte_byte, (.pure [1] F_slices_Clone_byte_byte))]) ann_disk_Disk_Read [1, 0] ID.disk_Disk_Read [.h 6561 a0 0, .int .i64 a1] [T0] = g_disk_Disk_Read F_disk_Disk_may F_slices_Clone_byte_byte a0 a1 T0 := by kernel_rfl
theorem F_disk_Disk_Read_eq (a0 : Nat) (a1 : Int) (T0 : Tb) : F_disk_Disk_Read [.h 6561 a0 0, .int .i64 a1] [T0] = g_disk_Disk_Read F_disk_Disk_may F_slices_Clone_byte_byte a0 a1 T0 := G_disk_Disk_Read F_disk_Disk_may F_slices_Clone_byte_byte a0 a1 T0
def ann_bench_Bench_Read : Ann := { loops := [], ks := [(5312, false), (6561, false)] }
noncomputable def F_bench_Bench_Read : List D → List Tb → Option Ans := denS Try.prog (penv' [(ID.bench_Bench_may, (.st [] [0] [(5312, false)] F_bench_Bench_may)), (ID.disk_Disk_Read, (.st [] [1, 0] [(6561, false)] F_disk_Disk_Read))]) ann_bench_Bench_Read [1, 0] ID.bench_Bench_Read
theorem sound_bench_Bench_Read : Sound Try.prog ID.bench_Bench_Read (.st [] [1, 0] [(5312, false), (6561, false)] F_bench_Bench_Read) := denS_sound (penv_ok [fact_bench_Bench_may, fact_disk_Disk_Read]) mixed ⟨Try.f51, by kernel_rfl, by kernel_rfl, by kernel_rfl⟩
noncomputable def fact_bench_Bench_Read : Fact Try.prog := ⟨ID.bench_Bench_Read, (.st [] [1, 0] [(5312, false), (6561, false)] F_bench_Bench_Read), sound_bench_Bench_Read⟩
noncomputable def g_bench_Bench_Read (F_bench_Bench_may : List D → List Tb → Option Ans) (F_disk_Disk_Read : List D → List Tb → Option Ans) (a0 : Nat) (a1 : Int) (a2 : Int) (T0 : Tb) (T1 : Tb) : Option Ans :=
  bindK (F_bench_Bench_may [D.h (5312 : Nat) a0 (0 : Nat), D.int IntKind.i64 a1] [T0]) fun r1 =>
  nilK r1.outs <|
  nilK r1.tbs <|
  asI IntKind.i64 r1.r fun i2 =>
  brK (i2 != (0 : Int))
    (some (Ans.mk (D.tup [D.sl Tag.own [], D.int IntKind.i64 i2]) [] []))
    (getK T0 a0 fun d3 =>
    getK d3 ((3 : Nat)) fun d4 =>
    asOwn d4 fun l5 =>
    getK T0 a0 fun d6 =>
    getK d6 ((3 : Nat)) fun d7 =>
    asOwn d7 fun l8 =>
    sif ((0 : Int) ≤ a1) <|
    sif (Int.toNat a1 < List.length l5) <|
    getK T0 a0 fun d9 =>
    getK d9 ((3 : Nat)) fun d10 =>
    asOwn d10 fun l11 =>
    getK l11 ((0 : Nat) + Int.toNat a1) fun d12 =>
    sif (D.isAgg d12 = false) <|
    sif (D.width d12 = (1 : Nat)) <|
    sif (D.cell d12 = true) <|
    bindK (F_disk_Disk_Read [d12, D.int IntKind.i64 a2] [T1]) fun r13 =>
    nilK r13.outs <|
    nilK r13.tbs <|
    asTup r13.r fun ts14 =>
    getCells ([Lf.any, Lf.any]) ts14 fun c15 =>
    asOwn c15.fst fun l16 =>
    asI IntKind.i64 c15.snd.fst fun i17 =>
    sif (List.length l16 = List.length l16) <|
    sif (List.all l16 D.free = true) <|
    some (Ans.mk (D.tup [D.sl Tag.own l16, D.int IntKind.i64 i17]) [] []))
theorem G_bench_Bench_Read (F_bench_Bench_may : List D → List Tb → Option Ans) (F_disk_Disk_Read : List D → List Tb → Option Ans) (a0 : Nat) (a1 : Int) (a2 : Int) (T0 : Tb) (T1 : Tb) : denS Try.prog (penv' [(ID.bench_Bench_may, (.st [] [0] [(5312, false)] F_bench_Bench_may)), (ID.disk_Disk_Read, (.st [] [1, 0] [(6561, false)] F_disk_Disk_Read))]) ann_bench_Bench_Read [1, 0] ID.bench_Bench_Read [.h 5312 a0 0, .int .i64 a1, .int .i64 a2] [T0, T1] = g_bench_Bench_Read F_bench_Bench_may F_disk_Disk_Read a0 a1 a2 T0 T1 := by kernel_rfl
theorem F_bench_Bench_Read_eq (a0 : Nat) (a1 : Int) (a2 : Int) (T0 : Tb) (T1 : Tb) : F_bench_Bench_Read [.h 5312 a0 0, .int .i64 a1, .int .i64 a2] [T0, T1] = g_bench_Bench_Read F_bench_Bench_may F_disk_Disk_Read a0 a1 a2 T0 T1 := G_bench_Bench_Read F_bench_Bench_may F_disk_Disk_Read a0 a1 a2 T0 T1
def ann_row_in : Ann := { loops := [] }
noncomputable def F_row_in : List D → Option D := denP Try.prog (penv' [(ID.geom_Check, (.pure [0] F_geom_Check))]) ann_row_in [0] ID.row_in
theorem sound_row_in : Sound Try.prog ID.row_in (.pure [0] F_row_in) := denP_sound (penv_ok [fact_geom_Check]) mixed ⟨Try.f73, by kernel_rfl, by kernel_rfl, by kernel_rfl⟩
noncomputable def fact_row_in : Fact Try.prog := ⟨ID.row_in, (.pure [0] F_row_in), sound_row_in⟩
noncomputable def g_row_in (F_geom_Check : List D → Option D) (a0_0 : Int) (a0_1 : Int) (a0_2 : Int) (a1 : Int) : Option D :=
  bindK (F_geom_Check [D.agg [D.int IntKind.i64 a0_0, D.int IntKind.i64 a0_1, D.int IntKind.i64 a0_2]]) fun r1 =>
  asI IntKind.i64 r1 fun i2 =>
  brK (i2 == (0 : Int))
    (brK (decide (a1 ≥ (0 : Int)))
      (some (D.bool (decide (a1 < (16 : Int)))))
      (some (D.bool false)))
    (some (D.bool false))
theorem G_row_in (F_geom_Check : List D → Option D) (a0_0 : Int) (a0_1 : Int) (a0_2 : Int) (a1 : Int) : denP Try.prog (penv' [(ID.geom_Check, (.pure [0] F_geom_Check))]) ann_row_in [0] ID.row_in [.agg [.int .i64 a0_0, .int .i64 a0_1, .int .i64 a0_2], .int .i64 a1] = g_row_in F_geom_Check a0_0 a0_1 a0_2 a1 := by kernel_rfl
theorem F_row_in_eq (a0_0 : Int) (a0_1 : Int) (a0_2 : Int) (a1 : Int) : F_row_in [.agg [.int .i64 a0_0, .int .i64 a0_1, .int .i64 a0_2], .int .i64 a1] = g_row_in F_geom_Check a0_0 a0_1 a0_2 a1 := G_row_in F_geom_Check a0_0 a0_1 a0_2 a1
def ann_geom_Budget : Ann := { loops := [] }
noncomputable def F_geom_Budget : List D → Option D := denP Try.prog (penv' [(ID.geom_Check, (.pure [0] F_geom_Check))]) ann_geom_Budget [0] ID.geom_Budget
theorem sound_geom_Budget : Sound Try.prog ID.geom_Budget (.pure [0] F_geom_Budget) := denP_sound (penv_ok [fact_geom_Check]) mixed ⟨Try.f61, by kernel_rfl, by kernel_rfl, by kernel_rfl⟩
noncomputable def fact_geom_Budget : Fact Try.prog := ⟨ID.geom_Budget, (.pure [0] F_geom_Budget), sound_geom_Budget⟩
noncomputable def g_geom_Budget (F_geom_Check : List D → Option D) (a0_0 : Int) (a0_1 : Int) (a0_2 : Int) : Option D :=
  bindK (F_geom_Check [D.agg [D.int IntKind.i64 a0_0, D.int IntKind.i64 a0_1, D.int IntKind.i64 a0_2]]) fun r1 =>
  asI IntKind.i64 r1 fun i2 =>
  brK (i2 != (0 : Int))
    (some (D.int IntKind.i64 (0 : Int)))
    (letN (IntKind.wrap IntKind.i64 (a0_0 - (4 : Int))) fun n3 =>
    some (D.int IntKind.i64 n3))
theorem G_geom_Budget (F_geom_Check : List D → Option D) (a0_0 : Int) (a0_1 : Int) (a0_2 : Int) : denP Try.prog (penv' [(ID.geom_Check, (.pure [0] F_geom_Check))]) ann_geom_Budget [0] ID.geom_Budget [.agg [.int .i64 a0_0, .int .i64 a0_1, .int .i64 a0_2]] = g_geom_Budget F_geom_Check a0_0 a0_1 a0_2 := by kernel_rfl
theorem F_geom_Budget_eq (a0_0 : Int) (a0_1 : Int) (a0_2 : Int) : F_geom_Budget [.agg [.int .i64 a0_0, .int .i64 a0_1, .int .i64 a0_2]] = g_geom_Budget F_geom_Check a0_0 a0_1 a0_2 := G_geom_Budget F_geom_Check a0_0 a0_1 a0_2
def ann_geom_Width : Ann := { loops := [] }
noncomputable def F_geom_Width : List D → Option D := denP Try.prog (penv' [(ID.geom_Check, (.pure [0] F_geom_Check)), (ID.geom_Budget, (.pure [0] F_geom_Budget))]) ann_geom_Width [0] ID.geom_Width
theorem sound_geom_Width : Sound Try.prog ID.geom_Width (.pure [0] F_geom_Width) := denP_sound (penv_ok [fact_geom_Check, fact_geom_Budget]) mixed ⟨Try.f62, by kernel_rfl, by kernel_rfl, by kernel_rfl⟩
noncomputable def fact_geom_Width : Fact Try.prog := ⟨ID.geom_Width, (.pure [0] F_geom_Width), sound_geom_Width⟩
noncomputable def g_geom_Width (F_geom_Check : List D → Option D) (F_geom_Budget : List D → Option D) (a0_0 : Int) (a0_1 : Int) (a0_2 : Int) : Option D :=
  bindK (F_geom_Check [D.agg [D.int IntKind.i64 a0_0, D.int IntKind.i64 a0_1, D.int IntKind.i64 a0_2]]) fun r1 =>
  asI IntKind.i64 r1 fun i2 =>
  brK (i2 != (0 : Int))
    (some (D.int IntKind.i64 (0 : Int)))
    (bindK (F_geom_Budget [D.agg [D.int IntKind.i64 a0_0, D.int IntKind.i64 a0_1, D.int IntKind.i64 a0_2]]) fun r3 =>
    asI IntKind.i64 r3 fun i4 =>
    letN (IntKind.wrap IntKind.i64 (a0_1 - i4)) fun n5 =>
    some (D.int IntKind.i64 n5))
theorem G_geom_Width (F_geom_Check : List D → Option D) (F_geom_Budget : List D → Option D) (a0_0 : Int) (a0_1 : Int) (a0_2 : Int) : denP Try.prog (penv' [(ID.geom_Check, (.pure [0] F_geom_Check)), (ID.geom_Budget, (.pure [0] F_geom_Budget))]) ann_geom_Width [0] ID.geom_Width [.agg [.int .i64 a0_0, .int .i64 a0_1, .int .i64 a0_2]] = g_geom_Width F_geom_Check F_geom_Budget a0_0 a0_1 a0_2 := by kernel_rfl
theorem F_geom_Width_eq (a0_0 : Int) (a0_1 : Int) (a0_2 : Int) : F_geom_Width [.agg [.int .i64 a0_0, .int .i64 a0_1, .int .i64 a0_2]] = g_geom_Width F_geom_Check F_geom_Budget a0_0 a0_1 a0_2 := G_geom_Width F_geom_Check F_geom_Budget a0_0 a0_1 a0_2
def ann_place_in : Ann := { loops := [] }
noncomputable def F_place_in : List D → Option D := denP Try.prog (penv' [(ID.geom_Check, (.pure [0] F_geom_Check))]) ann_place_in [0] ID.place_in
theorem sound_place_in : Sound Try.prog ID.place_in (.pure [0] F_place_in) := denP_sound (penv_ok [fact_geom_Check]) mixed ⟨Try.f77, by kernel_rfl, by kernel_rfl, by kernel_rfl⟩
noncomputable def fact_place_in : Fact Try.prog := ⟨ID.place_in, (.pure [0] F_place_in), sound_place_in⟩
noncomputable def g_place_in (F_geom_Check : List D → Option D) (a0_0 : Int) (a0_1 : Int) (a0_2 : Int) (a1 : Int) : Option D :=
  bindK (F_geom_Check [D.agg [D.int IntKind.i64 a0_0, D.int IntKind.i64 a0_1, D.int IntKind.i64 a0_2]]) fun r1 =>
  asI IntKind.i64 r1 fun i2 =>
  brK (i2 == (0 : Int))
    (brK (decide (a1 ≥ (0 : Int)))
      (some (D.bool (decide (a1 < (16 : Int)))))
      (some (D.bool false)))
    (some (D.bool false))
theorem G_place_in (F_geom_Check : List D → Option D) (a0_0 : Int) (a0_1 : Int) (a0_2 : Int) (a1 : Int) : denP Try.prog (penv' [(ID.geom_Check, (.pure [0] F_geom_Check))]) ann_place_in [0] ID.place_in [.agg [.int .i64 a0_0, .int .i64 a0_1, .int .i64 a0_2], .int .i64 a1] = g_place_in F_geom_Check a0_0 a0_1 a0_2 a1 := by kernel_rfl
theorem F_place_in_eq (a0_0 : Int) (a0_1 : Int) (a0_2 : Int) (a1 : Int) : F_place_in [.agg [.int .i64 a0_0, .int .i64 a0_1, .int .i64 a0_2], .int .i64 a1] = g_place_in F_geom_Check a0_0 a0_1 a0_2 a1 := G_place_in F_geom_Check a0_0 a0_1 a0_2 a1
def ann_place_Parity : Ann := { loops := [] }
noncomputable def F_place_Parity : List D → Option D := denP Try.prog (penv' [(ID.place_in, (.pure [0] F_place_in))]) ann_place_Parity [0, 0] ID.place_Parity
theorem sound_place_Parity : Sound Try.prog ID.place_Parity (.pure [0, 0] F_place_Parity) := denP_sound (penv_ok [fact_place_in]) mixed ⟨Try.f75, by kernel_rfl, by kernel_rfl, by kernel_rfl⟩
noncomputable def fact_place_Parity : Fact Try.prog := ⟨ID.place_Parity, (.pure [0, 0] F_place_Parity), sound_place_Parity⟩
noncomputable def g_place_Parity (F_place_in : List D → Option D) (a0_0 : Int) (a0_1 : Int) (a0_2 : Int) (a1 : Int) : Option D :=
  bindK (F_place_in [D.agg [D.int IntKind.i64 a0_0, D.int IntKind.i64 a0_1, D.int IntKind.i64 a0_2], D.int IntKind.i64 a1]) fun r1 =>
  asB r1 fun b2 =>
  brK (!b2)
    (some (D.tup [D.int IntKind.i64 (-1 : Int), D.int IntKind.i64 (-1 : Int)]))
    (letN (IntKind.wrap IntKind.i64 (a0_1 - (1 : Int))) fun n3 =>
    sif (a0_2 ≠ (0 : Int)) <|
    letN (IntKind.wrap IntKind.i64 (Int.tdiv a1 a0_2)) fun n4 =>
    sif (a0_1 ≠ (0 : Int)) <|
    letN (Int.tmod n4 a0_1) fun n5 =>
    letN (IntKind.wrap IntKind.i64 (n3 - n5)) fun n6 =>
    brK (a0_0 == (5 : Int))
      (some (D.tup [D.int IntKind.i64 n6, D.int IntKind.i64 (-1 : Int)]))
      (letN (IntKind.wrap IntKind.i64 (n6 + (1 : Int))) fun n7 =>
      sif (a0_1 ≠ (0 : Int)) <|
      letN (Int.tmod n7 a0_1) fun n8 =>
      some (D.tup [D.int IntKind.i64 n6, D.int IntKind.i64 n8])))
theorem G_place_Parity (F_place_in : List D → Option D) (a0_0 : Int) (a0_1 : Int) (a0_2 : Int) (a1 : Int) : denP Try.prog (penv' [(ID.place_in, (.pure [0] F_place_in))]) ann_place_Parity [0, 0] ID.place_Parity [.agg [.int .i64 a0_0, .int .i64 a0_1, .int .i64 a0_2], .int .i64 a1] = g_place_Parity F_place_in a0_0 a0_1 a0_2 a1 := by kernel_rfl
theorem F_place_Parity_eq (a0_0 : Int) (a0_1 : Int) (a0_2 : Int) (a1 : Int) : F_place_Parity [.agg [.int .i64 a0_0, .int .i64 a0_1, .int .i64 a0_2], .int .i64 a1] = g_place_Parity F_place_in a0_0 a0_1 a0_2 a1 := G_place_Parity F_place_in a0_0 a0_1 a0_2 a1
def ann_place_Disk : Ann := { loops := [] }
noncomputable def F_place_Disk : List D → Option D := denP Try.prog (penv' [(ID.place_in, (.pure [0] F_place_in)), (ID.geom_Width, (.pure [0] F_geom_Width)), (ID.place_Parity, (.pure [0, 0] F_place_Parity)), (ID.geom_Budget, (.pure [0] F_geom_Budget))]) ann_place_Disk [0] ID.place_Disk
theorem sound_place_Disk : Sound Try.prog ID.place_Disk (.pure [0] F_place_Disk) := denP_sound (penv_ok [fact_place_in, fact_geom_Width, fact_place_Parity, fact_geom_Budget]) mixed ⟨Try.f74, by kernel_rfl, by kernel_rfl, by kernel_rfl⟩
noncomputable def fact_place_Disk : Fact Try.prog := ⟨ID.place_Disk, (.pure [0] F_place_Disk), sound_place_Disk⟩
noncomputable def g_place_Disk (F_place_in : List D → Option D) (F_geom_Width : List D → Option D) (F_place_Parity : List D → Option D) (F_geom_Budget : List D → Option D) (a0_0 : Int) (a0_1 : Int) (a0_2 : Int) (a1 : Int) (a2 : Int) : Option D :=
  bindK (F_place_in [D.agg [D.int IntKind.i64 a0_0, D.int IntKind.i64 a0_1, D.int IntKind.i64 a0_2], D.int IntKind.i64 a1]) fun r1 =>
  asB r1 fun b2 =>
  brK (!b2)
    (some (D.int IntKind.i64 (-1 : Int)))
    (brK (decide (a2 < (0 : Int)))
      (some (D.int IntKind.i64 (-1 : Int)))
      (bindK (F_geom_Width [D.agg [D.int IntKind.i64 a0_0, D.int IntKind.i64 a0_1, D.int IntKind.i64 a0_2]]) fun r3 =>
      asI IntKind.i64 r3 fun i4 =>
      brK (decide (a2 ≥ i4))
        (some (D.int IntKind.i64 (-1 : Int)))
        (bindK (F_place_Parity [D.agg [D.int IntKind.i64 a0_0, D.int IntKind.i64 a0_1, D.int IntKind.i64 a0_2], D.int IntKind.i64 a1]) fun r5 =>
        asTup r5 fun ts6 =>
        getCells ([Lf.any, Lf.any]) ts6 fun c7 =>
        asI IntKind.i64 c7.fst fun i8 =>
        asI IntKind.i64 c7.snd.fst fun i9 =>
        bindK (F_geom_Budget [D.agg [D.int IntKind.i64 a0_0, D.int IntKind.i64 a0_1, D.int IntKind.i64 a0_2]]) fun r10 =>
        asI IntKind.i64 r10 fun i11 =>
        letN (IntKind.wrap IntKind.i64 (i8 + i11)) fun n12 =>
        letN (IntKind.wrap IntKind.i64 (n12 + a2)) fun n13 =>
        sif (a0_1 ≠ (0 : Int)) <|
        letN (Int.tmod n13 a0_1) fun n14 =>
        some (D.int IntKind.i64 n14))))
theorem G_place_Disk (F_place_in : List D → Option D) (F_geom_Width : List D → Option D) (F_place_Parity : List D → Option D) (F_geom_Budget : List D → Option D) (a0_0 : Int) (a0_1 : Int) (a0_2 : Int) (a1 : Int) (a2 : Int) : denP Try.prog (penv' [(ID.place_in, (.pure [0] F_place_in)), (ID.geom_Width, (.pure [0] F_geom_Width)), (ID.place_Parity, (.pure [0, 0] F_place_Parity)), (ID.geom_Budget, (.pure [0] F_geom_Budget))]) ann_place_Disk [0] ID.place_Disk [.agg [.int .i64 a0_0, .int .i64 a0_1, .int .i64 a0_2], .int .i64 a1, .int .i64 a2] = g_place_Disk F_place_in F_geom_Width F_place_Parity F_geom_Budget a0_0 a0_1 a0_2 a1 a2 := by kernel_rfl
theorem F_place_Disk_eq (a0_0 : Int) (a0_1 : Int) (a0_2 : Int) (a1 : Int) (a2 : Int) : F_place_Disk [.agg [.int .i64 a0_0, .int .i64 a0_1, .int .i64 a0_2], .int .i64 a1, .int .i64 a2] = g_place_Disk F_place_in F_geom_Width F_place_Parity F_geom_Budget a0_0 a0_1 a0_2 a1 a2 := G_place_Disk F_place_in F_geom_Width F_place_Parity F_geom_Budget a0_0 a0_1 a0_2 a1 a2
def ann_erase_Missing : Ann := { loops := [(0, [.dead, .dead, .dead, .own 1, .dead, .dead, .val (.cell .lent), .val (.cell (.int .i64)), .val (.cell (.int .i64))])] }
noncomputable def F_erase_Missing : List D → Option D := denP Try.prog (penv' []) ann_erase_Missing [1] ID.erase_Missing
theorem sound_erase_Missing : Sound Try.prog ID.erase_Missing (.pure [1] F_erase_Missing) := denP_sound (penv_ok []) mixed ⟨Try.f89, by kernel_rfl, by kernel_rfl, by kernel_rfl⟩
noncomputable def fact_erase_Missing : Fact Try.prog := ⟨ID.erase_Missing, (.pure [1] F_erase_Missing), sound_erase_Missing⟩
noncomputable def g_erase_Missing (a0 : List D) : Option D :=
  loopN (α := (List D × List D × Int × Int × PUnit) × PUnit) (fun again1 ((l2, (l3, (i4, (i5, _)))), _) =>
    brK (decide (i5 < i4))
      (sif ((0 : Int) ≤ i5) <|
      getK l3 (Int.toNat i5) fun d6 =>
      asSl d6 fun t7 l8 =>
      brK ((↑(List.length l8) : Int) == (0 : Int))
        (sif (List.length l2 + (1 : Nat) ≤ (4294967296 : Nat)) <|
        sif (List.length l2 = List.length l2) <|
        letN (IntKind.wrap IntKind.i64 (i5 + (1 : Int))) fun n9 =>
        sif (List.length l2 + (1 : Nat) = List.length (l2 ++ [D.int IntKind.i64 i5])) <|
        again1 (((l2 ++ [D.int IntKind.i64 i5], l3, i4, n9, PUnit.unit), PUnit.unit)))
        (letN (IntKind.wrap IntKind.i64 (i5 + (1 : Int))) fun n10 =>
        sif (List.length l2 = List.length l2) <|
        again1 (((l2, l3, i4, n10, PUnit.unit), PUnit.unit))))
      (sif (List.length l2 = List.length l2) <|
      sif (List.all l2 D.free = true) <|
      some (D.sl Tag.own l2)))
    ((([], a0, (↑(List.length a0) : Int), (0 : Int), PUnit.unit), PUnit.unit))
theorem G_erase_Missing (tga0 : Tag) (a0 : List D) : denP Try.prog (penv' []) ann_erase_Missing [1] ID.erase_Missing [.sl tga0 a0] = g_erase_Missing (D.lentL a0) := by kernel_rfl
theorem F_erase_Missing_eq (tga0 : Tag) (a0 : List D) : F_erase_Missing [.sl tga0 a0] = g_erase_Missing (D.lentL a0) := G_erase_Missing tga0 a0
def ann_erase_fits_1 : Ann := { loops := [], hints := [(1, .at1 (.int .i64))] }
noncomputable def F_erase_fits_1 : List D → Option D := denP Try.prog (penv' []) ann_erase_fits_1 [0] ID.erase_fits_1
theorem sound_erase_fits_1 : Sound Try.prog ID.erase_fits_1 (.pure [0] F_erase_fits_1) := denP_sound (penv_ok []) mixed ⟨Try.f98, by kernel_rfl, by kernel_rfl, by kernel_rfl⟩
noncomputable def fact_erase_fits_1 : Fact Try.prog := ⟨ID.erase_fits_1, (.pure [0] F_erase_fits_1), sound_erase_fits_1⟩
noncomputable def g_erase_fits_1 (a0 : List D) (c0 : Int) : Option D :=
  brK (decide ((↑(List.length a0) : Int) > (0 : Int)))
    (some (D.bool ((↑(List.length a0) : Int) != c0)))
    (some (D.bool false))
theorem G_erase_fits_1 (tga0 : Tag) (a0 : List D) (c0 : Int) : denP Try.prog (penv' []) ann_erase_fits_1 [0] ID.erase_fits_1 [.sl tga0 a0, .at_ (.int .i64 c0)] = g_erase_fits_1 (D.lentL a0) c0 := by kernel_rfl
theorem F_erase_fits_1_eq (tga0 : Tag) (a0 : List D) (c0 : Int) : F_erase_fits_1 [.sl tga0 a0, .at_ (.int .i64 c0)] = g_erase_fits_1 (D.lentL a0) c0 := G_erase_fits_1 tga0 a0 c0
def ann_slices_IndexFunc_byte_byte : Ann := { loops := [(0, [.val (.cell .lent), .val (.fn1 (98 : FuncId) (.int .i64)), .dead, .dead, .dead, .dead, .dead, .val (.cell (.int .i64)), .val (.cell (.int .i64))])] }
noncomputable def F_slices_IndexFunc_byte_byte : List D → Option D := denP Try.prog (penv' [(ID.erase_fits_1, (.pure [0] F_erase_fits_1))]) ann_slices_IndexFunc_byte_byte [0] ID.slices_IndexFunc_byte_byte
theorem sound_slices_IndexFunc_byte_byte : Sound Try.prog ID.slices_IndexFunc_byte_byte (.pure [0] F_slices_IndexFunc_byte_byte) := denP_sound (penv_ok [fact_erase_fits_1]) mixed ⟨Try.f105, by kernel_rfl, by kernel_rfl, by kernel_rfl⟩
noncomputable def fact_slices_IndexFunc_byte_byte : Fact Try.prog := ⟨ID.slices_IndexFunc_byte_byte, (.pure [0] F_slices_IndexFunc_byte_byte), sound_slices_IndexFunc_byte_byte⟩
noncomputable def g_slices_IndexFunc_byte_byte__fits (F_erase_fits_1 : List D → Option D) (a0 : List D) (c0 : Int) : Option D :=
  loopN (α := (List D × Int × Int × Int × PUnit) × PUnit) (fun again1 ((l2, (i3, (i4, (i5, _)))), _) =>
    brK (decide (i5 < i4))
      (sif ((0 : Int) ≤ i5) <|
      getK l2 (Int.toNat i5) fun d6 =>
      asSl d6 fun t7 l8 =>
      bindK (F_erase_fits_1 [D.sl t7 l8, D.at_ (D.int IntKind.i64 i3)]) fun r9 =>
      asB r9 fun b10 =>
      brK b10
        (some (D.int IntKind.i64 i5))
        (letN (IntKind.wrap IntKind.i64 (i5 + (1 : Int))) fun n11 =>
        again1 (((l2, i3, i4, n11, PUnit.unit), PUnit.unit))))
      (some (D.int IntKind.i64 (-1 : Int))))
    (((a0, c0, (↑(List.length a0) : Int), (0 : Int), PUnit.unit), PUnit.unit))
theorem G_slices_IndexFunc_byte_byte__fits (F_erase_fits_1 : List D → Option D) (tga0 : Tag) (a0 : List D) (c0 : Int) : denP Try.prog (penv' [(ID.erase_fits_1, (.pure [0] F_erase_fits_1))]) ann_slices_IndexFunc_byte_byte [0] ID.slices_IndexFunc_byte_byte [.sl tga0 a0, .fn 98 [] [.at_ (.int .i64 c0)]] = g_slices_IndexFunc_byte_byte__fits F_erase_fits_1 (D.lentL a0) c0 := by kernel_rfl
theorem F_slices_IndexFunc_byte_byte__fits_eq (tga0 : Tag) (a0 : List D) (c0 : Int) : F_slices_IndexFunc_byte_byte [.sl tga0 a0, .fn 98 [] [.at_ (.int .i64 c0)]] = g_slices_IndexFunc_byte_byte__fits F_erase_fits_1 (D.lentL a0) c0 := G_slices_IndexFunc_byte_byte__fits F_erase_fits_1 tga0 a0 c0
def ann_slices_ContainsFunc_byte_byte : Ann := { loops := [] }
noncomputable def F_slices_ContainsFunc_byte_byte : List D → Option D := denP Try.prog (penv' [(ID.slices_IndexFunc_byte_byte, (.pure [0] F_slices_IndexFunc_byte_byte)), (ID.erase_fits_1, (.pure [0] F_erase_fits_1))]) ann_slices_ContainsFunc_byte_byte [0] ID.slices_ContainsFunc_byte_byte
theorem sound_slices_ContainsFunc_byte_byte : Sound Try.prog ID.slices_ContainsFunc_byte_byte (.pure [0] F_slices_ContainsFunc_byte_byte) := denP_sound (penv_ok [fact_slices_IndexFunc_byte_byte, fact_erase_fits_1]) mixed ⟨Try.f97, by kernel_rfl, by kernel_rfl, by kernel_rfl⟩
noncomputable def fact_slices_ContainsFunc_byte_byte : Fact Try.prog := ⟨ID.slices_ContainsFunc_byte_byte, (.pure [0] F_slices_ContainsFunc_byte_byte), sound_slices_ContainsFunc_byte_byte⟩
noncomputable def g_slices_ContainsFunc_byte_byte__fits (F_slices_IndexFunc_byte_byte : List D → Option D) (F_erase_fits_1 : List D → Option D) (a0 : List D) (c0 : Int) : Option D :=
  bindK (F_slices_IndexFunc_byte_byte [D.sl Tag.lent a0, D.fn (98 : FuncId) [] [D.at_ (D.int IntKind.i64 c0)]]) fun r1 =>
  asI IntKind.i64 r1 fun i2 =>
  some (D.bool (decide (i2 ≥ (0 : Int))))
theorem G_slices_ContainsFunc_byte_byte__fits (F_slices_IndexFunc_byte_byte : List D → Option D) (F_erase_fits_1 : List D → Option D) (tga0 : Tag) (a0 : List D) (c0 : Int) : denP Try.prog (penv' [(ID.slices_IndexFunc_byte_byte, (.pure [0] F_slices_IndexFunc_byte_byte)), (ID.erase_fits_1, (.pure [0] F_erase_fits_1))]) ann_slices_ContainsFunc_byte_byte [0] ID.slices_ContainsFunc_byte_byte [.sl tga0 a0, .fn 98 [] [.at_ (.int .i64 c0)]] = g_slices_ContainsFunc_byte_byte__fits F_slices_IndexFunc_byte_byte F_erase_fits_1 (D.lentL a0) c0 := by kernel_rfl
theorem F_slices_ContainsFunc_byte_byte__fits_eq (tga0 : Tag) (a0 : List D) (c0 : Int) : F_slices_ContainsFunc_byte_byte [.sl tga0 a0, .fn 98 [] [.at_ (.int .i64 c0)]] = g_slices_ContainsFunc_byte_byte__fits F_slices_IndexFunc_byte_byte F_erase_fits_1 (D.lentL a0) c0 := G_slices_ContainsFunc_byte_byte__fits F_slices_IndexFunc_byte_byte F_erase_fits_1 tga0 a0 c0
def ann_erase_fits : Ann := { loops := [] }
noncomputable def F_erase_fits : List D → Option D := denP Try.prog (penv' [(ID.slices_ContainsFunc_byte_byte, (.pure [0] F_slices_ContainsFunc_byte_byte))]) ann_erase_fits [0] ID.erase_fits
theorem sound_erase_fits : Sound Try.prog ID.erase_fits (.pure [0] F_erase_fits) := denP_sound (penv_ok [fact_slices_ContainsFunc_byte_byte]) mixed ⟨Try.f90, by kernel_rfl, by kernel_rfl, by kernel_rfl⟩
noncomputable def fact_erase_fits : Fact Try.prog := ⟨ID.erase_fits, (.pure [0] F_erase_fits), sound_erase_fits⟩
noncomputable def g_erase_fits (F_slices_ContainsFunc_byte_byte : List D → Option D) (a0 : Int) (a1 : List D) : Option D :=
  bindK (F_slices_ContainsFunc_byte_byte [D.sl Tag.lent a1, D.fn (98 : Nat) [] [D.at_ (D.int IntKind.i64 a0)]]) fun r1 =>
  asB r1 fun b2 =>
  some (D.bool !b2)
theorem G_erase_fits (F_slices_ContainsFunc_byte_byte : List D → Option D) (tga1 : Tag) (a0 : Int) (a1 : List D) : denP Try.prog (penv' [(ID.slices_ContainsFunc_byte_byte, (.pure [0] F_slices_ContainsFunc_byte_byte))]) ann_erase_fits [0] ID.erase_fits [.int .i64 a0, .sl tga1 a1] = g_erase_fits F_slices_ContainsFunc_byte_byte a0 (D.lentL a1) := by kernel_rfl
theorem F_erase_fits_eq (tga1 : Tag) (a0 : Int) (a1 : List D) : F_erase_fits [.int .i64 a0, .sl tga1 a1] = g_erase_fits F_slices_ContainsFunc_byte_byte a0 (D.lentL a1) := G_erase_fits F_slices_ContainsFunc_byte_byte tga1 a0 a1
def ann_erase_filled : Ann := { loops := [(0, [.val (.cell (.int .i64)), .dead, .dead, .dead, .dead, .own 1, .dead, .dead, .dead, .val (.cell .lent), .val (.cell (.int .i64)), .val (.cell (.int .i64))])] }
noncomputable def F_erase_filled : List D → Option D := denP Try.prog (penv' []) ann_erase_filled [1] ID.erase_filled
theorem sound_erase_filled : Sound Try.prog ID.erase_filled (.pure [1] F_erase_filled) := denP_sound (penv_ok []) mixed ⟨Try.f91, by kernel_rfl, by kernel_rfl, by kernel_rfl⟩
noncomputable def fact_erase_filled : Fact Try.prog := ⟨ID.erase_filled, (.pure [1] F_erase_filled), sound_erase_filled⟩
noncomputable def g_erase_filled (a0 : Int) (a1 : List D) : Option D :=
  loopN (α := (Int × List D × List D × Int × Int × PUnit) × PUnit) (fun again1 ((i2, (l3, (l4, (i5, (i6, _))))), _) =>
    brK (decide (i6 < i5))
      (sif ((0 : Int) ≤ i6) <|
      getK l4 (Int.toNat i6) fun d7 =>
      asSl d7 fun t8 l9 =>
      sif ((0 : Int) ≤ i2) <|
      sif (i2 = i2) <|
      sif (i2 * (1 : Int) ≤ (140737488355328 : Int)) <|
      sif (i2 ≤ (140737488355328 : Int)) <|
      sif ((0 : Nat) + Int.toNat i2 ≤ List.length (List.replicate (Int.toNat i2) (D.int IntKind.u8 (0 : Int)))) <|
      sif (cells l9 = true) <|
      sif ((0 : Nat) + Int.toNat i2 ≤   List.length     ([] ++ List.take (Int.toNat i2) l9 ++       List.drop ((0 : Nat) + List.length (List.take (Int.toNat i2) l9))         (List.replicate (Int.toNat i2) (D.int IntKind.u8 (0 : Int))))) <|
      sif (List.length l3 + (1 : Nat) ≤ (4294967296 : Nat)) <|
      sif (List.length l3 = List.length l3) <|
      letN (IntKind.wrap IntKind.i64 (i6 + (1 : Int))) fun n10 =>
      sif (List.length l3 + (1 : Nat) =   List.length     (l3 ++       [D.sl Tag.fresh           (cut (0 : Nat) (Int.toNat i2)             ([] ++ List.take (Int.toNat i2) l9 ++               List.drop ((0 : Nat) + List.length (List.take (Int.toNat i2) l9))                 (List.replicate (Int.toNat i2) (D.int IntKind.u8 (0 : Int)))))])) <|
      again1 (((i2,     l3 ++       [D.sl Tag.fresh           (cut (0 : Nat) (Int.toNat i2)             ([] ++ List.take (Int.toNat i2) l9 ++               List.drop ((0 : Nat) + List.length (List.take (Int.toNat i2) l9))                 (List.replicate (Int.toNat i2) (D.int IntKind.u8 (0 : Int)))))],     l4, i5, n10, PUnit.unit),   PUnit.unit)))
      (sif (List.length l3 = List.length l3) <|
      sif (List.all l3 D.free = true) <|
      some (D.sl Tag.own l3)))
    (((a0, [], a1, (↑(List.length a1) : Int), (0 : Int), PUnit.unit), PUnit.unit))
theorem G_erase_filled (tga1 : Tag) (a0 : Int) (a1 : List D) : denP Try.prog (penv' []) ann_erase_filled [1] ID.erase_filled [.int .i64 a0, .sl tga1 a1] = g_erase_filled a0 (D.lentL a1) := by kernel_rfl
theorem F_erase_filled_eq (tga1 : Tag) (a0 : Int) (a1 : List D) : F_erase_filled [.int .i64 a0, .sl tga1 a1] = g_erase_filled a0 (D.lentL a1) := G_erase_filled tga1 a0 a1
def ann_gf_double : Ann := { loops := [] }
noncomputable def F_gf_double : List D → Option D := denP Try.prog (penv' []) ann_gf_double [0] ID.gf_double
theorem sound_gf_double : Sound Try.prog ID.gf_double (.pure [0] F_gf_double) := denP_sound (penv_ok []) mixed ⟨Try.f107, by kernel_rfl, by kernel_rfl, by kernel_rfl⟩
noncomputable def fact_gf_double : Fact Try.prog := ⟨ID.gf_double, (.pure [0] F_gf_double), sound_gf_double⟩
noncomputable def g_gf_double (a0 : Int) : Option D :=
  brK (decide (a0 ≥ (128 : Int)))
    (letN (IntKind.wrap IntKind.u8 (a0 * (2 : Int))) fun n1 =>
    letN (bits BinOp.xor IntKind.u8 n1 (29 : Int)) fun n2 =>
    some (D.int IntKind.u8 n2))
    (letN (IntKind.wrap IntKind.u8 (a0 * (2 : Int))) fun n3 =>
    some (D.int IntKind.u8 n3))
theorem G_gf_double (a0 : Int) : denP Try.prog (penv' []) ann_gf_double [0] ID.gf_double [.int .u8 a0] = g_gf_double a0 := by kernel_rfl
theorem F_gf_double_eq (a0 : Int) : F_gf_double [.int .u8 a0] = g_gf_double a0 := G_gf_double a0
def ann_gf_Mul : Ann := { loops := [(0, [.val (.cell (.int .u8)), .val (.cell (.int .u8)), .dead, .dead, .dead, .val (.cell (.int .u8))])] }
noncomputable def F_gf_Mul : List D → Option D := denP Try.prog (penv' [(ID.gf_double, (.pure [0] F_gf_double))]) ann_gf_Mul [0] ID.gf_Mul
theorem sound_gf_Mul : Sound Try.prog ID.gf_Mul (.pure [0] F_gf_Mul) := denP_sound (penv_ok [fact_gf_double]) mixed ⟨Try.f108, by kernel_rfl, by kernel_rfl, by kernel_rfl⟩
noncomputable def fact_gf_Mul : Fact Try.prog := ⟨ID.gf_Mul, (.pure [0] F_gf_Mul), sound_gf_Mul⟩
noncomputable def g_gf_Mul (F_gf_double : List D → Option D) (a0 : Int) (a1 : Int) : Option D :=
  loopN (α := (Int × Int × Int × PUnit) × PUnit) (fun again1 ((i2, (i3, (i4, _))), _) =>
    brK (decide (i3 > (0 : Int)))
      (letN (bits BinOp.and IntKind.u8 i3 (1 : Int)) fun n5 =>
      brK (n5 == (1 : Int))
        (letN (bits BinOp.xor IntKind.u8 i4 i2) fun n6 =>
        bindK (F_gf_double [D.int IntKind.u8 i2]) fun r7 =>
        asI IntKind.u8 r7 fun i8 =>
        letN (Int.fdiv i3 (2 : Int)) fun n9 =>
        again1 (((i8, n9, n6, PUnit.unit), PUnit.unit)))
        (bindK (F_gf_double [D.int IntKind.u8 i2]) fun r10 =>
        asI IntKind.u8 r10 fun i11 =>
        letN (Int.fdiv i3 (2 : Int)) fun n12 =>
        again1 (((i11, n12, i4, PUnit.unit), PUnit.unit))))
      (some (D.int IntKind.u8 i4)))
    (((a0, a1, (0 : Int), PUnit.unit), PUnit.unit))
theorem G_gf_Mul (F_gf_double : List D → Option D) (a0 : Int) (a1 : Int) : denP Try.prog (penv' [(ID.gf_double, (.pure [0] F_gf_double))]) ann_gf_Mul [0] ID.gf_Mul [.int .u8 a0, .int .u8 a1] = g_gf_Mul F_gf_double a0 a1 := by kernel_rfl
theorem F_gf_Mul_eq (a0 : Int) (a1 : Int) : F_gf_Mul [.int .u8 a0, .int .u8 a1] = g_gf_Mul F_gf_double a0 a1 := G_gf_Mul F_gf_double a0 a1
def ann_synd_Scale : Ann := { loops := [(0, [.dead, .val (.cell (.int .u8)), .dead, .dead, .dead, .own 1, .dead, .dead, .val (.cell .lent), .val (.cell (.int .i64)), .val (.cell (.int .i64))])] }
noncomputable def F_synd_Scale : List D → Option D := denP Try.prog (penv' [(ID.gf_Mul, (.pure [0] F_gf_Mul))]) ann_synd_Scale [1] ID.synd_Scale
theorem sound_synd_Scale : Sound Try.prog ID.synd_Scale (.pure [1] F_synd_Scale) := denP_sound (penv_ok [fact_gf_Mul]) mixed ⟨Try.f102, by kernel_rfl, by kernel_rfl, by kernel_rfl⟩
noncomputable def fact_synd_Scale : Fact Try.prog := ⟨ID.synd_Scale, (.pure [1] F_synd_Scale), sound_synd_Scale⟩
noncomputable def g_synd_Scale (F_gf_Mul : List D → Option D) (a0 : List D) (a1 : Int) : Option D :=
  loopN (α := (Int × List D × List D × Int × Int × PUnit) × PUnit) (fun again1 ((i2, (l3, (l4, (i5, (i6, _))))), _) =>
    brK (decide (i6 < i5))
      (sif ((0 : Int) ≤ i6) <|
      getK l4 (Int.toNat i6) fun d7 =>
      asI IntKind.u8 d7 fun i8 =>
      bindK (F_gf_Mul [D.int IntKind.u8 i8, D.int IntKind.u8 i2]) fun r9 =>
      asI IntKind.u8 r9 fun i10 =>
      sif (List.length l3 + (1 : Nat) ≤ (4294967296 : Nat)) <|
      sif (List.length l3 = List.length l3) <|
      letN (IntKind.wrap IntKind.i64 (i6 + (1 : Int))) fun n11 =>
      sif (List.length l3 + (1 : Nat) = List.length (l3 ++ [D.int IntKind.u8 i10])) <|
      again1 (((i2, l3 ++ [D.int IntKind.u8 i10], l4, i5, n11, PUnit.unit), PUnit.unit)))
      (sif (List.length l3 = List.length l3) <|
      sif (List.all l3 D.free = true) <|
      some (D.sl Tag.own l3)))
    (((a1, [], a0, (↑(List.length a0) : Int), (0 : Int), PUnit.unit), PUnit.unit))
theorem G_synd_Scale (F_gf_Mul : List D → Option D) (tga0 : Tag) (a0 : List D) (a1 : Int) : denP Try.prog (penv' [(ID.gf_Mul, (.pure [0] F_gf_Mul))]) ann_synd_Scale [1] ID.synd_Scale [.sl tga0 a0, .int .u8 a1] = g_synd_Scale F_gf_Mul (D.lentL a0) a1 := by kernel_rfl
theorem F_synd_Scale_eq (tga0 : Tag) (a0 : List D) (a1 : Int) : F_synd_Scale [.sl tga0 a0, .int .u8 a1] = g_synd_Scale F_gf_Mul (D.lentL a0) a1 := G_synd_Scale F_gf_Mul tga0 a0 a1
def ann_synd_Add : Ann := { loops := [(1, [.dead, .val (.cell .lent), .dead, .dead, .dead, .own 1, .dead, .dead, .dead, .dead, .dead, .dead, .dead, .val (.cell .lent), .val (.cell (.int .i64)), .val (.cell (.int .i64))])] }
noncomputable def F_synd_Add : List D → Option D := denP Try.prog (penv' []) ann_synd_Add [1] ID.synd_Add
theorem sound_synd_Add : Sound Try.prog ID.synd_Add (.pure [1] F_synd_Add) := denP_sound (penv_ok []) mixed ⟨Try.f93, by kernel_rfl, by kernel_rfl, by kernel_rfl⟩
noncomputable def fact_synd_Add : Fact Try.prog := ⟨ID.synd_Add, (.pure [1] F_synd_Add), sound_synd_Add⟩
noncomputable def g_synd_Add (a0 : List D) (a1 : List D) : Option D :=
  brK ((↑(List.length a0) : Int) != (↑(List.length a1) : Int))
    (some (D.sl Tag.own []))
    (loopN (α := (List D × List D × List D × Int × Int × PUnit) × PUnit) (fun again1 ((l2, (l3, (l4, (i5, (i6, _))))), _) =>
      brK (decide (i6 < i5))
        (sif ((0 : Int) ≤ i6) <|
        getK l4 (Int.toNat i6) fun d7 =>
        asI IntKind.u8 d7 fun i8 =>
        sif ((0 : Int) ≤ i6) <|
        getK l2 (Int.toNat i6) fun d9 =>
        asI IntKind.u8 d9 fun i10 =>
        letN (bits BinOp.xor IntKind.u8 i8 i10) fun n11 =>
        sif (List.length l3 + (1 : Nat) ≤ (4294967296 : Nat)) <|
        sif (List.length l3 = List.length l3) <|
        letN (IntKind.wrap IntKind.i64 (i6 + (1 : Int))) fun n12 =>
        sif (List.length l3 + (1 : Nat) = List.length (l3 ++ [D.int IntKind.u8 n11])) <|
        again1 (((l2, l3 ++ [D.int IntKind.u8 n11], l4, i5, n12, PUnit.unit), PUnit.unit)))
        (sif (List.length l3 = List.length l3) <|
        sif (List.all l3 D.free = true) <|
        some (D.sl Tag.own l3)))
      (((a1, [], a0, (↑(List.length a0) : Int), (0 : Int), PUnit.unit), PUnit.unit)))
theorem G_synd_Add (tga0 : Tag) (tga1 : Tag) (a0 : List D) (a1 : List D) : denP Try.prog (penv' []) ann_synd_Add [1] ID.synd_Add [.sl tga0 a0, .sl tga1 a1] = g_synd_Add (D.lentL a0) (D.lentL a1) := by kernel_rfl
theorem F_synd_Add_eq (tga0 : Tag) (tga1 : Tag) (a0 : List D) (a1 : List D) : F_synd_Add [.sl tga0 a0, .sl tga1 a1] = g_synd_Add (D.lentL a0) (D.lentL a1) := G_synd_Add tga0 tga1 a0 a1
def ann_gf_Pow : Ann := { loops := [(0, [.dead, .dead, .dead, .val (.cell (.int .u8)), .dead, .dead, .dead, .val (.cell (.int .i64)), .val (.cell (.int .i64))])] }
noncomputable def F_gf_Pow : List D → Option D := denP Try.prog (penv' [(ID.gf_double, (.pure [0] F_gf_double))]) ann_gf_Pow [0] ID.gf_Pow
theorem sound_gf_Pow : Sound Try.prog ID.gf_Pow (.pure [0] F_gf_Pow) := denP_sound (penv_ok [fact_gf_double]) mixed ⟨Try.f101, by kernel_rfl, by kernel_rfl, by kernel_rfl⟩
noncomputable def fact_gf_Pow : Fact Try.prog := ⟨ID.gf_Pow, (.pure [0] F_gf_Pow), sound_gf_Pow⟩
noncomputable def g_gf_Pow (F_gf_double : List D → Option D) (a0 : Int) : Option D :=
  letN (Int.tmod a0 (255 : Int)) fun n1 =>
  letN (IntKind.wrap IntKind.i64 (n1 + (255 : Int))) fun n2 =>
  letN (Int.tmod n2 (255 : Int)) fun n3 =>
  loopN (α := (Int × Int × Int × PUnit) × PUnit) (fun again4 ((i5, (i6, (i7, _))), _) =>
    brK (decide (i7 < i6))
      (bindK (F_gf_double [D.int IntKind.u8 i5]) fun r8 =>
      asI IntKind.u8 r8 fun i9 =>
      letN (IntKind.wrap IntKind.i64 (i7 + (1 : Int))) fun n10 =>
      again4 (((i9, i6, n10, PUnit.unit), PUnit.unit)))
      (some (D.int IntKind.u8 i5)))
    ((((1 : Int), n3, (0 : Int), PUnit.unit), PUnit.unit))
theorem G_gf_Pow (F_gf_double : List D → Option D) (a0 : Int) : denP Try.prog (penv' [(ID.gf_double, (.pure [0] F_gf_double))]) ann_gf_Pow [0] ID.gf_Pow [.int .i64 a0] = g_gf_Pow F_gf_double a0 := by kernel_rfl
theorem F_gf_Pow_eq (a0 : Int) : F_gf_Pow [.int .i64 a0] = g_gf_Pow F_gf_double a0 := G_gf_Pow F_gf_double a0
def ann_synd_P_1 : Ann := { loops := [] }
noncomputable def F_synd_P_1 : List D → Option D := denP Try.prog (penv' []) ann_synd_P_1 [0] ID.synd_P_1
theorem sound_synd_P_1 : Sound Try.prog ID.synd_P_1 (.pure [0] F_synd_P_1) := denP_sound (penv_ok []) mixed ⟨Try.f104, by kernel_rfl, by kernel_rfl, by kernel_rfl⟩
noncomputable def fact_synd_P_1 : Fact Try.prog := ⟨ID.synd_P_1, (.pure [0] F_synd_P_1), sound_synd_P_1⟩
noncomputable def g_synd_P_1 (a0 : Int) : Option D :=
  some (D.int IntKind.u8 (1 : Int))
theorem G_synd_P_1 (a0 : Int) : denP Try.prog (penv' []) ann_synd_P_1 [0] ID.synd_P_1 [.int .i64 a0] = g_synd_P_1 a0 := by kernel_rfl
theorem F_synd_P_1_eq (a0 : Int) : F_synd_P_1 [.int .i64 a0] = g_synd_P_1 a0 := G_synd_P_1 a0
def ann_synd_sum : List (Nat × Ann) := [(104, { loops := [(1, [.dead, .fnc 104, .dead, .dead, .dead, .own 1, .dead, .dead, .dead, .dead, .dead, .dead, .dead, .dead, .dead, .dead, .val (.cell .lent), .val (.cell (.int .i64)), .val (.cell (.int .i64))])] }), (101, { loops := [(1, [.dead, .fnc 101, .dead, .dead, .dead, .own 1, .dead, .dead, .dead, .dead, .dead, .dead, .dead, .dead, .dead, .dead, .val (.cell .lent), .val (.cell (.int .i64)), .val (.cell (.int .i64))])] })]
noncomputable def F_synd_sum : List D → Option D := denA Try.prog (penv' [(ID.synd_Scale, (.pure [1] F_synd_Scale)), (ID.synd_Add, (.pure [1] F_synd_Add)), (ID.gf_Pow, (.pure [0] F_gf_Pow)), (ID.synd_P_1, (.pure [0] F_synd_P_1))]) ann_synd_sum [1] ID.synd_sum
theorem sound_synd_sum : Sound Try.prog ID.synd_sum (.pure [1] F_synd_sum) := denA_sound (penv_ok [fact_synd_Scale, fact_synd_Add, fact_gf_Pow, fact_synd_P_1]) mixed ⟨Try.f103, by kernel_rfl, by kernel_rfl, by kernel_rfl⟩
noncomputable def fact_synd_sum : Fact Try.prog := ⟨ID.synd_sum, (.pure [1] F_synd_sum), sound_synd_sum⟩
noncomputable def g_synd_sum__P (F_synd_Scale : List D → Option D) (F_synd_Add : List D → Option D) (F_gf_Pow : List D → Option D) (F_synd_P_1 : List D → Option D) (a0 : List D) : Option D :=
  brK ((↑(List.length a0) : Int) == (0 : Int))
    (some (D.sl Tag.own []))
    (getK a0 ((0 : Nat)) fun d1 =>
    asSl d1 fun t2 l3 =>
    sif ((↑(List.length l3) : Int) = (↑(List.length l3) : Int)) <|
    sif ((↑(List.length l3) : Int) * (1 : Int) ≤ (140737488355328 : Int)) <|
    sif ((↑(List.length l3) : Int) ≤ (140737488355328 : Int)) <|
    sif (Int.toNat (↑(List.length l3) : Int) =   List.length (List.replicate (Int.toNat (↑(List.length l3) : Int)) (D.int IntKind.u8 (0 : Int)))) <|
    loopN (α := (List D × List D × Int × Int × PUnit) × PUnit) (fun again4 ((l5, (l6, (i7, (i8, _)))), _) =>
      brK (decide (i8 < i7))
        (sif ((0 : Int) ≤ i8) <|
        getK l6 (Int.toNat i8) fun d9 =>
        asSl d9 fun t10 l11 =>
        sif ((0 : Nat) + List.length l5 ≤ List.length l5) <|
        brK ((↑(List.length l11) : Int) != (↑(List.length l5) : Int))
          (some (D.sl Tag.own []))
          (bindK (F_synd_P_1 [D.int IntKind.i64 i8]) fun r12 =>
          asI IntKind.u8 r12 fun i13 =>
          bindK (F_synd_Scale [D.sl t10 l11, D.int IntKind.u8 i13]) fun r14 =>
          asOwn r14 fun l15 =>
          sif ((0 : Nat) + List.length l5 ≤ List.length l5) <|
          sif ((0 : Nat) + List.length l15 ≤ List.length l15) <|
          bindK (F_synd_Add [D.sl Tag.lent (cut (0 : Nat) (List.length l5) l5), D.sl Tag.lent (cut (0 : Nat) (List.length l15) l15)]) fun r16 =>
          asOwn r16 fun l17 =>
          letN (IntKind.wrap IntKind.i64 (i8 + (1 : Int))) fun n18 =>
          sif (List.length l17 = List.length l17) <|
          again4 (((l17, l6, i7, n18, PUnit.unit), PUnit.unit))))
        (sif (List.length l5 = List.length l5) <|
        sif (List.all l5 D.free = true) <|
        some (D.sl Tag.own l5)))
      (((List.replicate (Int.toNat (↑(List.length l3) : Int)) (D.int IntKind.u8 (0 : Int)), a0, (↑(List.length a0) : Int),     (0 : Int), PUnit.unit),   PUnit.unit)))
theorem G_synd_sum__P (F_synd_Scale : List D → Option D) (F_synd_Add : List D → Option D) (F_gf_Pow : List D → Option D) (F_synd_P_1 : List D → Option D) (tga0 : Tag) (a0 : List D) : denA Try.prog (penv' [(ID.synd_Scale, (.pure [1] F_synd_Scale)), (ID.synd_Add, (.pure [1] F_synd_Add)), (ID.gf_Pow, (.pure [0] F_gf_Pow)), (ID.synd_P_1, (.pure [0] F_synd_P_1))]) ann_synd_sum [1] ID.synd_sum [.sl tga0 a0, .fn 104 [] []] = g_synd_sum__P F_synd_Scale F_synd_Add F_gf_Pow F_synd_P_1 (D.lentL a0) := by kernel_rfl
theorem F_synd_sum__P_eq (tga0 : Tag) (a0 : List D) : F_synd_sum [.sl tga0 a0, .fn 104 [] []] = g_synd_sum__P F_synd_Scale F_synd_Add F_gf_Pow F_synd_P_1 (D.lentL a0) := G_synd_sum__P F_synd_Scale F_synd_Add F_gf_Pow F_synd_P_1 tga0 a0
noncomputable def g_synd_sum__Q (F_synd_Scale : List D → Option D) (F_synd_Add : List D → Option D) (F_gf_Pow : List D → Option D) (F_synd_P_1 : List D → Option D) (a0 : List D) : Option D :=
  brK ((↑(List.length a0) : Int) == (0 : Int))
    (some (D.sl Tag.own []))
    (getK a0 ((0 : Nat)) fun d1 =>
    asSl d1 fun t2 l3 =>
    sif ((↑(List.length l3) : Int) = (↑(List.length l3) : Int)) <|
    sif ((↑(List.length l3) : Int) * (1 : Int) ≤ (140737488355328 : Int)) <|
    sif ((↑(List.length l3) : Int) ≤ (140737488355328 : Int)) <|
    sif (Int.toNat (↑(List.length l3) : Int) =   List.length (List.replicate (Int.toNat (↑(List.length l3) : Int)) (D.int IntKind.u8 (0 : Int)))) <|
    loopN (α := (List D × List D × Int × Int × PUnit) × PUnit) (fun again4 ((l5, (l6, (i7, (i8, _)))), _) =>
      brK (decide (i8 < i7))
        (sif ((0 : Int) ≤ i8) <|
        getK l6 (Int.toNat i8) fun d9 =>
        asSl d9 fun t10 l11 =>
        sif ((0 : Nat) + List.length l5 ≤ List.length l5) <|
        brK ((↑(List.length l11) : Int) != (↑(List.length l5) : Int))
          (some (D.sl Tag.own []))
          (bindK (F_gf_Pow [D.int IntKind.i64 i8]) fun r12 =>
          asI IntKind.u8 r12 fun i13 =>
          bindK (F_synd_Scale [D.sl t10 l11, D.int IntKind.u8 i13]) fun r14 =>
          asOwn r14 fun l15 =>
          sif ((0 : Nat) + List.length l5 ≤ List.length l5) <|
          sif ((0 : Nat) + List.length l15 ≤ List.length l15) <|
          bindK (F_synd_Add [D.sl Tag.lent (cut (0 : Nat) (List.length l5) l5), D.sl Tag.lent (cut (0 : Nat) (List.length l15) l15)]) fun r16 =>
          asOwn r16 fun l17 =>
          letN (IntKind.wrap IntKind.i64 (i8 + (1 : Int))) fun n18 =>
          sif (List.length l17 = List.length l17) <|
          again4 (((l17, l6, i7, n18, PUnit.unit), PUnit.unit))))
        (sif (List.length l5 = List.length l5) <|
        sif (List.all l5 D.free = true) <|
        some (D.sl Tag.own l5)))
      (((List.replicate (Int.toNat (↑(List.length l3) : Int)) (D.int IntKind.u8 (0 : Int)), a0, (↑(List.length a0) : Int),     (0 : Int), PUnit.unit),   PUnit.unit)))
theorem G_synd_sum__Q (F_synd_Scale : List D → Option D) (F_synd_Add : List D → Option D) (F_gf_Pow : List D → Option D) (F_synd_P_1 : List D → Option D) (tga0 : Tag) (a0 : List D) : denA Try.prog (penv' [(ID.synd_Scale, (.pure [1] F_synd_Scale)), (ID.synd_Add, (.pure [1] F_synd_Add)), (ID.gf_Pow, (.pure [0] F_gf_Pow)), (ID.synd_P_1, (.pure [0] F_synd_P_1))]) ann_synd_sum [1] ID.synd_sum [.sl tga0 a0, .fn 101 [] []] = g_synd_sum__Q F_synd_Scale F_synd_Add F_gf_Pow F_synd_P_1 (D.lentL a0) := by kernel_rfl
theorem F_synd_sum__Q_eq (tga0 : Tag) (a0 : List D) : F_synd_sum [.sl tga0 a0, .fn 101 [] []] = g_synd_sum__Q F_synd_Scale F_synd_Add F_gf_Pow F_synd_P_1 (D.lentL a0) := G_synd_sum__Q F_synd_Scale F_synd_Add F_gf_Pow F_synd_P_1 tga0 a0
def ann_synd_P : Ann := { loops := [] }
noncomputable def F_synd_P : List D → Option D := denP Try.prog (penv' [(ID.synd_sum, (.pure [1] F_synd_sum)), (ID.synd_P_1, (.pure [0] F_synd_P_1))]) ann_synd_P [1] ID.synd_P
theorem sound_synd_P : Sound Try.prog ID.synd_P (.pure [1] F_synd_P) := denP_sound (penv_ok [fact_synd_sum, fact_synd_P_1]) mixed ⟨Try.f94, by kernel_rfl, by kernel_rfl, by kernel_rfl⟩
noncomputable def fact_synd_P : Fact Try.prog := ⟨ID.synd_P, (.pure [1] F_synd_P), sound_synd_P⟩
noncomputable def g_synd_P (F_synd_sum : List D → Option D) (F_synd_P_1 : List D → Option D) (a0 : List D) : Option D :=
  bindK (F_synd_sum [D.sl Tag.lent a0, D.fn (104 : Nat) [] []]) fun r1 =>
  asOwn r1 fun l2 =>
  sif (List.length l2 = List.length l2) <|
  sif (List.all l2 D.free = true) <|
  some (D.sl Tag.own l2)
theorem G_synd_P (F_synd_sum : List D → Option D) (F_synd_P_1 : List D → Option D) (tga0 : Tag) (a0 : List D) : denP Try.prog (penv' [(ID.synd_sum, (.pure [1] F_synd_sum)), (ID.synd_P_1, (.pure [0] F_synd_P_1))]) ann_synd_P [1] ID.synd_P [.sl tga0 a0] = g_synd_P F_synd_sum F_synd_P_1 (D.lentL a0) := by kernel_rfl
theorem F_synd_P_eq (tga0 : Tag) (a0 : List D) : F_synd_P [.sl tga0 a0] = g_synd_P F_synd_sum F_synd_P_1 (D.lentL a0) := G_synd_P F_synd_sum F_synd_P_1 tga0 a0
def ann_synd_Q : Ann := { loops := [] }
noncomputable def F_synd_Q : List D → Option D := denP Try.prog (penv' [(ID.synd_sum, (.pure [1] F_synd_sum)), (ID.gf_Pow, (.pure [0] F_gf_Pow))]) ann_synd_Q [1] ID.synd_Q
theorem sound_synd_Q : Sound Try.prog ID.synd_Q (.pure [1] F_synd_Q) := denP_sound (penv_ok [fact_synd_sum, fact_gf_Pow]) mixed ⟨Try.f99, by kernel_rfl, by kernel_rfl, by kernel_rfl⟩
noncomputable def fact_synd_Q : Fact Try.prog := ⟨ID.synd_Q, (.pure [1] F_synd_Q), sound_synd_Q⟩
noncomputable def g_synd_Q (F_synd_sum : List D → Option D) (F_gf_Pow : List D → Option D) (a0 : List D) : Option D :=
  bindK (F_synd_sum [D.sl Tag.lent a0, D.fn (101 : Nat) [] []]) fun r1 =>
  asOwn r1 fun l2 =>
  sif (List.length l2 = List.length l2) <|
  sif (List.all l2 D.free = true) <|
  some (D.sl Tag.own l2)
theorem G_synd_Q (F_synd_sum : List D → Option D) (F_gf_Pow : List D → Option D) (tga0 : Tag) (a0 : List D) : denP Try.prog (penv' [(ID.synd_sum, (.pure [1] F_synd_sum)), (ID.gf_Pow, (.pure [0] F_gf_Pow))]) ann_synd_Q [1] ID.synd_Q [.sl tga0 a0] = g_synd_Q F_synd_sum F_gf_Pow (D.lentL a0) := by kernel_rfl
theorem F_synd_Q_eq (tga0 : Tag) (a0 : List D) : F_synd_Q [.sl tga0 a0] = g_synd_Q F_synd_sum F_gf_Pow (D.lentL a0) := G_synd_Q F_synd_sum F_gf_Pow tga0 a0
def ann_gf_Log : Ann := { loops := [(0, [.val (.cell (.int .u8)), .dead, .dead, .val (.cell (.int .u8)), .dead, .val (.cell (.int .i64))])] }
noncomputable def F_gf_Log : List D → Option D := denP Try.prog (penv' [(ID.gf_double, (.pure [0] F_gf_double))]) ann_gf_Log [0] ID.gf_Log
theorem sound_gf_Log : Sound Try.prog ID.gf_Log (.pure [0] F_gf_Log) := denP_sound (penv_ok [fact_gf_double]) mixed ⟨Try.f106, by kernel_rfl, by kernel_rfl, by kernel_rfl⟩
noncomputable def fact_gf_Log : Fact Try.prog := ⟨ID.gf_Log, (.pure [0] F_gf_Log), sound_gf_Log⟩
noncomputable def g_gf_Log (F_gf_double : List D → Option D) (a0 : Int) : Option D :=
  loopN (α := (Int × Int × Int × PUnit) × PUnit) (fun again1 ((i2, (i3, (i4, _))), _) =>
    brK (decide (i4 < (255 : Int)))
      (brK (i3 == i2)
        (some (D.int IntKind.i64 i4))
        (bindK (F_gf_double [D.int IntKind.u8 i3]) fun r5 =>
        asI IntKind.u8 r5 fun i6 =>
        letN (IntKind.wrap IntKind.i64 (i4 + (1 : Int))) fun n7 =>
        again1 (((i2, i6, n7, PUnit.unit), PUnit.unit))))
      (some (D.int IntKind.i64 (-1 : Int))))
    (((a0, (1 : Int), (0 : Int), PUnit.unit), PUnit.unit))
theorem G_gf_Log (F_gf_double : List D → Option D) (a0 : Int) : denP Try.prog (penv' [(ID.gf_double, (.pure [0] F_gf_double))]) ann_gf_Log [0] ID.gf_Log [.int .u8 a0] = g_gf_Log F_gf_double a0 := by kernel_rfl
theorem F_gf_Log_eq (a0 : Int) : F_gf_Log [.int .u8 a0] = g_gf_Log F_gf_double a0 := G_gf_Log F_gf_double a0
def ann_gf_Inv : Ann := { loops := [] }
noncomputable def F_gf_Inv : List D → Option D := denP Try.prog (penv' [(ID.gf_Log, (.pure [0] F_gf_Log)), (ID.gf_Pow, (.pure [0] F_gf_Pow))]) ann_gf_Inv [0] ID.gf_Inv
theorem sound_gf_Inv : Sound Try.prog ID.gf_Inv (.pure [0] F_gf_Inv) := denP_sound (penv_ok [fact_gf_Log, fact_gf_Pow]) mixed ⟨Try.f100, by kernel_rfl, by kernel_rfl, by kernel_rfl⟩
noncomputable def fact_gf_Inv : Fact Try.prog := ⟨ID.gf_Inv, (.pure [0] F_gf_Inv), sound_gf_Inv⟩
noncomputable def g_gf_Inv (F_gf_Log : List D → Option D) (F_gf_Pow : List D → Option D) (a0 : Int) : Option D :=
  brK (a0 == (0 : Int))
    (some (D.int IntKind.u8 (0 : Int)))
    (bindK (F_gf_Log [D.int IntKind.u8 a0]) fun r1 =>
    asI IntKind.i64 r1 fun i2 =>
    letN (IntKind.wrap IntKind.i64 ((255 : Int) - i2)) fun n3 =>
    bindK (F_gf_Pow [D.int IntKind.i64 n3]) fun r4 =>
    asI IntKind.u8 r4 fun i5 =>
    some (D.int IntKind.u8 i5))
theorem G_gf_Inv (F_gf_Log : List D → Option D) (F_gf_Pow : List D → Option D) (a0 : Int) : denP Try.prog (penv' [(ID.gf_Log, (.pure [0] F_gf_Log)), (ID.gf_Pow, (.pure [0] F_gf_Pow))]) ann_gf_Inv [0] ID.gf_Inv [.int .u8 a0] = g_gf_Inv F_gf_Log F_gf_Pow a0 := by kernel_rfl
theorem F_gf_Inv_eq (a0 : Int) : F_gf_Inv [.int .u8 a0] = g_gf_Inv F_gf_Log F_gf_Pow a0 := G_gf_Inv F_gf_Log F_gf_Pow a0
def ann_erase_two : Ann := { loops := [] }
noncomputable def F_erase_two : List D → Option D := denP Try.prog (penv' [(ID.synd_P, (.pure [1] F_synd_P)), (ID.synd_Add, (.pure [1] F_synd_Add)), (ID.synd_Q, (.pure [1] F_synd_Q)), (ID.gf_Pow, (.pure [0] F_gf_Pow)), (ID.gf_Inv, (.pure [0] F_gf_Inv)), (ID.synd_Scale, (.pure [1] F_synd_Scale))]) ann_erase_two [1, 1] ID.erase_two
theorem sound_erase_two : Sound Try.prog ID.erase_two (.pure [1, 1] F_erase_two) := denP_sound (penv_ok [fact_synd_P, fact_synd_Add, fact_synd_Q, fact_gf_Pow, fact_gf_Inv, fact_synd_Scale]) mixed ⟨Try.f92, by kernel_rfl, by kernel_rfl, by kernel_rfl⟩
noncomputable def fact_erase_two : Fact Try.prog := ⟨ID.erase_two, (.pure [1, 1] F_erase_two), sound_erase_two⟩
noncomputable def g_erase_two (F_synd_P : List D → Option D) (F_synd_Add : List D → Option D) (F_synd_Q : List D → Option D) (F_gf_Pow : List D → Option D) (F_gf_Inv : List D → Option D) (F_synd_Scale : List D → Option D) (a0 : List D) (a1 : List D) (a2 : List D) (a3 : Int) (a4 : Int) : Option D :=
  bindK (F_synd_P [D.sl Tag.lent a2]) fun r1 =>
  asOwn r1 fun l2 =>
  sif ((0 : Nat) + List.length l2 ≤ List.length l2) <|
  bindK (F_synd_Add [D.sl Tag.lent a0, D.sl Tag.lent (cut (0 : Nat) (List.length l2) l2)]) fun r3 =>
  asOwn r3 fun l4 =>
  bindK (F_synd_Q [D.sl Tag.lent a2]) fun r5 =>
  asOwn r5 fun l6 =>
  sif ((0 : Nat) + List.length l6 ≤ List.length l6) <|
  bindK (F_synd_Add [D.sl Tag.lent a1, D.sl Tag.lent (cut (0 : Nat) (List.length l6) l6)]) fun r7 =>
  asOwn r7 fun l8 =>
  bindK (F_gf_Pow [D.int IntKind.i64 a3]) fun r9 =>
  asI IntKind.u8 r9 fun i10 =>
  bindK (F_gf_Pow [D.int IntKind.i64 a4]) fun r11 =>
  asI IntKind.u8 r11 fun i12 =>
  letN (bits BinOp.xor IntKind.u8 i10 i12) fun n13 =>
  bindK (F_gf_Inv [D.int IntKind.u8 n13]) fun r14 =>
  asI IntKind.u8 r14 fun i15 =>
  bindK (F_gf_Pow [D.int IntKind.i64 a4]) fun r16 =>
  asI IntKind.u8 r16 fun i17 =>
  sif ((0 : Nat) + List.length l4 ≤ List.length l4) <|
  bindK (F_synd_Scale [D.sl Tag.lent (cut (0 : Nat) (List.length l4) l4), D.int IntKind.u8 i17]) fun r18 =>
  asOwn r18 fun l19 =>
  sif ((0 : Nat) + List.length l8 ≤ List.length l8) <|
  sif ((0 : Nat) + List.length l19 ≤ List.length l19) <|
  bindK (F_synd_Add [D.sl Tag.lent (cut (0 : Nat) (List.length l8) l8), D.sl Tag.lent (cut (0 : Nat) (List.length l19) l19)]) fun r20 =>
  asOwn r20 fun l21 =>
  sif ((0 : Nat) + List.length l21 ≤ List.length l21) <|
  bindK (F_synd_Scale [D.sl Tag.lent (cut (0 : Nat) (List.length l21) l21), D.int IntKind.u8 i15]) fun r22 =>
  asOwn r22 fun l23 =>
  sif ((0 : Nat) + List.length l4 ≤ List.length l4) <|
  sif ((0 : Nat) + List.length l23 ≤ List.length l23) <|
  bindK (F_synd_Add [D.sl Tag.lent (cut (0 : Nat) (List.length l4) l4), D.sl Tag.lent (cut (0 : Nat) (List.length l23) l23)]) fun r24 =>
  asOwn r24 fun l25 =>
  sif (List.length l23 = List.length l23) <|
  sif (List.all l23 D.free = true) <|
  sif (List.length l25 = List.length l25) <|
  sif (List.all l25 D.free = true) <|
  some (D.tup [D.sl Tag.own l23, D.sl Tag.own l25])
theorem G_erase_two (F_synd_P : List D → Option D) (F_synd_Add : List D → Option D) (F_synd_Q : List D → Option D) (F_gf_Pow : List D → Option D) (F_gf_Inv : List D → Option D) (F_synd_Scale : List D → Option D) (tga0 : Tag) (tga1 : Tag) (tga2 : Tag) (a0 : List D) (a1 : List D) (a2 : List D) (a3 : Int) (a4 : Int) : denP Try.prog (penv' [(ID.synd_P, (.pure [1] F_synd_P)), (ID.synd_Add, (.pure [1] F_synd_Add)), (ID.synd_Q, (.pure [1] F_synd_Q)), (ID.gf_Pow, (.pure [0] F_gf_Pow)), (ID.gf_Inv, (.pure [0] F_gf_Inv)), (ID.synd_Scale, (.pure [1] F_synd_Scale))]) ann_erase_two [1, 1] ID.erase_two [.sl tga0 a0, .sl tga1 a1, .sl tga2 a2, .int .i64 a3, .int .i64 a4] = g_erase_two F_synd_P F_synd_Add F_synd_Q F_gf_Pow F_gf_Inv F_synd_Scale (D.lentL a0) (D.lentL a1) (D.lentL a2) a3 a4 := by kernel_rfl
theorem F_erase_two_eq (tga0 : Tag) (tga1 : Tag) (tga2 : Tag) (a0 : List D) (a1 : List D) (a2 : List D) (a3 : Int) (a4 : Int) : F_erase_two [.sl tga0 a0, .sl tga1 a1, .sl tga2 a2, .int .i64 a3, .int .i64 a4] = g_erase_two F_synd_P F_synd_Add F_synd_Q F_gf_Pow F_gf_Inv F_synd_Scale (D.lentL a0) (D.lentL a1) (D.lentL a2) a3 a4 := G_erase_two F_synd_P F_synd_Add F_synd_Q F_gf_Pow F_gf_Inv F_synd_Scale tga0 tga1 tga2 a0 a1 a2 a3 a4
def ann_erase_byQ : Ann := { loops := [] }
noncomputable def F_erase_byQ : List D → Option D := denP Try.prog (penv' [(ID.synd_Q, (.pure [1] F_synd_Q)), (ID.synd_Add, (.pure [1] F_synd_Add)), (ID.gf_Pow, (.pure [0] F_gf_Pow)), (ID.gf_Inv, (.pure [0] F_gf_Inv)), (ID.synd_Scale, (.pure [1] F_synd_Scale))]) ann_erase_byQ [1] ID.erase_byQ
theorem sound_erase_byQ : Sound Try.prog ID.erase_byQ (.pure [1] F_erase_byQ) := denP_sound (penv_ok [fact_synd_Q, fact_synd_Add, fact_gf_Pow, fact_gf_Inv, fact_synd_Scale]) mixed ⟨Try.f95, by kernel_rfl, by kernel_rfl, by kernel_rfl⟩
noncomputable def fact_erase_byQ : Fact Try.prog := ⟨ID.erase_byQ, (.pure [1] F_erase_byQ), sound_erase_byQ⟩
noncomputable def g_erase_byQ (F_synd_Q : List D → Option D) (F_synd_Add : List D → Option D) (F_gf_Pow : List D → Option D) (F_gf_Inv : List D → Option D) (F_synd_Scale : List D → Option D) (a0 : List D) (a1 : List D) (a2 : Int) : Option D :=
  bindK (F_synd_Q [D.sl Tag.lent a1]) fun r1 =>
  asOwn r1 fun l2 =>
  sif ((0 : Nat) + List.length l2 ≤ List.length l2) <|
  bindK (F_synd_Add [D.sl Tag.lent a0, D.sl Tag.lent (cut (0 : Nat) (List.length l2) l2)]) fun r3 =>
  asOwn r3 fun l4 =>
  bindK (F_gf_Pow [D.int IntKind.i64 a2]) fun r5 =>
  asI IntKind.u8 r5 fun i6 =>
  bindK (F_gf_Inv [D.int IntKind.u8 i6]) fun r7 =>
  asI IntKind.u8 r7 fun i8 =>
  sif ((0 : Nat) + List.length l4 ≤ List.length l4) <|
  bindK (F_synd_Scale [D.sl Tag.lent (cut (0 : Nat) (List.length l4) l4), D.int IntKind.u8 i8]) fun r9 =>
  asOwn r9 fun l10 =>
  sif (List.length l10 = List.length l10) <|
  sif (List.all l10 D.free = true) <|
  some (D.sl Tag.own l10)
theorem G_erase_byQ (F_synd_Q : List D → Option D) (F_synd_Add : List D → Option D) (F_gf_Pow : List D → Option D) (F_gf_Inv : List D → Option D) (F_synd_Scale : List D → Option D) (tga0 : Tag) (tga1 : Tag) (a0 : List D) (a1 : List D) (a2 : Int) : denP Try.prog (penv' [(ID.synd_Q, (.pure [1] F_synd_Q)), (ID.synd_Add, (.pure [1] F_synd_Add)), (ID.gf_Pow, (.pure [0] F_gf_Pow)), (ID.gf_Inv, (.pure [0] F_gf_Inv)), (ID.synd_Scale, (.pure [1] F_synd_Scale))]) ann_erase_byQ [1] ID.erase_byQ [.sl tga0 a0, .sl tga1 a1, .int .i64 a2] = g_erase_byQ F_synd_Q F_synd_Add F_gf_Pow F_gf_Inv F_synd_Scale (D.lentL a0) (D.lentL a1) a2 := by kernel_rfl
theorem F_erase_byQ_eq (tga0 : Tag) (tga1 : Tag) (a0 : List D) (a1 : List D) (a2 : Int) : F_erase_byQ [.sl tga0 a0, .sl tga1 a1, .int .i64 a2] = g_erase_byQ F_synd_Q F_synd_Add F_gf_Pow F_gf_Inv F_synd_Scale (D.lentL a0) (D.lentL a1) a2 := G_erase_byQ F_synd_Q F_synd_Add F_gf_Pow F_gf_Inv F_synd_Scale tga0 tga1 a0 a1 a2
def ann_erase_Solve : Ann := { loops := [] }
noncomputable def F_erase_Solve : List D → Option D := denP Try.prog (penv' [(ID.erase_Missing, (.pure [1] F_erase_Missing)), (ID.erase_fits, (.pure [0] F_erase_fits)), (ID.erase_filled, (.pure [1] F_erase_filled)), (ID.erase_two, (.pure [1, 1] F_erase_two)), (ID.synd_P, (.pure [1] F_synd_P)), (ID.synd_Add, (.pure [1] F_synd_Add)), (ID.erase_byQ, (.pure [1] F_erase_byQ))]) ann_erase_Solve [1, 0] ID.erase_Solve
theorem sound_erase_Solve : Sound Try.prog ID.erase_Solve (.pure [1, 0] F_erase_Solve) := denP_sound (penv_ok [fact_erase_Missing, fact_erase_fits, fact_erase_filled, fact_erase_two, fact_synd_P, fact_synd_Add, fact_erase_byQ]) mixed ⟨Try.f76, by kernel_rfl, by kernel_rfl, by kernel_rfl⟩
noncomputable def fact_erase_Solve : Fact Try.prog := ⟨ID.erase_Solve, (.pure [1, 0] F_erase_Solve), sound_erase_Solve⟩
noncomputable def g_erase_Solve (F_erase_Missing : List D → Option D) (F_erase_fits : List D → Option D) (F_erase_filled : List D → Option D) (F_erase_two : List D → Option D) (F_synd_P : List D → Option D) (F_synd_Add : List D → Option D) (F_erase_byQ : List D → Option D) (a0 : Int) (a1 : List D) (a2 : List D) (a3 : List D) : Option D :=
  bindK (F_erase_Missing [D.sl Tag.lent a3]) fun r1 =>
  asOwn r1 fun l2 =>
  brK (decide (a0 < (1 : Int)))
    (some (D.tup [D.sl Tag.own [], D.bool false]))
    (brK (decide ((↑(List.length a3) : Int) < (1 : Int)))
      (some (D.tup [D.sl Tag.own [], D.bool false]))
      (brK (decide ((↑(List.length a3) : Int) > (8 : Int)))
        (some (D.tup [D.sl Tag.own [], D.bool false]))
        (bindK (F_erase_fits [D.int IntKind.i64 a0, D.sl Tag.lent a3]) fun r3 =>
        asB r3 fun b4 =>
        brK (!b4)
          (some (D.tup [D.sl Tag.own [], D.bool false]))
          (bindK (F_erase_fits [D.int IntKind.i64 a0, D.sl Tag.full [D.sl Tag.lent a1, D.sl Tag.lent a2]]) fun r5 =>
          asB r5 fun b6 =>
          brK (!b6)
            (some (D.tup [D.sl Tag.own [], D.bool false]))
            (sif ((0 : Nat) + List.length l2 ≤ List.length l2) <|
            bindK (F_erase_Missing [D.sl Tag.full [D.sl Tag.lent a1, D.sl Tag.lent a2]]) fun r7 =>
            asOwn r7 fun l8 =>
            sif ((0 : Nat) + List.length l8 ≤ List.length l8) <|
            letN (IntKind.wrap IntKind.i64 ((↑(List.length l2) : Int) + (↑(List.length l8) : Int))) fun n9 =>
            brK (decide (n9 > (2 : Int)))
              (some (D.tup [D.sl Tag.own [], D.bool false]))
              (bindK (F_erase_filled [D.int IntKind.i64 a0, D.sl Tag.lent a3]) fun r10 =>
              asOwn r10 fun l11 =>
              sif ((0 : Nat) + List.length l2 ≤ List.length l2) <|
              brK ((↑(List.length l2) : Int) == (2 : Int))
                (sif ((0 : Nat) < List.length l2) <|
                getK l2 ((0 : Nat)) fun d12 =>
                asI IntKind.i64 d12 fun i13 =>
                sif ((1 : Nat) < List.length l2) <|
                getK l2 ((1 : Nat)) fun d14 =>
                asI IntKind.i64 d14 fun i15 =>
                sif ((0 : Nat) < List.length l2) <|
                getK l2 ((0 : Nat)) fun d16 =>
                asI IntKind.i64 d16 fun i17 =>
                sif ((1 : Nat) < List.length l2) <|
                getK l2 ((1 : Nat)) fun d18 =>
                asI IntKind.i64 d18 fun i19 =>
                sif ((0 : Nat) + List.length l11 ≤ List.length l11) <|
                bindK (F_erase_two   [D.sl Tag.lent a1, D.sl Tag.lent a2, D.sl Tag.lent (cut (0 : Nat) (List.length l11) l11), D.int IntKind.i64 i17,     D.int IntKind.i64 i19]) fun r20 =>
                asTup r20 fun ts21 =>
                getCells ([Lf.any, Lf.any]) ts21 fun c22 =>
                asOwn c22.fst fun l23 =>
                asOwn c22.snd.fst fun l24 =>
                sif ((0 : Int) ≤ i13) <|
                sif (Int.toNat i13 < List.length l11) <|
                sif ((0 : Nat) + List.length l23 ≤ List.length l23) <|
                getK l11 ((0 : Nat) + Int.toNat i13) fun d25 =>
                sif ((0 : Nat) + List.length l23 ≤ List.length l23) <|
                sif (D.isAgg d25 = false) <|
                sif ((0 : Int) ≤ i15) <|
                sif (Int.toNat i15 < List.length l11) <|
                sif ((0 : Nat) + List.length l24 ≤ List.length l24) <|
                getK (List.set l11 ((0 : Nat) + Int.toNat i13) (D.sl Tag.fresh (cut (0 : Nat) (List.length l23) l23))) ((0 : Nat) + Int.toNat i15) fun d26 =>
                sif ((0 : Nat) + List.length l24 ≤ List.length l24) <|
                sif (D.isAgg d26 = false) <|
                sif (List.length l11 =   List.length     (List.set (List.set l11 ((0 : Nat) + Int.toNat i13) (D.sl Tag.fresh (cut (0 : Nat) (List.length l23) l23)))       ((0 : Nat) + Int.toNat i15) (D.sl Tag.fresh (cut (0 : Nat) (List.length l24) l24)))) <|
                sif (List.all     (List.set (List.set l11 ((0 : Nat) + Int.toNat i13) (D.sl Tag.fresh (cut (0 : Nat) (List.length l23) l23)))       ((0 : Nat) + Int.toNat i15) (D.sl Tag.fresh (cut (0 : Nat) (List.length l24) l24)))     D.free =   true) <|
                some (D.tup   [D.sl Tag.own       (List.set (List.set l11 ((0 : Nat) + Int.toNat i13) (D.sl Tag.fresh (cut (0 : Nat) (List.length l23) l23)))         ((0 : Nat) + Int.toNat i15) (D.sl Tag.fresh (cut (0 : Nat) (List.length l24) l24))),     D.bool true]))
                (sif ((0 : Nat) + List.length l2 ≤ List.length l2) <|
                brK ((↑(List.length l2) : Int) == (1 : Int))
                  (brK (decide ((↑(List.length a1) : Int) > (0 : Int)))
                    (sif ((0 : Nat) < List.length l2) <|
                    getK l2 ((0 : Nat)) fun d27 =>
                    asI IntKind.i64 d27 fun i28 =>
                    sif ((0 : Nat) + List.length l11 ≤ List.length l11) <|
                    bindK (F_synd_P [D.sl Tag.lent (cut (0 : Nat) (List.length l11) l11)]) fun r29 =>
                    asOwn r29 fun l30 =>
                    sif ((0 : Nat) + List.length l30 ≤ List.length l30) <|
                    bindK (F_synd_Add [D.sl Tag.lent a1, D.sl Tag.lent (cut (0 : Nat) (List.length l30) l30)]) fun r31 =>
                    asOwn r31 fun l32 =>
                    sif ((0 : Int) ≤ i28) <|
                    sif (Int.toNat i28 < List.length l11) <|
                    sif ((0 : Nat) + List.length l32 ≤ List.length l32) <|
                    getK l11 ((0 : Nat) + Int.toNat i28) fun d33 =>
                    sif ((0 : Nat) + List.length l32 ≤ List.length l32) <|
                    sif (D.isAgg d33 = false) <|
                    sif (List.length l11 =   List.length (List.set l11 ((0 : Nat) + Int.toNat i28) (D.sl Tag.fresh (cut (0 : Nat) (List.length l32) l32)))) <|
                    sif (List.all (List.set l11 ((0 : Nat) + Int.toNat i28) (D.sl Tag.fresh (cut (0 : Nat) (List.length l32) l32))) D.free = true) <|
                    some (D.tup   [D.sl Tag.own (List.set l11 ((0 : Nat) + Int.toNat i28) (D.sl Tag.fresh (cut (0 : Nat) (List.length l32) l32))),     D.bool true]))
                    (sif ((0 : Nat) + List.length l2 ≤ List.length l2) <|
                    brK ((↑(List.length l2) : Int) == (1 : Int))
                      (sif ((0 : Nat) < List.length l2) <|
                      getK l2 ((0 : Nat)) fun d34 =>
                      asI IntKind.i64 d34 fun i35 =>
                      sif ((0 : Nat) < List.length l2) <|
                      getK l2 ((0 : Nat)) fun d36 =>
                      asI IntKind.i64 d36 fun i37 =>
                      sif ((0 : Nat) + List.length l11 ≤ List.length l11) <|
                      bindK (F_erase_byQ [D.sl Tag.lent a2, D.sl Tag.lent (cut (0 : Nat) (List.length l11) l11), D.int IntKind.i64 i37]) fun r38 =>
                      asOwn r38 fun l39 =>
                      sif ((0 : Int) ≤ i35) <|
                      sif (Int.toNat i35 < List.length l11) <|
                      sif ((0 : Nat) + List.length l39 ≤ List.length l39) <|
                      getK l11 ((0 : Nat) + Int.toNat i35) fun d40 =>
                      sif ((0 : Nat) + List.length l39 ≤ List.length l39) <|
                      sif (D.isAgg d40 = false) <|
                      sif (List.length l11 =   List.length (List.set l11 ((0 : Nat) + Int.toNat i35) (D.sl Tag.fresh (cut (0 : Nat) (List.length l39) l39)))) <|
                      sif (List.all (List.set l11 ((0 : Nat) + Int.toNat i35) (D.sl Tag.fresh (cut (0 : Nat) (List.length l39) l39))) D.free = true) <|
                      some (D.tup   [D.sl Tag.own (List.set l11 ((0 : Nat) + Int.toNat i35) (D.sl Tag.fresh (cut (0 : Nat) (List.length l39) l39))),     D.bool true]))
                      (sif (List.length l11 = List.length l11) <|
                      sif (List.all l11 D.free = true) <|
                      some (D.tup [D.sl Tag.own l11, D.bool true]))))
                  (sif ((0 : Nat) + List.length l2 ≤ List.length l2) <|
                  brK ((↑(List.length l2) : Int) == (1 : Int))
                    (sif ((0 : Nat) < List.length l2) <|
                    getK l2 ((0 : Nat)) fun d41 =>
                    asI IntKind.i64 d41 fun i42 =>
                    sif ((0 : Nat) < List.length l2) <|
                    getK l2 ((0 : Nat)) fun d43 =>
                    asI IntKind.i64 d43 fun i44 =>
                    sif ((0 : Nat) + List.length l11 ≤ List.length l11) <|
                    bindK (F_erase_byQ [D.sl Tag.lent a2, D.sl Tag.lent (cut (0 : Nat) (List.length l11) l11), D.int IntKind.i64 i44]) fun r45 =>
                    asOwn r45 fun l46 =>
                    sif ((0 : Int) ≤ i42) <|
                    sif (Int.toNat i42 < List.length l11) <|
                    sif ((0 : Nat) + List.length l46 ≤ List.length l46) <|
                    getK l11 ((0 : Nat) + Int.toNat i42) fun d47 =>
                    sif ((0 : Nat) + List.length l46 ≤ List.length l46) <|
                    sif (D.isAgg d47 = false) <|
                    sif (List.length l11 =   List.length (List.set l11 ((0 : Nat) + Int.toNat i42) (D.sl Tag.fresh (cut (0 : Nat) (List.length l46) l46)))) <|
                    sif (List.all (List.set l11 ((0 : Nat) + Int.toNat i42) (D.sl Tag.fresh (cut (0 : Nat) (List.length l46) l46))) D.free = true) <|
                    some (D.tup   [D.sl Tag.own (List.set l11 ((0 : Nat) + Int.toNat i42) (D.sl Tag.fresh (cut (0 : Nat) (List.length l46) l46))),     D.bool true]))
                    (sif (List.length l11 = List.length l11) <|
                    sif (List.all l11 D.free = true) <|
                    some (D.tup [D.sl Tag.own l11, D.bool true]))))))))))
theorem G_erase_Solve (F_erase_Missing : List D → Option D) (F_erase_fits : List D → Option D) (F_erase_filled : List D → Option D) (F_erase_two : List D → Option D) (F_synd_P : List D → Option D) (F_synd_Add : List D → Option D) (F_erase_byQ : List D → Option D) (tga1 : Tag) (tga2 : Tag) (tga3 : Tag) (a0 : Int) (a1 : List D) (a2 : List D) (a3 : List D) : denP Try.prog (penv' [(ID.erase_Missing, (.pure [1] F_erase_Missing)), (ID.erase_fits, (.pure [0] F_erase_fits)), (ID.erase_filled, (.pure [1] F_erase_filled)), (ID.erase_two, (.pure [1, 1] F_erase_two)), (ID.synd_P, (.pure [1] F_synd_P)), (ID.synd_Add, (.pure [1] F_synd_Add)), (ID.erase_byQ, (.pure [1] F_erase_byQ))]) ann_erase_Solve [1, 0] ID.erase_Solve [.int .i64 a0, .sl tga1 a1, .sl tga2 a2, .sl tga3 a3] = g_erase_Solve F_erase_Missing F_erase_fits F_erase_filled F_erase_two F_synd_P F_synd_Add F_erase_byQ a0 (D.lentL a1) (D.lentL a2) (D.lentL a3) := by kernel_rfl
theorem F_erase_Solve_eq (tga1 : Tag) (tga2 : Tag) (tga3 : Tag) (a0 : Int) (a1 : List D) (a2 : List D) (a3 : List D) : F_erase_Solve [.int .i64 a0, .sl tga1 a1, .sl tga2 a2, .sl tga3 a3] = g_erase_Solve F_erase_Missing F_erase_fits F_erase_filled F_erase_two F_synd_P F_synd_Add F_erase_byQ a0 (D.lentL a1) (D.lentL a2) (D.lentL a3) := G_erase_Solve F_erase_Missing F_erase_fits F_erase_filled F_erase_two F_synd_P F_synd_Add F_erase_byQ tga1 tga2 tga3 a0 a1 a2 a3
def ann_row_Take : Ann := { loops := [(1, [.dead, .val (.cell (.int .i64)), .val (.cell .lent), .box true [(.int .i64), (.int .i64), (.int .i64)], .dead, .dead, .dead, .dead, .own 1, .dead, .dead, .dead, .dead, .dead, .dead, .dead, .dead, .dead, .dead, .dead, .dead, .dead, .dead, .dead, .val (.cell (.int .i64)), .val (.cell (.int .i64))])] }
noncomputable def F_row_Take : List D → Option D := denP Try.prog (penv' [(ID.row_in, (.pure [0] F_row_in)), (ID.geom_Width, (.pure [0] F_geom_Width)), (ID.place_Disk, (.pure [0] F_place_Disk)), (ID.place_Parity, (.pure [0, 0] F_place_Parity)), (ID.erase_Solve, (.pure [1, 0] F_erase_Solve))]) ann_row_Take [1, 0] ID.row_Take
theorem sound_row_Take : Sound Try.prog ID.row_Take (.pure [1, 0] F_row_Take) := denP_sound (penv_ok [fact_row_in, fact_geom_Width, fact_place_Disk, fact_place_Parity, fact_erase_Solve]) mixed ⟨Try.f52, by kernel_rfl, by kernel_rfl, by kernel_rfl⟩
noncomputable def fact_row_Take : Fact Try.prog := ⟨ID.row_Take, (.pure [1, 0] F_row_Take), sound_row_Take⟩
noncomputable def g_row_Take (F_row_in : List D → Option D) (F_geom_Width : List D → Option D) (F_place_Disk : List D → Option D) (F_place_Parity : List D → Option D) (F_erase_Solve : List D → Option D) (a0_0 : Int) (a0_1 : Int) (a0_2 : Int) (a1 : Int) (a2 : List D) : Option D :=
  bindK (F_row_in [D.agg [D.int IntKind.i64 a0_0, D.int IntKind.i64 a0_1, D.int IntKind.i64 a0_2], D.int IntKind.i64 a1]) fun r1 =>
  asB r1 fun b2 =>
  brK (!b2)
    (some (D.tup [D.sl Tag.own [], D.bool false]))
    (brK ((↑(List.length a2) : Int) != a0_1)
      (some (D.tup [D.sl Tag.own [], D.bool false]))
      (bindK (F_geom_Width [D.agg [D.int IntKind.i64 a0_0, D.int IntKind.i64 a0_1, D.int IntKind.i64 a0_2]]) fun r3 =>
      asI IntKind.i64 r3 fun i4 =>
      loopN (α := (Int × List D × (Int × Int × Int × PUnit) × List D × Int × Int × PUnit) × PUnit) (fun again5 ((i6, (l7, ((i8, (i9, (i10, _))), (l11, (i12, (i13, _)))))), _) =>
        brK (decide (i13 < i12))
          (bindK (F_place_Disk   [D.agg [D.int IntKind.i64 i8, D.int IntKind.i64 i9, D.int IntKind.i64 i10], D.int IntKind.i64 i6,     D.int IntKind.i64 i13]) fun r14 =>
          asI IntKind.i64 r14 fun i15 =>
          sif ((0 : Int) ≤ i15) <|
          getK l7 (Int.toNat i15) fun d16 =>
          asSl d16 fun t17 l18 =>
          sif (List.length l11 + (1 : Nat) ≤ (4294967296 : Nat)) <|
          sif (List.length l11 = List.length l11) <|
          letN (IntKind.wrap IntKind.i64 (i13 + (1 : Int))) fun n19 =>
          sif (List.length l11 + (1 : Nat) = List.length (l11 ++ [D.sl t17 l18])) <|
          again5 (((i6, l7, (i8, i9, i10, PUnit.unit), l11 ++ [D.sl t17 l18], i12, n19, PUnit.unit), PUnit.unit)))
          (bindK (F_place_Parity [D.agg [D.int IntKind.i64 i8, D.int IntKind.i64 i9, D.int IntKind.i64 i10], D.int IntKind.i64 i6]) fun r20 =>
          asTup r20 fun ts21 =>
          getCells ([Lf.any, Lf.any]) ts21 fun c22 =>
          asI IntKind.i64 c22.fst fun i23 =>
          asI IntKind.i64 c22.snd.fst fun i24 =>
          brK (decide (i24 < (0 : Int)))
            (sif ((0 : Int) ≤ i23) <|
            getK l7 (Int.toNat i23) fun d25 =>
            asSl d25 fun t26 l27 =>
            sif ((0 : Nat) + List.length l11 ≤ List.length l11) <|
            bindK (F_erase_Solve   [D.int IntKind.i64 (32 : Int), D.sl t26 l27, D.sl Tag.nil [], D.sl Tag.lent (cut (0 : Nat) (List.length l11) l11)]) fun r28 =>
            asTup r28 fun ts29 =>
            getCells ([Lf.any, Lf.any]) ts29 fun c30 =>
            asOwn c30.fst fun l31 =>
            asB c30.snd.fst fun b32 =>
            sif (List.length l31 = List.length l31) <|
            sif (List.all l31 D.free = true) <|
            some (D.tup [D.sl Tag.own l31, D.bool b32]))
            (sif ((0 : Int) ≤ i23) <|
            getK l7 (Int.toNat i23) fun d33 =>
            asSl d33 fun t34 l35 =>
            sif ((0 : Int) ≤ i24) <|
            getK l7 (Int.toNat i24) fun d36 =>
            asSl d36 fun t37 l38 =>
            sif ((0 : Nat) + List.length l11 ≤ List.length l11) <|
            bindK (F_erase_Solve   [D.int IntKind.i64 (32 : Int), D.sl t34 l35, D.sl t37 l38, D.sl Tag.lent (cut (0 : Nat) (List.length l11) l11)]) fun r39 =>
            asTup r39 fun ts40 =>
            getCells ([Lf.any, Lf.any]) ts40 fun c41 =>
            asOwn c41.fst fun l42 =>
            asB c41.snd.fst fun b43 =>
            sif (List.length l42 = List.length l42) <|
            sif (List.all l42 D.free = true) <|
            some (D.tup [D.sl Tag.own l42, D.bool b43]))))
        (((a1, a2, (a0_0, a0_1, a0_2, PUnit.unit), [], i4, (0 : Int), PUnit.unit), PUnit.unit))))
theorem G_row_Take (F_row_in : List D → Option D) (F_geom_Width : List D → Option D) (F_place_Disk : List D → Option D) (F_place_Parity : List D → Option D) (F_erase_Solve : List D → Option D) (tga2 : Tag) (a0_0 : Int) (a0_1 : Int) (a0_2 : Int) (a1 : Int) (a2 : List D) : denP Try.prog (penv' [(ID.row_in, (.pure [0] F_row_in)), (ID.geom_Width, (.pure [0] F_geom_Width)), (ID.place_Disk, (.pure [0] F_place_Disk)), (ID.place_Parity, (.pure [0, 0] F_place_Parity)), (ID.erase_Solve, (.pure [1, 0] F_erase_Solve))]) ann_row_Take [1, 0] ID.row_Take [.agg [.int .i64 a0_0, .int .i64 a0_1, .int .i64 a0_2], .int .i64 a1, .sl tga2 a2] = g_row_Take F_row_in F_geom_Width F_place_Disk F_place_Parity F_erase_Solve a0_0 a0_1 a0_2 a1 (D.lentL a2) := by kernel_rfl
theorem F_row_Take_eq (tga2 : Tag) (a0_0 : Int) (a0_1 : Int) (a0_2 : Int) (a1 : Int) (a2 : List D) : F_row_Take [.agg [.int .i64 a0_0, .int .i64 a0_1, .int .i64 a0_2], .int .i64 a1, .sl tga2 a2] = g_row_Take F_row_in F_geom_Width F_place_Disk F_place_Parity F_erase_Solve a0_0 a0_1 a0_2 a1 (D.lentL a2) := G_row_Take F_row_in F_geom_Width F_place_Disk F_place_Parity F_erase_Solve tga2 a0_0 a0_1 a0_2 a1 a2
def ann_stripe_Read : Ann := { loops := [(1, [.val (.cell (.hnd (5312 : Nat))), .val (.cell .lent), .dead, .val (.cell (.int .i64)), .dead, .dead, .box true [(.int .i64), (.int .i64), (.int .i64)], .dead, .dead, .dead, .own 1, .dead, .dead, .dead, .dead, .dead, .dead, .dead, .dead, .dead, .dead, .dead, .dead, .dead, .dead, .dead, .dead, .dead, .dead, .dead, .dead, .val (.cell (.int .i64)), .val (.cell (.int .i64))])], ks := [(5312, false), (6561, false)] }
noncomputable def F_stripe_Read : List D → List Tb → Option Ans := denS Try.prog (penv' [(ID.geom_Check, (.pure [0] F_geom_Check)), (ID.stripe_up, (.st [] [0] [(5312, false), (6561, false)] F_stripe_up)), (ID.bench_Bench_Read, (.st [] [1, 0] [(5312, false), (6561, false)] F_bench_Bench_Read)), (ID.row_Take, (.pure [1, 0] F_row_Take))]) ann_stripe_Read [1, 0] ID.stripe_Read
theorem sound_stripe_Read : Sound Try.prog ID.stripe_Read (.st [] [1, 0] [(5312, false), (6561, false)] F_stripe_Read) := denS_sound (penv_ok [fact_geom_Check, fact_stripe_up, fact_bench_Bench_Read, fact_row_Take]) mixed ⟨Try.f28, by kernel_rfl, by kernel_rfl, by kernel_rfl⟩
noncomputable def fact_stripe_Read : Fact Try.prog := ⟨ID.stripe_Read, (.st [] [1, 0] [(5312, false), (6561, false)] F_stripe_Read), sound_stripe_Read⟩
noncomputable def g_stripe_Read (F_geom_Check : List D → Option D) (F_stripe_up : List D → List Tb → Option Ans) (F_bench_Bench_Read : List D → List Tb → Option Ans) (F_row_Take : List D → Option D) (a0 : Nat) (a1 : List D) (a2_0 : Int) (a2_1 : Int) (a2_2 : Int) (a3 : Int) (T0 : Tb) (T1 : Tb) : Option Ans :=
  bindK (F_geom_Check [D.agg [D.int IntKind.i64 a2_0, D.int IntKind.i64 a2_1, D.int IntKind.i64 a2_2]]) fun r1 =>
  asI IntKind.i64 r1 fun i2 =>
  brK (i2 != (0 : Int))
    (some (Ans.mk (D.tup [D.sl Tag.own [], D.int IntKind.i64 (1 : Int)]) [] []))
    (brK (decide (a3 < (0 : Int)))
      (some (Ans.mk (D.tup [D.sl Tag.own [], D.int IntKind.i64 (1 : Int)]) [] []))
      (brK (decide (a3 ≥ (16 : Int)))
        (some (Ans.mk (D.tup [D.sl Tag.own [], D.int IntKind.i64 (1 : Int)]) [] []))
        (sif ((0 : Int) ≤ a2_1) <|
        sif (a2_1 = a2_1) <|
        sif (a2_1 * (24 : Int) ≤ (140737488355328 : Int)) <|
        sif (a2_1 ≤ (140737488355328 : Int)) <|
        sif ((0 : Nat) + Int.toNat a2_1 ≤ List.length (List.replicate (Int.toNat a2_1) (D.sl Tag.nil []))) <|
        sif (Int.toNat a2_1 = List.length (List.replicate (Int.toNat a2_1) (D.sl Tag.nil []))) <|
        loopN (α := (Nat × List D × Int × (Int × Int × Int × PUnit) × List D × Int × Int × PUnit) × List (List D) × List (List D) × PUnit) (fun again3 ((x4, (l5, (i6, ((i7, (i8, (i9, _))), (l10, (i11, (i12, _))))))), (U13, (U14, _))) =>
          brK (decide (i12 < i11))
            (bindK (F_stripe_up [D.h (5312) x4 (0 : Nat), D.sl Tag.lent l5, D.int IntKind.i64 i12] [U13, U14]) fun r15 =>
            nilK r15.outs <|
            nilK r15.tbs <|
            asB r15.r fun b16 =>
            brK (!b16)
              (letN (IntKind.wrap IntKind.i64 (i12 + (1 : Int))) fun n17 =>
              sif (List.length l10 = List.length l10) <|
              again3 (((x4, l5, i6, (i7, i8, i9, PUnit.unit), l10, i11, n17, PUnit.unit), U13, U14, PUnit.unit)))
              (letN (IntKind.wrap IntKind.i64 ((36 : Int) + i6)) fun n18 =>
              bindK (F_bench_Bench_Read [D.h (5312) x4 (0 : Nat), D.int IntKind.i64 i12, D.int IntKind.i64 n18] [U13, U14]) fun r19 =>
              nilK r19.outs <|
              nilK r19.tbs <|
              asTup r19.r fun ts20 =>
              getCells ([Lf.any, Lf.any]) ts20 fun c21 =>
              asOwn c21.fst fun l22 =>
              asI IntKind.i64 c21.snd.fst fun i23 =>
              brK (i23 != (0 : Int))
                (some (Ans.mk (D.tup [D.sl Tag.own [], D.int IntKind.i64 i23]) [] []))
                (sif ((0 : Int) ≤ i12) <|
                sif (Int.toNat i12 < List.length l10) <|
                sif ((0 : Nat) + List.length l22 ≤ List.length l22) <|
                getK l10 ((0 : Nat) + Int.toNat i12) fun d24 =>
                sif ((0 : Nat) + List.length l22 ≤ List.length l22) <|
                sif (D.isAgg d24 = false) <|
                letN (IntKind.wrap IntKind.i64 (i12 + (1 : Int))) fun n25 =>
                sif (List.length l10 =   List.length (List.set l10 ((0 : Nat) + Int.toNat i12) (D.sl Tag.fresh (cut (0 : Nat) (List.length l22) l22)))) <|
                again3 (((x4, l5, i6, (i7, i8, i9, PUnit.unit),     List.set l10 ((0 : Nat) + Int.toNat i12) (D.sl Tag.fresh (cut (0 : Nat) (List.length l22) l22)), i11, n25,     PUnit.unit),   U13, U14, PUnit.unit)))))
            (sif ((0 : Nat) + List.length l10 ≤ List.length l10) <|
            bindK (F_row_Take   [D.agg [D.int IntKind.i64 i7, D.int IntKind.i64 i8, D.int IntKind.i64 i9], D.int IntKind.i64 i6,     D.sl Tag.lent (cut (0 : Nat) (List.length l10) l10)]) fun r26 =>
            asTup r26 fun ts27 =>
            getCells ([Lf.any, Lf.any]) ts27 fun c28 =>
            asOwn c28.fst fun l29 =>
            asB c28.snd.fst fun b30 =>
            brK (!b30)
              (some (Ans.mk (D.tup [D.sl Tag.own [], D.int IntKind.i64 (7 : Int)]) [] []))
              (sif (List.length l29 = List.length l29) <|
              sif (List.all l29 D.free = true) <|
              some (Ans.mk (D.tup [D.sl Tag.own l29, D.int IntKind.i64 (0 : Int)]) [] []))))
          (((a0, a1, a3, (a2_0, a2_1, a2_2, PUnit.unit), List.replicate (Int.toNat a2_1) (D.sl Tag.nil []),     (↑(Int.toNat a2_1) : Int), (0 : Int), PUnit.unit),   T0, T1, PUnit.unit)))))
theorem G_stripe_Read (F_geom_Check : List D → Option D) (F_stripe_up : List D → List Tb → Option Ans) (F_bench_Bench_Read : List D → List Tb → Option Ans) (F_row_Take : List D → Option D) (tga1 : Tag) (a0 : Nat) (a1 : List D) (a2_0 : Int) (a2_1 : Int) (a2_2 : Int) (a3 : Int) (T0 : Tb) (T1 : Tb) : denS Try.prog (penv' [(ID.geom_Check, (.pure [0] F_geom_Check)), (ID.stripe_up, (.st [] [0] [(5312, false), (6561, false)] F_stripe_up)), (ID.bench_Bench_Read, (.st [] [1, 0] [(5312, false), (6561, false)] F_bench_Bench_Read)), (ID.row_Take, (.pure [1, 0] F_row_Take))]) ann_stripe_Read [1, 0] ID.stripe_Read [.h 5312 a0 0, .sl tga1 a1, .agg [.int .i64 a2_0, .int .i64 a2_1, .int .i64 a2_2], .int .i64 a3] [T0, T1] = g_stripe_Read F_geom_Check F_stripe_up F_bench_Bench_Read F_row_Take a0 (D.lentL a1) a2_0 a2_1 a2_2 a3 T0 T1 := by kernel_rfl
theorem F_stripe_Read_eq (tga1 : Tag) (a0 : Nat) (a1 : List D) (a2_0 : Int) (a2_1 : Int) (a2_2 : Int) (a3 : Int) (T0 : Tb) (T1 : Tb) : F_stripe_Read [.h 5312 a0 0, .sl tga1 a1, .agg [.int .i64 a2_0, .int .i64 a2_1, .int .i64 a2_2], .int .i64 a3] [T0, T1] = g_stripe_Read F_geom_Check F_stripe_up F_bench_Bench_Read F_row_Take a0 (D.lentL a1) a2_0 a2_1 a2_2 a3 T0 T1 := G_stripe_Read F_geom_Check F_stripe_up F_bench_Bench_Read F_row_Take tga1 a0 a1 a2_0 a2_1 a2_2 a3 T0 T1
def ann_wattleref01_Numbers : Ann := { loops := [(1, [.dead, .val (.cell (.int .i64)), .box true [(.int .i64), (.int .i64), (.int .i64)], .dead, .dead, .own 1, .val (.cell (.int .i64))])] }
noncomputable def F_wattleref01_Numbers : List D → Option D := denP Try.prog (penv' [(ID.wattleref01_fine, (.pure [0] F_wattleref01_fine)), (ID.wattleref01_Width, (.pure [0] F_wattleref01_Width))]) ann_wattleref01_Numbers [1] ID.wattleref01_Numbers
theorem sound_wattleref01_Numbers : Sound Try.prog ID.wattleref01_Numbers (.pure [1] F_wattleref01_Numbers) := denP_sound (penv_ok [fact_wattleref01_fine, fact_wattleref01_Width]) mixed ⟨Try.f29, by kernel_rfl, by kernel_rfl, by kernel_rfl⟩
noncomputable def fact_wattleref01_Numbers : Fact Try.prog := ⟨ID.wattleref01_Numbers, (.pure [1] F_wattleref01_Numbers), sound_wattleref01_Numbers⟩
noncomputable def g_wattleref01_Numbers (F_wattleref01_fine : List D → Option D) (F_wattleref01_Width : List D → Option D) (a0_0 : Int) (a0_1 : Int) (a0_2 : Int) (a1 : Int) : Option D :=
  bindK (F_wattleref01_fine   [D.agg [D.int IntKind.i64 a0_0, D.int IntKind.i64 a0_1, D.int IntKind.i64 a0_2], D.int IntKind.i64 a1]) fun r1 =>
  asB r1 fun b2 =>
  brK (!b2)
    (some (D.sl Tag.own []))
    (loopN (α := (Int × (Int × Int × Int × PUnit) × List D × Int × PUnit) × PUnit) (fun again3 ((i4, ((i5, (i6, (i7, _))), (l8, (i9, _)))), _) =>
      bindK (F_wattleref01_Width [D.agg [D.int IntKind.i64 i5, D.int IntKind.i64 i6, D.int IntKind.i64 i7]]) fun r10 =>
      asI IntKind.i64 r10 fun i11 =>
      brK (decide (i9 < i11))
        (sif (i7 ≠ (0 : Int)) <|
        letN (IntKind.wrap IntKind.i64 (Int.tdiv i4 i7)) fun n12 =>
        bindK (F_wattleref01_Width [D.agg [D.int IntKind.i64 i5, D.int IntKind.i64 i6, D.int IntKind.i64 i7]]) fun r13 =>
        asI IntKind.i64 r13 fun i14 =>
        letN (IntKind.wrap IntKind.i64 (n12 * i14)) fun n15 =>
        letN (IntKind.wrap IntKind.i64 (n15 + i9)) fun n16 =>
        letN (IntKind.wrap IntKind.i64 (n16 * i7)) fun n17 =>
        sif (i7 ≠ (0 : Int)) <|
        letN (Int.tmod i4 i7) fun n18 =>
        letN (IntKind.wrap IntKind.i64 (n17 + n18)) fun n19 =>
        sif (List.length l8 + (1 : Nat) ≤ (4294967296 : Nat)) <|
        sif (List.length l8 = List.length l8) <|
        letN (IntKind.wrap IntKind.i64 (i9 + (1 : Int))) fun n20 =>
        sif (List.length l8 + (1 : Nat) = List.length (l8 ++ [D.int IntKind.i64 n19])) <|
        again3 (((i4, (i5, i6, i7, PUnit.unit), l8 ++ [D.int IntKind.i64 n19], n20, PUnit.unit), PUnit.unit)))
        (sif (List.length l8 = List.length l8) <|
        sif (List.all l8 D.free = true) <|
        some (D.sl Tag.own l8)))
      (((a1, (a0_0, a0_1, a0_2, PUnit.unit), [], (0 : Int), PUnit.unit), PUnit.unit)))
theorem G_wattleref01_Numbers (F_wattleref01_fine : List D → Option D) (F_wattleref01_Width : List D → Option D) (a0_0 : Int) (a0_1 : Int) (a0_2 : Int) (a1 : Int) : denP Try.prog (penv' [(ID.wattleref01_fine, (.pure [0] F_wattleref01_fine)), (ID.wattleref01_Width, (.pure [0] F_wattleref01_Width))]) ann_wattleref01_Numbers [1] ID.wattleref01_Numbers [.agg [.int .i64 a0_0, .int .i64 a0_1, .int .i64 a0_2], .int .i64 a1] = g_wattleref01_Numbers F_wattleref01_fine F_wattleref01_Width a0_0 a0_1 a0_2 a1 := by kernel_rfl
theorem F_wattleref01_Numbers_eq (a0_0 : Int) (a0_1 : Int) (a0_2 : Int) (a1 : Int) : F_wattleref01_Numbers [.agg [.int .i64 a0_0, .int .i64 a0_1, .int .i64 a0_2], .int .i64 a1] = g_wattleref01_Numbers F_wattleref01_fine F_wattleref01_Width a0_0 a0_1 a0_2 a1 := G_wattleref01_Numbers F_wattleref01_fine F_wattleref01_Width a0_0 a0_1 a0_2 a1
def ann_geom_Capacity : Ann := { loops := [] }
noncomputable def F_geom_Capacity : List D → Option D := denP Try.prog (penv' [(ID.geom_Width, (.pure [0] F_geom_Width))]) ann_geom_Capacity [0] ID.geom_Capacity
theorem sound_geom_Capacity : Sound Try.prog ID.geom_Capacity (.pure [0] F_geom_Capacity) := denP_sound (penv_ok [fact_geom_Width]) mixed ⟨Try.f42, by kernel_rfl, by kernel_rfl, by kernel_rfl⟩
noncomputable def fact_geom_Capacity : Fact Try.prog := ⟨ID.geom_Capacity, (.pure [0] F_geom_Capacity), sound_geom_Capacity⟩
noncomputable def g_geom_Capacity (F_geom_Width : List D → Option D) (a0_0 : Int) (a0_1 : Int) (a0_2 : Int) : Option D :=
  bindK (F_geom_Width [D.agg [D.int IntKind.i64 a0_0, D.int IntKind.i64 a0_1, D.int IntKind.i64 a0_2]]) fun r1 =>
  asI IntKind.i64 r1 fun i2 =>
  letN (IntKind.wrap IntKind.i64 (i2 * (16 : Int))) fun n3 =>
  some (D.int IntKind.i64 n3)
theorem G_geom_Capacity (F_geom_Width : List D → Option D) (a0_0 : Int) (a0_1 : Int) (a0_2 : Int) : denP Try.prog (penv' [(ID.geom_Width, (.pure [0] F_geom_Width))]) ann_geom_Capacity [0] ID.geom_Capacity [.agg [.int .i64 a0_0, .int .i64 a0_1, .int .i64 a0_2]] = g_geom_Capacity F_geom_Width a0_0 a0_1 a0_2 := by kernel_rfl
theorem F_geom_Capacity_eq (a0_0 : Int) (a0_1 : Int) (a0_2 : Int) : F_geom_Capacity [.agg [.int .i64 a0_0, .int .i64 a0_1, .int .i64 a0_2]] = g_geom_Capacity F_geom_Width a0_0 a0_1 a0_2 := G_geom_Capacity F_geom_Width a0_0 a0_1 a0_2
def ann_place_Of : Ann := { loops := [] }
noncomputable def F_place_Of : List D → Option D := denP Try.prog (penv' [(ID.geom_Capacity, (.pure [0] F_geom_Capacity)), (ID.geom_Width, (.pure [0] F_geom_Width)), (ID.place_Disk, (.pure [0] F_place_Disk))]) ann_place_Of [0, 0, 0] ID.place_Of
theorem sound_place_Of : Sound Try.prog ID.place_Of (.pure [0, 0, 0] F_place_Of) := denP_sound (penv_ok [fact_geom_Capacity, fact_geom_Width, fact_place_Disk]) mixed ⟨Try.f54, by kernel_rfl, by kernel_rfl, by kernel_rfl⟩
noncomputable def fact_place_Of : Fact Try.prog := ⟨ID.place_Of, (.pure [0, 0, 0] F_place_Of), sound_place_Of⟩
noncomputable def g_place_Of (F_geom_Capacity : List D → Option D) (F_geom_Width : List D → Option D) (F_place_Disk : List D → Option D) (a0_0 : Int) (a0_1 : Int) (a0_2 : Int) (a1 : Int) : Option D :=
  brK (decide (a1 < (0 : Int)))
    (some (D.tup [D.int IntKind.i64 (0 : Int), D.int IntKind.i64 (0 : Int), D.bool false]))
    (bindK (F_geom_Capacity [D.agg [D.int IntKind.i64 a0_0, D.int IntKind.i64 a0_1, D.int IntKind.i64 a0_2]]) fun r1 =>
    asI IntKind.i64 r1 fun i2 =>
    brK (decide (a1 ≥ i2))
      (some (D.tup [D.int IntKind.i64 (0 : Int), D.int IntKind.i64 (0 : Int), D.bool false]))
      (sif (a0_2 ≠ (0 : Int)) <|
      letN (IntKind.wrap IntKind.i64 (Int.tdiv a1 a0_2)) fun n3 =>
      bindK (F_geom_Width [D.agg [D.int IntKind.i64 a0_0, D.int IntKind.i64 a0_1, D.int IntKind.i64 a0_2]]) fun r4 =>
      asI IntKind.i64 r4 fun i5 =>
      sif (i5 ≠ (0 : Int)) <|
      letN (IntKind.wrap IntKind.i64 (Int.tdiv n3 i5)) fun n6 =>
      letN (IntKind.wrap IntKind.i64 (n6 * a0_2)) fun n7 =>
      sif (a0_2 ≠ (0 : Int)) <|
      letN (Int.tmod a1 a0_2) fun n8 =>
      letN (IntKind.wrap IntKind.i64 (n7 + n8)) fun n9 =>
      bindK (F_geom_Width [D.agg [D.int IntKind.i64 a0_0, D.int IntKind.i64 a0_1, D.int IntKind.i64 a0_2]]) fun r10 =>
      asI IntKind.i64 r10 fun i11 =>
      sif (i11 ≠ (0 : Int)) <|
      letN (Int.tmod n3 i11) fun n12 =>
      bindK (F_place_Disk   [D.agg [D.int IntKind.i64 a0_0, D.int IntKind.i64 a0_1, D.int IntKind.i64 a0_2], D.int IntKind.i64 n9,     D.int IntKind.i64 n12]) fun r13 =>
      asI IntKind.i64 r13 fun i14 =>
      some (D.tup [D.int IntKind.i64 i14, D.int IntKind.i64 n9, D.bool true])))
theorem G_place_Of (F_geom_Capacity : List D → Option D) (F_geom_Width : List D → Option D) (F_place_Disk : List D → Option D) (a0_0 : Int) (a0_1 : Int) (a0_2 : Int) (a1 : Int) : denP Try.prog (penv' [(ID.geom_Capacity, (.pure [0] F_geom_Capacity)), (ID.geom_Width, (.pure [0] F_geom_Width)), (ID.place_Disk, (.pure [0] F_place_Disk))]) ann_place_Of [0, 0, 0] ID.place_Of [.agg [.int .i64 a0_0, .int .i64 a0_1, .int .i64 a0_2], .int .i64 a1] = g_place_Of F_geom_Capacity F_geom_Width F_place_Disk a0_0 a0_1 a0_2 a1 := by kernel_rfl
theorem F_place_Of_eq (a0_0 : Int) (a0_1 : Int) (a0_2 : Int) (a1 : Int) : F_place_Of [.agg [.int .i64 a0_0, .int .i64 a0_1, .int .i64 a0_2], .int .i64 a1] = g_place_Of F_geom_Capacity F_geom_Width F_place_Disk a0_0 a0_1 a0_2 a1 := G_place_Of F_geom_Capacity F_geom_Width F_place_Disk a0_0 a0_1 a0_2 a1
def ann_place_number : Ann := { loops := [] }
noncomputable def F_place_number : List D → Option D := denP Try.prog (penv' [(ID.geom_Width, (.pure [0] F_geom_Width))]) ann_place_number [0] ID.place_number
theorem sound_place_number : Sound Try.prog ID.place_number (.pure [0] F_place_number) := denP_sound (penv_ok [fact_geom_Width]) mixed ⟨Try.f78, by kernel_rfl, by kernel_rfl, by kernel_rfl⟩
noncomputable def fact_place_number : Fact Try.prog := ⟨ID.place_number, (.pure [0] F_place_number), sound_place_number⟩
noncomputable def g_place_number (F_geom_Width : List D → Option D) (a0_0 : Int) (a0_1 : Int) (a0_2 : Int) (a1 : Int) (a2 : Int) : Option D :=
  sif (a0_2 ≠ (0 : Int)) <|
  letN (IntKind.wrap IntKind.i64 (Int.tdiv a1 a0_2)) fun n1 =>
  bindK (F_geom_Width [D.agg [D.int IntKind.i64 a0_0, D.int IntKind.i64 a0_1, D.int IntKind.i64 a0_2]]) fun r2 =>
  asI IntKind.i64 r2 fun i3 =>
  letN (IntKind.wrap IntKind.i64 (n1 * i3)) fun n4 =>
  letN (IntKind.wrap IntKind.i64 (n4 + a2)) fun n5 =>
  letN (IntKind.wrap IntKind.i64 (n5 * a0_2)) fun n6 =>
  sif (a0_2 ≠ (0 : Int)) <|
  letN (Int.tmod a1 a0_2) fun n7 =>
  letN (IntKind.wrap IntKind.i64 (n6 + n7)) fun n8 =>
  some (D.int IntKind.i64 n8)
theorem G_place_number (F_geom_Width : List D → Option D) (a0_0 : Int) (a0_1 : Int) (a0_2 : Int) (a1 : Int) (a2 : Int) : denP Try.prog (penv' [(ID.geom_Width, (.pure [0] F_geom_Width))]) ann_place_number [0] ID.place_number [.agg [.int .i64 a0_0, .int .i64 a0_1, .int .i64 a0_2], .int .i64 a1, .int .i64 a2] = g_place_number F_geom_Width a0_0 a0_1 a0_2 a1 a2 := by kernel_rfl
theorem F_place_number_eq (a0_0 : Int) (a0_1 : Int) (a0_2 : Int) (a1 : Int) (a2 : Int) : F_place_number [.agg [.int .i64 a0_0, .int .i64 a0_1, .int .i64 a0_2], .int .i64 a1, .int .i64 a2] = g_place_number F_geom_Width a0_0 a0_1 a0_2 a1 a2 := G_place_number F_geom_Width a0_0 a0_1 a0_2 a1 a2
def ann_place_Numbers : Ann := { loops := [(1, [.dead, .val (.cell (.int .i64)), .box true [(.int .i64), (.int .i64), (.int .i64)], .dead, .dead, .own 1, .dead, .dead, .dead, .dead, .dead, .dead, .val (.cell (.int .i64)), .val (.cell (.int .i64))])] }
noncomputable def F_place_Numbers : List D → Option D := denP Try.prog (penv' [(ID.place_in, (.pure [0] F_place_in)), (ID.geom_Width, (.pure [0] F_geom_Width)), (ID.place_number, (.pure [0] F_place_number))]) ann_place_Numbers [1] ID.place_Numbers
theorem sound_place_Numbers : Sound Try.prog ID.place_Numbers (.pure [1] F_place_Numbers) := denP_sound (penv_ok [fact_place_in, fact_geom_Width, fact_place_number]) mixed ⟨Try.f55, by kernel_rfl, by kernel_rfl, by kernel_rfl⟩
noncomputable def fact_place_Numbers : Fact Try.prog := ⟨ID.place_Numbers, (.pure [1] F_place_Numbers), sound_place_Numbers⟩
noncomputable def g_place_Numbers (F_place_in : List D → Option D) (F_geom_Width : List D → Option D) (F_place_number : List D → Option D) (a0_0 : Int) (a0_1 : Int) (a0_2 : Int) (a1 : Int) : Option D :=
  bindK (F_place_in [D.agg [D.int IntKind.i64 a0_0, D.int IntKind.i64 a0_1, D.int IntKind.i64 a0_2], D.int IntKind.i64 a1]) fun r1 =>
  asB r1 fun b2 =>
  brK (!b2)
    (some (D.sl Tag.own []))
    (bindK (F_geom_Width [D.agg [D.int IntKind.i64 a0_0, D.int IntKind.i64 a0_1, D.int IntKind.i64 a0_2]]) fun r3 =>
    asI IntKind.i64 r3 fun i4 =>
    loopN (α := (Int × (Int × Int × Int × PUnit) × List D × Int × Int × PUnit) × PUnit) (fun again5 ((i6, ((i7, (i8, (i9, _))), (l10, (i11, (i12, _))))), _) =>
      brK (decide (i12 < i11))
        (bindK (F_place_number   [D.agg [D.int IntKind.i64 i7, D.int IntKind.i64 i8, D.int IntKind.i64 i9], D.int IntKind.i64 i6,     D.int IntKind.i64 i12]) fun r13 =>
        asI IntKind.i64 r13 fun i14 =>
        sif (List.length l10 + (1 : Nat) ≤ (4294967296 : Nat)) <|
        sif (List.length l10 = List.length l10) <|
        letN (IntKind.wrap IntKind.i64 (i12 + (1 : Int))) fun n15 =>
        sif (List.length l10 + (1 : Nat) = List.length (l10 ++ [D.int IntKind.i64 i14])) <|
        again5 (((i6, (i7, i8, i9, PUnit.unit), l10 ++ [D.int IntKind.i64 i14], i11, n15, PUnit.unit), PUnit.unit)))
        (sif (List.length l10 = List.length l10) <|
        sif (List.all l10 D.free = true) <|
        some (D.sl Tag.own l10)))
      (((a1, (a0_0, a0_1, a0_2, PUnit.unit), [], i4, (0 : Int), PUnit.unit), PUnit.unit)))
theorem G_place_Numbers (F_place_in : List D → Option D) (F_geom_Width : List D → Option D) (F_place_number : List D → Option D) (a0_0 : Int) (a0_1 : Int) (a0_2 : Int) (a1 : Int) : denP Try.prog (penv' [(ID.place_in, (.pure [0] F_place_in)), (ID.geom_Width, (.pure [0] F_geom_Width)), (ID.place_number, (.pure [0] F_place_number))]) ann_place_Numbers [1] ID.place_Numbers [.agg [.int .i64 a0_0, .int .i64 a0_1, .int .i64 a0_2], .int .i64 a1] = g_place_Numbers F_place_in F_geom_Width F_place_number a0_0 a0_1 a0_2 a1 := by kernel_rfl
theorem F_place_Numbers_eq (a0_0 : Int) (a0_1 : Int) (a0_2 : Int) (a1 : Int) : F_place_Numbers [.agg [.int .i64 a0_0, .int .i64 a0_1, .int .i64 a0_2], .int .i64 a1] = g_place_Numbers F_place_in F_geom_Width F_place_number a0_0 a0_1 a0_2 a1 := G_place_Numbers F_place_in F_geom_Width F_place_number a0_0 a0_1 a0_2 a1
def ann_stripe_One : Ann := { loops := [(3, [.dead, .dead, .dead, .val (.cell (.int .i64)), .dead, .dead, .dead, .dead, .dead, .dead, .dead, .dead, .dead, .own 1, .dead, .dead, .dead, .dead, .dead, .dead, .dead, .dead, .dead, .dead, .dead, .dead, .dead, .dead, .dead, .dead, .dead, .dead, .dead, .dead, .dead, .dead, .dead, .dead, .dead, .dead, .dead, .dead, .dead, .dead, .dead, .dead, .dead, .dead, .dead, .dead, .own 1, .val (.cell (.int .i64)), .val (.cell (.int .i64))])], ks := [(5312, false), (6561, false)] }
noncomputable def F_stripe_One : List D → List Tb → Option Ans := denS Try.prog (penv' [(ID.place_Of, (.pure [0, 0, 0] F_place_Of)), (ID.stripe_up, (.st [] [0] [(5312, false), (6561, false)] F_stripe_up)), (ID.bench_Bench_Read, (.st [] [1, 0] [(5312, false), (6561, false)] F_bench_Bench_Read)), (ID.stripe_Read, (.st [] [1, 0] [(5312, false), (6561, false)] F_stripe_Read)), (ID.place_Numbers, (.pure [1] F_place_Numbers))]) ann_stripe_One [0, 0] ID.stripe_One
theorem sound_stripe_One : Sound Try.prog ID.stripe_One (.st [] [0, 0] [(5312, false), (6561, false)] F_stripe_One) := denS_sound (penv_ok [fact_place_Of, fact_stripe_up, fact_bench_Bench_Read, fact_stripe_Read, fact_place_Numbers]) mixed ⟨Try.f30, by kernel_rfl, by kernel_rfl, by kernel_rfl⟩
noncomputable def fact_stripe_One : Fact Try.prog := ⟨ID.stripe_One, (.st [] [0, 0] [(5312, false), (6561, false)] F_stripe_One), sound_stripe_One⟩
noncomputable def g_stripe_One (F_place_Of : List D → Option D) (F_stripe_up : List D → List Tb → Option Ans) (F_bench_Bench_Read : List D → List Tb → Option Ans) (F_stripe_Read : List D → List Tb → Option Ans) (F_place_Numbers : List D → Option D) (a0 : Nat) (a1 : List D) (a2_0 : Int) (a2_1 : Int) (a2_2 : Int) (a3 : Int) (T0 : Tb) (T1 : Tb) : Option Ans :=
  bindK (F_place_Of [D.agg [D.int IntKind.i64 a2_0, D.int IntKind.i64 a2_1, D.int IntKind.i64 a2_2], D.int IntKind.i64 a3]) fun r1 =>
  asTup r1 fun ts2 =>
  getCells ([Lf.any, Lf.any, Lf.any]) ts2 fun c3 =>
  asI IntKind.i64 c3.fst fun i4 =>
  asI IntKind.i64 c3.snd.fst fun i5 =>
  asB c3.snd.snd.fst fun b6 =>
  brK (!b6)
    (some (Ans.mk (D.tup [D.sl Tag.nil [], D.int IntKind.i64 (4 : Int)]) [] []))
    (bindK (F_stripe_up [D.h (5312 : Nat) a0 (0 : Nat), D.sl Tag.lent a1, D.int IntKind.i64 i4] [T0, T1]) fun r7 =>
    nilK r7.outs <|
    nilK r7.tbs <|
    asB r7.r fun b8 =>
    brK b8
      (letN (IntKind.wrap IntKind.i64 ((36 : Int) + i5)) fun n9 =>
      bindK (F_bench_Bench_Read [D.h (5312 : Nat) a0 (0 : Nat), D.int IntKind.i64 i4, D.int IntKind.i64 n9] [T0, T1]) fun r10 =>
      nilK r10.outs <|
      nilK r10.tbs <|
      asTup r10.r fun ts11 =>
      getCells ([Lf.any, Lf.any]) ts11 fun c12 =>
      asOwn c12.fst fun l13 =>
      asI IntKind.i64 c12.snd.fst fun i14 =>
      sif ((0 : Nat) + List.length l13 ≤ List.length l13) <|
      sif (D.free (D.sl Tag.fresh (cut (0 : Nat) (List.length l13) l13)) = true) <|
      some (Ans.mk (D.tup [D.sl Tag.fresh (cut (0 : Nat) (List.length l13) l13), D.int IntKind.i64 i14]) [] []))
      (bindK (F_stripe_Read   [D.h (5312 : Nat) a0 (0 : Nat), D.sl Tag.lent a1,     D.agg [D.int IntKind.i64 a2_0, D.int IntKind.i64 a2_1, D.int IntKind.i64 a2_2], D.int IntKind.i64 i5]   [T0, T1]) fun r15 =>
      nilK r15.outs <|
      nilK r15.tbs <|
      asTup r15.r fun ts16 =>
      getCells ([Lf.any, Lf.any]) ts16 fun c17 =>
      asOwn c17.fst fun l18 =>
      asI IntKind.i64 c17.snd.fst fun i19 =>
      brK (i19 != (0 : Int))
        (some (Ans.mk (D.tup [D.sl Tag.nil [], D.int IntKind.i64 i19]) [] []))
        (bindK (F_place_Numbers [D.agg [D.int IntKind.i64 a2_0, D.int IntKind.i64 a2_1, D.int IntKind.i64 a2_2], D.int IntKind.i64 i5]) fun r20 =>
        asOwn r20 fun l21 =>
        sif ((0 : Nat) + List.length l21 ≤ List.length l21) <|
        sif (List.length l18 = List.length l18) <|
        sif (List.length l21 = List.length l21) <|
        loopN (α := (Int × List D × List D × Int × Int × PUnit) × List (List D) × List (List D) × PUnit) (fun again22 ((i23, (l24, (l25, (i26, (i27, _))))), (U28, (U29, _))) =>
          brK (decide (i27 < i26))
            (sif ((0 : Int) ≤ i27) <|
            sif (Int.toNat i27 < List.length l25) <|
            getK l25 ((0 : Nat) + Int.toNat i27) fun d30 =>
            asI IntKind.i64 d30 fun i31 =>
            brK (i31 == i23)
              (sif ((0 : Int) ≤ i27) <|
              sif (Int.toNat i27 < List.length l24) <|
              getK l24 ((0 : Nat) + Int.toNat i27) fun d32 =>
              asSl d32 fun t33 l34 =>
              sif (D.free (D.sl t33 l34) = true) <|
              some (Ans.mk (D.tup [D.sl t33 l34, D.int IntKind.i64 (0 : Int)]) [] []))
              (letN (IntKind.wrap IntKind.i64 (i27 + (1 : Int))) fun n35 =>
              sif (List.length l24 = List.length l24) <|
              sif (List.length l25 = List.length l25) <|
              again22 (((i23, l24, l25, i26, n35, PUnit.unit), U28, U29, PUnit.unit))))
            (some (Ans.mk (D.tup [D.sl Tag.nil [], D.int IntKind.i64 (4 : Int)]) [] [])))
          (((a3, l18, l21, (↑(List.length l21) : Int), (0 : Int), PUnit.unit), T0, T1, PUnit.unit)))))
theorem G_stripe_One (F_place_Of : List D → Option D) (F_stripe_up : List D → List Tb → Option Ans) (F_bench_Bench_Read : List D → List Tb → Option Ans) (F_stripe_Read : List D → List Tb → Option Ans) (F_place_Numbers : List D → Option D) (tga1 : Tag) (a0 : Nat) (a1 : List D) (a2_0 : Int) (a2_1 : Int) (a2_2 : Int) (a3 : Int) (T0 : Tb) (T1 : Tb) : denS Try.prog (penv' [(ID.place_Of, (.pure [0, 0, 0] F_place_Of)), (ID.stripe_up, (.st [] [0] [(5312, false), (6561, false)] F_stripe_up)), (ID.bench_Bench_Read, (.st [] [1, 0] [(5312, false), (6561, false)] F_bench_Bench_Read)), (ID.stripe_Read, (.st [] [1, 0] [(5312, false), (6561, false)] F_stripe_Read)), (ID.place_Numbers, (.pure [1] F_place_Numbers))]) ann_stripe_One [0, 0] ID.stripe_One [.h 5312 a0 0, .sl tga1 a1, .agg [.int .i64 a2_0, .int .i64 a2_1, .int .i64 a2_2], .int .i64 a3] [T0, T1] = g_stripe_One F_place_Of F_stripe_up F_bench_Bench_Read F_stripe_Read F_place_Numbers a0 (D.lentL a1) a2_0 a2_1 a2_2 a3 T0 T1 := by kernel_rfl
theorem F_stripe_One_eq (tga1 : Tag) (a0 : Nat) (a1 : List D) (a2_0 : Int) (a2_1 : Int) (a2_2 : Int) (a3 : Int) (T0 : Tb) (T1 : Tb) : F_stripe_One [.h 5312 a0 0, .sl tga1 a1, .agg [.int .i64 a2_0, .int .i64 a2_1, .int .i64 a2_2], .int .i64 a3] [T0, T1] = g_stripe_One F_place_Of F_stripe_up F_bench_Bench_Read F_stripe_Read F_place_Numbers a0 (D.lentL a1) a2_0 a2_1 a2_2 a3 T0 T1 := G_stripe_One F_place_Of F_stripe_up F_bench_Bench_Read F_stripe_Read F_place_Numbers tga1 a0 a1 a2_0 a2_1 a2_2 a3 T0 T1
def ann_wattlekeep_Same_byte : Ann := { loops := [(1, [.val (.cell .lent), .val (.cell .lent), .dead, .dead, .dead, .val (.cell (.int .i64))])] }
noncomputable def F_wattlekeep_Same_byte : List D → Option D := denP Try.prog (penv' []) ann_wattlekeep_Same_byte [0] ID.wattlekeep_Same_byte
theorem sound_wattlekeep_Same_byte : Sound Try.prog ID.wattlekeep_Same_byte (.pure [0] F_wattlekeep_Same_byte) := denP_sound (penv_ok []) mixed ⟨Try.f20, by kernel_rfl, by kernel_rfl, by kernel_rfl⟩
noncomputable def fact_wattlekeep_Same_byte : Fact Try.prog := ⟨ID.wattlekeep_Same_byte, (.pure [0] F_wattlekeep_Same_byte), sound_wattlekeep_Same_byte⟩
noncomputable def g_wattlekeep_Same_byte (a0 : List D) (a1 : List D) : Option D :=
  brK ((↑(List.length a0) : Int) != (↑(List.length a1) : Int))
    (some (D.bool false))
    (loopN (α := (List D × List D × Int × PUnit) × PUnit) (fun again1 ((l2, (l3, (i4, _))), _) =>
      brK (decide (i4 < (↑(List.length l2) : Int)))
        (sif ((0 : Int) ≤ i4) <|
        getK l2 (Int.toNat i4) fun d5 =>
        asI IntKind.u8 d5 fun i6 =>
        sif ((0 : Int) ≤ i4) <|
        getK l3 (Int.toNat i4) fun d7 =>
        asI IntKind.u8 d7 fun i8 =>
        brK (i6 != i8)
          (some (D.bool false))
          (letN (IntKind.wrap IntKind.i64 (i4 + (1 : Int))) fun n9 =>
          again1 (((l2, l3, n9, PUnit.unit), PUnit.unit))))
        (some (D.bool true)))
      (((a0, a1, (0 : Int), PUnit.unit), PUnit.unit)))
theorem G_wattlekeep_Same_byte (tga0 : Tag) (tga1 : Tag) (a0 : List D) (a1 : List D) : denP Try.prog (penv' []) ann_wattlekeep_Same_byte [0] ID.wattlekeep_Same_byte [.sl tga0 a0, .sl tga1 a1] = g_wattlekeep_Same_byte (D.lentL a0) (D.lentL a1) := by kernel_rfl
theorem F_wattlekeep_Same_byte_eq (tga0 : Tag) (tga1 : Tag) (a0 : List D) (a1 : List D) : F_wattlekeep_Same_byte [.sl tga0 a0, .sl tga1 a1] = g_wattlekeep_Same_byte (D.lentL a0) (D.lentL a1) := G_wattlekeep_Same_byte tga0 tga1 a0 a1
def ann_wattlelaw14_wakes : Ann := { loops := [], ks := [(5312, true), (6561, true)] }
noncomputable def F_wattlelaw14_wakes : List D → Option D := denT Try.prog (penv' [(ID.bench_New, (.st [] [0, 0] [(5312, true), (6561, true)] F_bench_New)), (ID.stripe_Read, (.st [] [1, 0] [(5312, false), (6561, false)] F_stripe_Read)), (ID.wattlekeep_Same_byte, (.pure [0] F_wattlekeep_Same_byte))]) ann_wattlelaw14_wakes [0] ID.wattlelaw14_wakes
theorem sound_wattlelaw14_wakes : Sound Try.prog ID.wattlelaw14_wakes (.pure [0] F_wattlelaw14_wakes) := denT_sound (penv_ok [fact_bench_New, fact_stripe_Read, fact_wattlekeep_Same_byte]) mixed ⟨Try.f33, by kernel_rfl, by kernel_rfl, by kernel_rfl⟩
noncomputable def fact_wattlelaw14_wakes : Fact Try.prog := ⟨ID.wattlelaw14_wakes, (.pure [0] F_wattlelaw14_wakes), sound_wattlelaw14_wakes⟩
noncomputable def g_wattlelaw14_wakes (F_bench_New : List D → List Tb → Option Ans) (F_stripe_Read : List D → List Tb → Option Ans) (F_wattlekeep_Same_byte : List D → Option D)  : Option D :=
  bindK (F_bench_New [D.int IntKind.i64 (3 : Int)] [[], []]) fun r1 =>
  nilK r1.outs <|
  consK r1.tbs fun c2 q3 =>
  consK q3 fun c4 q5 =>
  nilK q5 <|
  asTup r1.r fun ts6 =>
  getCells ([Lf.any, Lf.any]) ts6 fun c7 =>
  sif (okData c7.fst = true) <|
  asI IntKind.i64 c7.snd.fst fun i8 =>
  brK (i8 != (0 : Int))
    (some (D.bool false))
    (asNil c7.fst fun b9 =>
    brK b9
      (some (D.bool false))
      (bindK (F_stripe_Read   [c7.fst, D.sl Tag.full [D.bool true, D.bool true, D.bool true],     D.agg [D.int IntKind.i64 (5 : Int), D.int IntKind.i64 (3 : Int), D.int IntKind.i64 (1 : Int)],     D.int IntKind.i64 (4 : Int)]   [c2, c4]) fun r10 =>
      nilK r10.outs <|
      nilK r10.tbs <|
      asTup r10.r fun ts11 =>
      getCells ([Lf.any, Lf.any]) ts11 fun c12 =>
      asOwn c12.fst fun l13 =>
      asI IntKind.i64 c12.snd.fst fun i14 =>
      brK (i14 == (0 : Int))
        (sif ((0 : Nat) + List.length l13 ≤ List.length l13) <|
        brK ((↑(List.length l13) : Int) == (2 : Int))
          (sif ((0 : Nat) < List.length l13) <|
          getK l13 ((0 : Nat)) fun d15 =>
          asSl d15 fun t16 l17 =>
          bindK (F_wattlekeep_Same_byte   [D.sl t16 l17,     D.sl Tag.lent       [D.int IntKind.u8 (0 : Int), D.int IntKind.u8 (0 : Int), D.int IntKind.u8 (0 : Int), D.int IntKind.u8 (0 : Int),         D.int IntKind.u8 (0 : Int), D.int IntKind.u8 (0 : Int), D.int IntKind.u8 (0 : Int), D.int IntKind.u8 (0 : Int),         D.int IntKind.u8 (0 : Int), D.int IntKind.u8 (0 : Int), D.int IntKind.u8 (0 : Int), D.int IntKind.u8 (0 : Int),         D.int IntKind.u8 (0 : Int), D.int IntKind.u8 (0 : Int), D.int IntKind.u8 (0 : Int), D.int IntKind.u8 (0 : Int),         D.int IntKind.u8 (0 : Int), D.int IntKind.u8 (0 : Int), D.int IntKind.u8 (0 : Int), D.int IntKind.u8 (0 : Int),         D.int IntKind.u8 (0 : Int), D.int IntKind.u8 (0 : Int), D.int IntKind.u8 (0 : Int), D.int IntKind.u8 (0 : Int),         D.int IntKind.u8 (0 : Int), D.int IntKind.u8 (0 : Int), D.int IntKind.u8 (0 : Int), D.int IntKind.u8 (0 : Int),         D.int IntKind.u8 (0 : Int), D.int IntKind.u8 (0 : Int), D.int IntKind.u8 (0 : Int), D.int IntKind.u8 (0 : Int)]]) fun r18 =>
          asB r18 fun b19 =>
          some (D.bool b19))
          (some (D.bool false)))
        (some (D.bool false))))
theorem G_wattlelaw14_wakes (F_bench_New : List D → List Tb → Option Ans) (F_stripe_Read : List D → List Tb → Option Ans) (F_wattlekeep_Same_byte : List D → Option D)  : denT Try.prog (penv' [(ID.bench_New, (.st [] [0, 0] [(5312, true), (6561, true)] F_bench_New)), (ID.stripe_Read, (.st [] [1, 0] [(5312, false), (6561, false)] F_stripe_Read)), (ID.wattlekeep_Same_byte, (.pure [0] F_wattlekeep_Same_byte))]) ann_wattlelaw14_wakes [0] ID.wattlelaw14_wakes [] = sif (D.nohL [] = true) (g_wattlelaw14_wakes F_bench_New F_stripe_Read F_wattlekeep_Same_byte ) := by kernel_rfl
theorem F_wattlelaw14_wakes_eq  : F_wattlelaw14_wakes [] = sif (D.nohL [] = true) (g_wattlelaw14_wakes F_bench_New F_stripe_Read F_wattlekeep_Same_byte ) := G_wattlelaw14_wakes F_bench_New F_stripe_Read F_wattlekeep_Same_byte 
end Wf

