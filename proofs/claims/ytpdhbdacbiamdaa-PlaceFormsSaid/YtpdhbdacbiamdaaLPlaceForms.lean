/-
  A law's function, read off.
-/
import Derived.Test.YtpdhbdacbiamdaaX
import Derived.Test.YtpdhbdacbiamdaaY6
set_option linter.unusedVariables false
set_option linter.unusedSimpArgs false
set_option linter.unnecessarySimpa false
namespace Wf
open Go Go.RowKit Go.Proofs
def ann_wattlelaw08_PlaceForms : Ann := [(0, [.val (.cell (.int .i64)), .dead, .dead, .box true [(.int .i64), (.int .i64), (.int .i64)], .dead, .dead, .dead, .dead, .dead, .dead, .dead, .dead, .dead, .dead, .dead, .dead, .dead, .dead, .dead, .dead, .dead, .dead, .dead, .dead, .dead, .dead, .dead, .dead, .dead, .dead, .dead, .dead, .dead, .dead, .dead, .dead, .dead, .dead, .dead, .dead, .dead, .dead, .dead, .dead, .dead, .dead, .dead, .dead, .dead, .dead, .dead, .dead, .dead, .dead, .dead, .dead, .dead, .dead, .dead, .dead, .dead, .dead, .dead, .dead, .dead, .dead, .val (.cell .sl), .val (.cell (.int .i64)), .val (.cell (.int .i64))]), (3, [.val (.cell (.int .i64)), .dead, .dead, .box true [(.int .i64), (.int .i64), (.int .i64)], .dead, .dead, .box true [(.int .i64), (.int .i64), (.int .i64), (.int .i64), (.int .i64), (.int .i64), .sl, .sl], .dead, .dead, .dead, .dead, .dead, .dead, .dead, .dead, .dead, .dead, .dead, .dead, .dead, .dead, .dead, .dead, .dead, .dead, .dead, .dead, .dead, .dead, .dead, .dead, .dead, .dead, .dead, .dead, .dead, .dead, .dead, .dead, .dead, .dead, .dead, .dead, .dead, .dead, .dead, .dead, .dead, .dead, .dead, .dead, .dead, .dead, .dead, .dead, .dead, .dead, .dead, .dead, .dead, .dead, .dead, .dead, .dead, .dead, .dead, .val (.cell .sl), .val (.cell (.int .i64)), .val (.cell (.int .i64)), .dead, .dead, .dead, .dead, .dead, .dead, .dead, .dead, .dead, .dead, .dead, .dead, .dead, .dead, .dead, .dead, .dead, .dead, .dead, .dead, .dead, .dead, .dead, .dead, .dead, .dead, .dead, .dead, .dead, .dead, .dead, .dead, .dead, .val (.cell .sl), .val (.cell (.int .i64)), .val (.cell (.int .i64))])]
noncomputable def F_wattlelaw08_PlaceForms : List D → Option D := denP Try.prog (penv' [(ID.place_Parity, [0, 0], F_place_Parity), (ID.place_Numbers, [1], F_place_Numbers), (ID.wattlekeep_Same_int, [0], F_wattlekeep_Same_int), (ID.place_Of, [0, 0, 0], F_place_Of), (ID.place_Disk, [0], F_place_Disk), (ID.wattlekeep_Within, [0], F_wattlekeep_Within), (ID.place_Back, [0, 0, 0], F_place_Back), (ID.wattlelaw08_wakes, [0], F_wattlelaw08_wakes)]) ann_wattlelaw08_PlaceForms [0] ID.wattlelaw08_PlaceForms
theorem sound_wattlelaw08_PlaceForms : SoundP Try.prog ID.wattlelaw08_PlaceForms [0] F_wattlelaw08_PlaceForms := denP_sound (penv_ok [fact_place_Parity, fact_place_Numbers, fact_wattlekeep_Same_int, fact_place_Of, fact_place_Disk, fact_wattlekeep_Within, fact_place_Back, fact_wattlelaw08_wakes]) mixed ⟨Try.f13, by kernel_rfl, by kernel_rfl, by kernel_rfl⟩
noncomputable def fact_wattlelaw08_PlaceForms : Fact Try.prog := ⟨ID.wattlelaw08_PlaceForms, [0], F_wattlelaw08_PlaceForms, sound_wattlelaw08_PlaceForms⟩
noncomputable def g_wattlelaw08_PlaceForms (F_place_Parity : List D → Option D) (F_place_Numbers : List D → Option D) (F_wattlekeep_Same_int : List D → Option D) (F_place_Of : List D → Option D) (F_place_Disk : List D → Option D) (F_wattlekeep_Within : List D → Option D) (F_place_Back : List D → Option D) (F_wattlelaw08_wakes : List D → Option D) (a0 : Int) : Option D :=
  loopN (α := (Int × (Int × Int × Int × PUnit) × (Tag × List D) × Int × Int × PUnit) × PUnit) (fun again1 ((i2, ((i3, (i4, (i5, _))), ((t6, l7), (i8, (i9, _))))), _) =>
    brK (decide (i9 < i8))
      (sif ((0 : Int) ≤ i9) <|
      getK l7 (Int.toNat i9) fun d10 =>
      asAgg d10 fun cs11 =>
      getCells ([Lf.int IntKind.i64, Lf.int IntKind.i64, Lf.int IntKind.i64, Lf.int IntKind.i64, Lf.int IntKind.i64, Lf.int IntKind.i64,   Lf.sl, Lf.sl]) cs11 fun c12 =>
      bindK (F_place_Parity   [D.agg [D.int IntKind.i64 c12.fst, D.int IntKind.i64 c12.snd.fst, D.int IntKind.i64 c12.snd.snd.fst],     D.int IntKind.i64 c12.snd.snd.snd.fst]) fun r13 =>
      asTup r13 fun ts14 =>
      getCells ([Lf.any, Lf.any]) ts14 fun c15 =>
      asI IntKind.i64 c15.fst fun i16 =>
      asI IntKind.i64 c15.snd.fst fun i17 =>
      brK (i16 != c12.snd.snd.snd.snd.fst)
        (some (D.bool false))
        (brK (i17 != c12.snd.snd.snd.snd.snd.fst)
          (some (D.bool false))
          (bindK (F_place_Numbers   [D.agg [D.int IntKind.i64 c12.fst, D.int IntKind.i64 c12.snd.fst, D.int IntKind.i64 c12.snd.snd.fst],     D.int IntKind.i64 c12.snd.snd.snd.fst]) fun r18 =>
          asOwn r18 fun l19 =>
          sif ((0 : Nat) + List.length l19 ≤ List.length l19) <|
          bindK (F_wattlekeep_Same_int   [D.sl Tag.lent (cut (0 : Nat) (List.length l19) l19),     D.sl c12.snd.snd.snd.snd.snd.snd.snd.fst.fst c12.snd.snd.snd.snd.snd.snd.snd.fst.snd]) fun r20 =>
          asB r20 fun b21 =>
          brK (!b21)
            (some (D.bool false))
            (loopN (α := (Int ×     (Int × Int × Int × PUnit) ×       (Int × Int × Int × Int × Int × Int × (Tag × List D) × (Tag × List D) × PUnit) ×         (Tag × List D) × Int × Int × (Tag × List D) × Int × Int × PUnit) ×   PUnit) (fun again22 ((i23, ((i24, (i25, (i26, _))), ((i27, (i28, (i29, (i30, (i31, (i32, ((t33, l34), ((t35, l36), _)))))))), ((t37, l38), (i39, (i40, ((t41, l42), (i43, (i44, _))))))))), _) =>
              brK (decide (i44 < i43))
                (sif ((0 : Int) ≤ i44) <|
                getK l42 (Int.toNat i44) fun d45 =>
                asI IntKind.i64 d45 fun i46 =>
                sif ((0 : Int) ≤ i44) <|
                getK l36 (Int.toNat i44) fun d47 =>
                asI IntKind.i64 d47 fun i48 =>
                bindK (F_place_Of [D.agg [D.int IntKind.i64 i27, D.int IntKind.i64 i28, D.int IntKind.i64 i29], D.int IntKind.i64 i48]) fun r49 =>
                asTup r49 fun ts50 =>
                getCells ([Lf.any, Lf.any, Lf.any]) ts50 fun c51 =>
                asI IntKind.i64 c51.fst fun i52 =>
                asI IntKind.i64 c51.snd.fst fun i53 =>
                asB c51.snd.snd.fst fun b54 =>
                bindK (F_place_Disk   [D.agg [D.int IntKind.i64 i27, D.int IntKind.i64 i28, D.int IntKind.i64 i29], D.int IntKind.i64 i30,     D.int IntKind.i64 i44]) fun r55 =>
                asI IntKind.i64 r55 fun i56 =>
                brK (i56 != i46)
                  (some (D.bool false))
                  (brK (!b54)
                    (some (D.bool false))
                    (brK (i52 != i46)
                      (some (D.bool false))
                      (brK (i53 != i30)
                        (some (D.bool false))
                        (letN (IntKind.wrap IntKind.i64 (i44 + (1 : Int))) fun n57 =>
                        again22 (((i23, (i24, i25, i26, PUnit.unit), (i27, i28, i29, i30, i31, i32, (t33, l34), (t35, l36), PUnit.unit), (t37, l38), i39,     i40, (t41, l42), i43, n57, PUnit.unit),   PUnit.unit)))))))
                (letN (IntKind.wrap IntKind.i64 (i40 + (1 : Int))) fun n58 =>
                again1 (((i23, (i24, i25, i26, PUnit.unit), (t37, l38), i39, n58, PUnit.unit), PUnit.unit))))
              (((i2, (i3, i4, i5, PUnit.unit),     (c12.fst, c12.snd.fst, c12.snd.snd.fst, c12.snd.snd.snd.fst, c12.snd.snd.snd.snd.fst, c12.snd.snd.snd.snd.snd.fst,       (c12.snd.snd.snd.snd.snd.snd.fst.fst, c12.snd.snd.snd.snd.snd.snd.fst.snd),       (c12.snd.snd.snd.snd.snd.snd.snd.fst.fst, c12.snd.snd.snd.snd.snd.snd.snd.fst.snd), PUnit.unit),     (t6, l7), i8, i9, (c12.snd.snd.snd.snd.snd.snd.fst.fst, c12.snd.snd.snd.snd.snd.snd.fst.snd),     ↑(List.length c12.snd.snd.snd.snd.snd.snd.fst.snd), (0 : Int), PUnit.unit),   PUnit.unit))))))
      (bindK (F_wattlekeep_Within [D.int IntKind.i64 i2, D.int IntKind.i64 (100 : Int)]) fun r59 =>
      asI IntKind.i64 r59 fun i60 =>
      letN (IntKind.wrap IntKind.i64 ((1 : Int) + i60)) fun n61 =>
      bindK (F_place_Of   [D.agg [D.int IntKind.i64 i3, D.int IntKind.i64 i4, D.int IntKind.i64 i5],     D.int IntKind.i64 (IntKind.wrap IntKind.i64 ((0 : Int) - n61))]) fun r62 =>
      asTup r62 fun ts63 =>
      getCells ([Lf.any, Lf.any, Lf.any]) ts63 fun c64 =>
      asI IntKind.i64 c64.fst fun i65 =>
      asI IntKind.i64 c64.snd.fst fun i66 =>
      asB c64.snd.snd.fst fun b67 =>
      letN (IntKind.wrap IntKind.i64 ((31 : Int) + n61)) fun n68 =>
      bindK (F_place_Of [D.agg [D.int IntKind.i64 i3, D.int IntKind.i64 i4, D.int IntKind.i64 i5], D.int IntKind.i64 n68]) fun r69 =>
      asTup r69 fun ts70 =>
      getCells ([Lf.any, Lf.any, Lf.any]) ts70 fun c71 =>
      asI IntKind.i64 c71.fst fun i72 =>
      asI IntKind.i64 c71.snd.fst fun i73 =>
      asB c71.snd.snd.fst fun b74 =>
      letN (IntKind.wrap IntKind.i64 ((2 : Int) + n61)) fun n75 =>
      bindK (F_place_Back   [D.agg [D.int IntKind.i64 i3, D.int IntKind.i64 i4, D.int IntKind.i64 i5], D.int IntKind.i64 n75,     D.int IntKind.i64 (0 : Int)]) fun r76 =>
      asTup r76 fun ts77 =>
      getCells ([Lf.any, Lf.any, Lf.any]) ts77 fun c78 =>
      asI IntKind.i64 c78.fst fun i79 =>
      asI IntKind.i64 c78.snd.fst fun i80 =>
      asB c78.snd.snd.fst fun b81 =>
      letN (IntKind.wrap IntKind.i64 ((15 : Int) + n61)) fun n82 =>
      bindK (F_place_Back   [D.agg [D.int IntKind.i64 i3, D.int IntKind.i64 i4, D.int IntKind.i64 i5], D.int IntKind.i64 (0 : Int),     D.int IntKind.i64 n82]) fun r83 =>
      asTup r83 fun ts84 =>
      getCells ([Lf.any, Lf.any, Lf.any]) ts84 fun c85 =>
      asI IntKind.i64 c85.fst fun i86 =>
      asI IntKind.i64 c85.snd.fst fun i87 =>
      asB c85.snd.snd.fst fun b88 =>
      bindK (F_place_Parity   [D.agg [D.int IntKind.i64 i3, D.int IntKind.i64 i4, D.int IntKind.i64 i5],     D.int IntKind.i64 (IntKind.wrap IntKind.i64 ((0 : Int) - n61))]) fun r89 =>
      asTup r89 fun ts90 =>
      getCells ([Lf.any, Lf.any]) ts90 fun c91 =>
      asI IntKind.i64 c91.fst fun i92 =>
      asI IntKind.i64 c91.snd.fst fun i93 =>
      brK (!b67)
        (brK (!b74)
          (brK (!b81)
            (brK (!b88)
              (brK (i92 == (-1 : Int))
                (brK (i93 == (-1 : Int))
                  (bindK (F_place_Disk   [D.agg [D.int IntKind.i64 i3, D.int IntKind.i64 i4, D.int IntKind.i64 i5], D.int IntKind.i64 (0 : Int),     D.int IntKind.i64 (2 : Int)]) fun r94 =>
                  asI IntKind.i64 r94 fun i95 =>
                  brK (i95 == (-1 : Int))
                    (bindK (F_place_Disk   [D.agg [D.int IntKind.i64 i3, D.int IntKind.i64 i4, D.int IntKind.i64 i5], D.int IntKind.i64 (0 : Int),     D.int IntKind.i64 (IntKind.wrap IntKind.i64 ((0 : Int) - n61))]) fun r96 =>
                    asI IntKind.i64 r96 fun i97 =>
                    brK (i97 == (-1 : Int))
                      (letN (IntKind.wrap IntKind.i64 ((15 : Int) + n61)) fun n98 =>
                      bindK (F_place_Numbers [D.agg [D.int IntKind.i64 i3, D.int IntKind.i64 i4, D.int IntKind.i64 i5], D.int IntKind.i64 n98]) fun r99 =>
                      asOwn r99 fun l100 =>
                      sif ((0 : Nat) + List.length l100 ≤ List.length l100) <|
                      brK (↑(List.length l100) == (0 : Int))
                        (bindK (F_place_Numbers   [D.agg [D.int IntKind.i64 (0 : Int), D.int IntKind.i64 (0 : Int), D.int IntKind.i64 (0 : Int)],     D.int IntKind.i64 (0 : Int)]) fun r101 =>
                        asOwn r101 fun l102 =>
                        sif ((0 : Nat) + List.length l102 ≤ List.length l102) <|
                        brK (↑(List.length l102) == (0 : Int))
                          (bindK (F_wattlelaw08_wakes []) fun r103 =>
                          asB r103 fun b104 =>
                          some (D.bool b104))
                          (some (D.bool false)))
                        (some (D.bool false)))
                      (some (D.bool false)))
                    (some (D.bool false)))
                  (some (D.bool false)))
                (some (D.bool false)))
              (some (D.bool false)))
            (some (D.bool false)))
          (some (D.bool false)))
        (some (D.bool false))))
    (((a0, ((5 : Int), (3 : Int), (2 : Int), PUnit.unit),     (Tag.full,       [D.agg           [D.int IntKind.i64 (5 : Int), D.int IntKind.i64 (3 : Int), D.int IntKind.i64 (2 : Int),             D.int IntKind.i64 (0 : Int), D.int IntKind.i64 (2 : Int), D.int IntKind.i64 (-1 : Int),             D.sl Tag.full [D.int IntKind.i64 (0 : Int), D.int IntKind.i64 (1 : Int)],             D.sl Tag.full [D.int IntKind.i64 (0 : Int), D.int IntKind.i64 (2 : Int)]],         D.agg           [D.int IntKind.i64 (5 : Int), D.int IntKind.i64 (3 : Int), D.int IntKind.i64 (2 : Int),             D.int IntKind.i64 (1 : Int), D.int IntKind.i64 (2 : Int), D.int IntKind.i64 (-1 : Int),             D.sl Tag.full [D.int IntKind.i64 (0 : Int), D.int IntKind.i64 (1 : Int)],             D.sl Tag.full [D.int IntKind.i64 (1 : Int), D.int IntKind.i64 (3 : Int)]],         D.agg           [D.int IntKind.i64 (5 : Int), D.int IntKind.i64 (3 : Int), D.int IntKind.i64 (2 : Int),             D.int IntKind.i64 (2 : Int), D.int IntKind.i64 (1 : Int), D.int IntKind.i64 (-1 : Int),             D.sl Tag.full [D.int IntKind.i64 (2 : Int), D.int IntKind.i64 (0 : Int)],             D.sl Tag.full [D.int IntKind.i64 (4 : Int), D.int IntKind.i64 (6 : Int)]],         D.agg           [D.int IntKind.i64 (5 : Int), D.int IntKind.i64 (3 : Int), D.int IntKind.i64 (2 : Int),             D.int IntKind.i64 (4 : Int), D.int IntKind.i64 (0 : Int), D.int IntKind.i64 (-1 : Int),             D.sl Tag.full [D.int IntKind.i64 (1 : Int), D.int IntKind.i64 (2 : Int)],             D.sl Tag.full [D.int IntKind.i64 (8 : Int), D.int IntKind.i64 (10 : Int)]],         D.agg           [D.int IntKind.i64 (5 : Int), D.int IntKind.i64 (3 : Int), D.int IntKind.i64 (2 : Int),             D.int IntKind.i64 (7 : Int), D.int IntKind.i64 (2 : Int), D.int IntKind.i64 (-1 : Int),             D.sl Tag.full [D.int IntKind.i64 (0 : Int), D.int IntKind.i64 (1 : Int)],             D.sl Tag.full [D.int IntKind.i64 (13 : Int), D.int IntKind.i64 (15 : Int)]],         D.agg           [D.int IntKind.i64 (6 : Int), D.int IntKind.i64 (5 : Int), D.int IntKind.i64 (1 : Int),             D.int IntKind.i64 (0 : Int), D.int IntKind.i64 (4 : Int), D.int IntKind.i64 (0 : Int),             D.sl Tag.full [D.int IntKind.i64 (1 : Int), D.int IntKind.i64 (2 : Int), D.int IntKind.i64 (3 : Int)],             D.sl Tag.full [D.int IntKind.i64 (0 : Int), D.int IntKind.i64 (1 : Int), D.int IntKind.i64 (2 : Int)]],         D.agg           [D.int IntKind.i64 (6 : Int), D.int IntKind.i64 (5 : Int), D.int IntKind.i64 (1 : Int),             D.int IntKind.i64 (1 : Int), D.int IntKind.i64 (3 : Int), D.int IntKind.i64 (4 : Int),             D.sl Tag.full [D.int IntKind.i64 (0 : Int), D.int IntKind.i64 (1 : Int), D.int IntKind.i64 (2 : Int)],             D.sl Tag.full [D.int IntKind.i64 (3 : Int), D.int IntKind.i64 (4 : Int), D.int IntKind.i64 (5 : Int)]],         D.agg           [D.int IntKind.i64 (6 : Int), D.int IntKind.i64 (5 : Int), D.int IntKind.i64 (1 : Int),             D.int IntKind.i64 (4 : Int), D.int IntKind.i64 (0 : Int), D.int IntKind.i64 (1 : Int),             D.sl Tag.full [D.int IntKind.i64 (2 : Int), D.int IntKind.i64 (3 : Int), D.int IntKind.i64 (4 : Int)],             D.sl Tag.full [D.int IntKind.i64 (12 : Int), D.int IntKind.i64 (13 : Int), D.int IntKind.i64 (14 : Int)]],         D.agg           [D.int IntKind.i64 (6 : Int), D.int IntKind.i64 (5 : Int), D.int IntKind.i64 (1 : Int),             D.int IntKind.i64 (5 : Int), D.int IntKind.i64 (4 : Int), D.int IntKind.i64 (0 : Int),             D.sl Tag.full [D.int IntKind.i64 (1 : Int), D.int IntKind.i64 (2 : Int), D.int IntKind.i64 (3 : Int)],             D.sl Tag.full [D.int IntKind.i64 (15 : Int), D.int IntKind.i64 (16 : Int), D.int IntKind.i64 (17 : Int)]]]),     ↑(9 : Nat), (0 : Int), PUnit.unit),   PUnit.unit))
theorem G_wattlelaw08_PlaceForms (F_place_Parity : List D → Option D) (F_place_Numbers : List D → Option D) (F_wattlekeep_Same_int : List D → Option D) (F_place_Of : List D → Option D) (F_place_Disk : List D → Option D) (F_wattlekeep_Within : List D → Option D) (F_place_Back : List D → Option D) (F_wattlelaw08_wakes : List D → Option D) (a0 : Int) : denP Try.prog (penv' [(ID.place_Parity, [0, 0], F_place_Parity), (ID.place_Numbers, [1], F_place_Numbers), (ID.wattlekeep_Same_int, [0], F_wattlekeep_Same_int), (ID.place_Of, [0, 0, 0], F_place_Of), (ID.place_Disk, [0], F_place_Disk), (ID.wattlekeep_Within, [0], F_wattlekeep_Within), (ID.place_Back, [0, 0, 0], F_place_Back), (ID.wattlelaw08_wakes, [0], F_wattlelaw08_wakes)]) ann_wattlelaw08_PlaceForms [0] ID.wattlelaw08_PlaceForms [.int .i64 a0] = g_wattlelaw08_PlaceForms F_place_Parity F_place_Numbers F_wattlekeep_Same_int F_place_Of F_place_Disk F_wattlekeep_Within F_place_Back F_wattlelaw08_wakes a0 := by kernel_rfl
theorem F_wattlelaw08_PlaceForms_eq (a0 : Int) : F_wattlelaw08_PlaceForms [.int .i64 a0] = g_wattlelaw08_PlaceForms F_place_Parity F_place_Numbers F_wattlekeep_Same_int F_place_Of F_place_Disk F_wattlekeep_Within F_place_Back F_wattlelaw08_wakes a0 := G_wattlelaw08_PlaceForms F_place_Parity F_place_Numbers F_wattlekeep_Same_int F_place_Of F_place_Disk F_wattlekeep_Within F_place_Back F_wattlelaw08_wakes a0
end Wf

/-
  Places that are written out.
-/
namespace Wf
open Go Go.RowKit Go.Proofs
set_option linter.unusedSimpArgs false
set_option linter.unusedVariables false

structure RowF where
  l : Int
  d : Int
  c : Int
  row : Int
  p : Int
  q : Int
  ds : List Int
  ns : List Int
def RowF.D (r : RowF) : Wf.D := .agg [iD r.l, iD r.d, iD r.c, iD r.row, iD r.p, iD r.q, .sl Tag.full (iL r.ds), .sl Tag.full (iL r.ns)]
def rowsF : List RowF := [⟨5, 3, 2, 0, 2, -1, [0, 1], [0, 2]⟩, ⟨5, 3, 2, 1, 2, -1, [0, 1], [1, 3]⟩, ⟨5, 3, 2, 2, 1, -1, [2, 0], [4, 6]⟩, ⟨5, 3, 2, 4, 0, -1, [1, 2], [8, 10]⟩, ⟨5, 3, 2, 7, 2, -1, [0, 1], [13, 15]⟩,
  ⟨6, 5, 1, 0, 4, 0, [1, 2, 3], [0, 1, 2]⟩, ⟨6, 5, 1, 1, 3, 4, [0, 1, 2], [3, 4, 5]⟩, ⟨6, 5, 1, 4, 0, 1, [2, 3, 4], [12, 13, 14]⟩, ⟨6, 5, 1, 5, 4, 0, [1, 2, 3], [15, 16, 17]⟩]
def RowF.good (r : RowF) : Bool :=
  (parP ⟨r.l, r.d, r.c⟩ r.row == (r.p, r.q)) && (numsI ⟨r.l, r.d, r.c⟩ r.row == r.ns) && (r.ns.length == r.ds.length) && decide (r.ns.length < 9) &&
  (List.range r.ds.length).all fun j => (ofP ⟨r.l, r.d, r.c⟩ (r.ns.getD j 0) == (r.ds.getD j 0, r.row, true)) && (diskP ⟨r.l, r.d, r.c⟩ r.row (j : Int) == r.ds.getD j 0)
theorem rows_good : ∀ r ∈ rowsF, r.good = true := by
  intro r hr
  have : rowsF.all RowF.good = true := by rfl
  exact List.all_eq_true.1 this r hr

set_option maxHeartbeats 2000000 in
theorem placeForms (n : Int) : F_wattlelaw08_PlaceForms [.int .i64 n] = some (.bool true) := by
  rw [F_wattlelaw08_PlaceForms_eq]
  unfold g_wattlelaw08_PlaceForms
  refine loopN_spec (fun a => (9 - a.1.2.2.2.2.1).toNat) (fun _ => some (D.bool true)) (fun a => ∃ i : Nat, i ≤ 9 ∧ a = ((n, (5, 3, 2, PUnit.unit), (Tag.full, rowsF.map RowF.D), ((9 : Nat) : Int), (i : Int), PUnit.unit), PUnit.unit)) ?_ ⟨0, by omega, rfl⟩ ?_
  rotate_left
  · simp
  rintro again _ ⟨i, i0, rfl⟩ ih
  dsimp only
  by_cases hi : i < 9
  · have ihi := ih _ ⟨i + 1, by omega, rfl⟩ (by dsimp only; omega)
    have wi : IntKind.i64.wrap ((i : Int) + 1) = (i : Int) + 1 := wrap_fit (by omega) (by omega)
    obtain ⟨r, hr⟩ : ∃ r, rowsF[i]? = some r := ⟨_, List.getElem?_eq_getElem (show i < rowsF.length from hi)⟩
    have hgd := rows_good r (List.mem_of_getElem? hr)
    have hget : (rowsF.map RowF.D)[i]? = some r.D := by rw [List.getElem?_map, hr]; rfl
    clear hr ih
    obtain ⟨l, d, c, row, p, q, ds, ns⟩ := r
    unfold RowF.good at hgd
    simp only [Bool.and_eq_true, beq_iff_eq, decide_eq_true_eq, List.all_eq_true, List.mem_range] at hgd
    obtain ⟨⟨⟨⟨g1, g2⟩, g3⟩, g4⟩, g5⟩ := hgd
    simp only [show (i : Int) < ((9 : Nat) : Int) by omega, decide_true, brK_eq, if_true, Int.toNat_natCast]
    rw [sif_pos (by omega), getK_of hget]
    have hsame : F_wattlekeep_Same_int [D.sl Tag.lent (iL ns), D.sl Tag.full (iL ns)] = some (D.bool true) := by
      rw [same_int _ _ _ _ (by omega)]; simp
    simp only [RowF.D, asAgg_agg, getCells_int, getCells_sl, getCells_nil, iD, par_place', bindK_some_eq, asTup_tup, getCells_any, asI_int, g1, bne_self_eq_false, Bool.false_eq_true, if_false, nums_place', asOwn_own, numsD_iL, g2, cut_whole, hsame, asB_bool, Bool.not_true, iL_len]
    rw [sif_pos (by omega)]
    refine loopN_spec (fun a => ((ds.length : Int) - a.1.2.2.2.2.2.2.2.2.1).toNat) (fun _ => some (D.bool true)) (fun a => ∃ j : Nat, j ≤ ds.length ∧
      a = ((n, (5, 3, 2, PUnit.unit), (l, d, c, row, p, q, (Tag.full, iL ds), (Tag.full, iL ns), PUnit.unit), (Tag.full, rowsF.map RowF.D), ((9 : Nat) : Int), (i : Int), (Tag.full, iL ds), (ds.length : Int), (j : Int), PUnit.unit), PUnit.unit)) ?_ ⟨0, by omega, rfl⟩ ?_
    rotate_left
    · simp; omega
    rintro again2 _ ⟨j, j0, rfl⟩ ih2
    dsimp only
    by_cases hj : j < ds.length
    · have ihj := ih2 _ ⟨j + 1, by omega, rfl⟩ (by dsimp only; omega)
      have wj : IntKind.i64.wrap ((j : Int) + 1) = (j : Int) + 1 := wrap_fit (by omega) (by omega)
      obtain ⟨u, hu⟩ : ∃ u, ds[j]? = some u := ⟨ds[j], by simp [hj]⟩
      obtain ⟨v, hv⟩ : ∃ v, ns[j]? = some v := ⟨ns[j]'(by omega), by simp [g3, hj]⟩
      obtain ⟨o1, o2⟩ := g5 j hj
      simp only [List.getD_eq_getElem?_getD, hu, hv, Option.getD_some] at o1 o2
      simp only [show (j : Int) < (ds.length : Int) by omega, decide_true, if_true, Int.toNat_natCast]
      rw [sif_pos (by omega), getK_of (iL_get hu)]
      simp only [iD, asI_int]
      rw [sif_pos (by omega), getK_of (iL_get hv)]
      simp only [iD, asI_int, of_place', disk_place', o1, o2, bindK_some_eq, asTup_tup, getCells_any, getCells_nil, asB_bool, bne_self_eq_false, Bool.false_eq_true, if_false, Bool.not_true, letN_eq', wj]
      exact ihj
    · simp only [show ¬ (j : Int) < (ds.length : Int) by omega, decide_false, Bool.false_eq_true, if_false, letN_eq', wi]
      exact ihi
  · have hu : 1 ≤ 1 + n % 100 ∧ 1 + n % 100 ≤ 100 := by omega
    simp only [show ¬ (i : Int) < ((9 : Nat) : Int) by omega, decide_false, brK_eq, Bool.false_eq_true, if_false, within n 100 (by omega) (by omega), bindK_some_eq, iD, asI_int, letN_eq']
    rw [show IntKind.i64.wrap (1 + n % 100) = 1 + n % 100 from wrap_fit (by omega) (by omega)]
    generalize 1 + n % 100 = u at hu
    have w1 : IntKind.i64.wrap (-u) = -u := wrap_fit (by omega) (by omega)
    have w2 : IntKind.i64.wrap (31 + u) = 31 + u := wrap_fit (by omega) (by omega)
    have w3 : IntKind.i64.wrap (2 + u) = 2 + u := wrap_fit (by omega) (by omega)
    have w4 : IntKind.i64.wrap (15 + u) = 15 + u := wrap_fit (by omega) (by omega)
    have hcap : Geo.cap ⟨5, 3, 2⟩ = 32 := rfl
    have hf1 : fineP ⟨5, 3, 2⟩ (-u) = false := by rw [Bool.eq_false_iff]; intro h; have := fine_iff.1 h; omega
    have hf2 : fineP ⟨5, 3, 2⟩ (15 + u) = false := by rw [Bool.eq_false_iff]; intro h; have := fine_iff.1 h; omega
    have o1 : ofP ⟨5, 3, 2⟩ (-u) = (0, 0, false) := by unfold ofP; rw [if_neg (by omega)]
    have o2 : ofP ⟨5, 3, 2⟩ (31 + u) = (0, 0, false) := by unfold ofP; rw [if_neg (by omega)]
    have b1 : backP ⟨5, 3, 2⟩ (2 + u) 0 = (0, 0, false) := by unfold backP; rw [if_neg (by intro h; have := h.2.2; simp only at this; omega)]
    have b2 : backP ⟨5, 3, 2⟩ 0 (15 + u) = (0, 0, false) := by unfold backP; rw [if_neg (by rw [hf2]; simp)]
    have p1 : parP ⟨5, 3, 2⟩ (-u) = (-1, -1) := by unfold parP; rw [hf1]; rfl
    have k1 : diskP ⟨5, 3, 2⟩ 0 2 = -1 := rfl
    have k2 : diskP ⟨5, 3, 2⟩ 0 (-u) = -1 := by unfold diskP; rw [if_neg (by omega)]
    have n1 : numsD ⟨5, 3, 2⟩ (15 + u) = [] := by unfold numsD; rw [hf2]; rfl
    have n2 : numsD ⟨0, 0, 0⟩ 0 = [] := rfl
    simp [w1, w2, w3, w4, of_place', back_place', par_place', disk_place', nums_place', o1, o2, b1, b2, p1, k1, k2, n1, n2, wakes08]
end Wf

