/-
  A law's function, read off.
-/
import Derived.Test.YtpdhbdacbiamdaaX
import Derived.Test.YtpdhbdacbiamdaaY6
set_option linter.unusedVariables false
set_option linter.unusedSimpArgs false
set_option linter.unnecessarySimpa false
namespace Wf
open Go Go.RowKit Go.Proofs
def ann_wattlelaw08_PlaceTells : Ann := []
noncomputable def F_wattlelaw08_PlaceTells : List D → Option D := denP Try.prog (penv' [(ID.wattleplay_Geom, [0], F_wattleplay_Geom), (ID.wattlekeep_Within, [0], F_wattlekeep_Within), (ID.place_Parity, [0, 0], F_place_Parity), (ID.wattleref01_Parity, [0, 0], F_wattleref01_Parity), (ID.place_Disk, [0], F_place_Disk), (ID.wattleref01_Disk, [0], F_wattleref01_Disk), (ID.place_Numbers, [1], F_place_Numbers), (ID.wattleref01_Numbers, [1], F_wattleref01_Numbers), (ID.wattlekeep_Same_int, [0], F_wattlekeep_Same_int), (ID.place_Of, [0, 0, 0], F_place_Of), (ID.wattleref01_Of, [0, 0, 0], F_wattleref01_Of), (ID.place_Back, [0, 0, 0], F_place_Back), (ID.wattleref01_Back, [0, 0, 0], F_wattleref01_Back), (ID.wattlelaw08_wakes, [0], F_wattlelaw08_wakes)]) ann_wattlelaw08_PlaceTells [0] ID.wattlelaw08_PlaceTells
theorem sound_wattlelaw08_PlaceTells : SoundP Try.prog ID.wattlelaw08_PlaceTells [0] F_wattlelaw08_PlaceTells := denP_sound (penv_ok [fact_wattleplay_Geom, fact_wattlekeep_Within, fact_place_Parity, fact_wattleref01_Parity, fact_place_Disk, fact_wattleref01_Disk, fact_place_Numbers, fact_wattleref01_Numbers, fact_wattlekeep_Same_int, fact_place_Of, fact_wattleref01_Of, fact_place_Back, fact_wattleref01_Back, fact_wattlelaw08_wakes]) mixed ⟨Try.f14, by kernel_rfl, by kernel_rfl, by kernel_rfl⟩
noncomputable def fact_wattlelaw08_PlaceTells : Fact Try.prog := ⟨ID.wattlelaw08_PlaceTells, [0], F_wattlelaw08_PlaceTells, sound_wattlelaw08_PlaceTells⟩
noncomputable def g_wattlelaw08_PlaceTells (F_wattleplay_Geom : List D → Option D) (F_wattlekeep_Within : List D → Option D) (F_place_Parity : List D → Option D) (F_wattleref01_Parity : List D → Option D) (F_place_Disk : List D → Option D) (F_wattleref01_Disk : List D → Option D) (F_place_Numbers : List D → Option D) (F_wattleref01_Numbers : List D → Option D) (F_wattlekeep_Same_int : List D → Option D) (F_place_Of : List D → Option D) (F_wattleref01_Of : List D → Option D) (F_place_Back : List D → Option D) (F_wattleref01_Back : List D → Option D) (F_wattlelaw08_wakes : List D → Option D) (a0_0 : Int) (a0_1 : Int) (a0_2 : Int) (a1 : Int) (a2 : Int) (a3 : Int) (a4 : Int) (a5 : Int) (a6 : Bool) : Option D :=
  brK (!a6)
    (bindK (F_wattleplay_Geom [D.int IntKind.i64 a1]) fun r1 =>
    asAgg r1 fun cs2 =>
    getCells ([Lf.int IntKind.i64, Lf.int IntKind.i64, Lf.int IntKind.i64]) cs2 fun c3 =>
    bindK (F_wattlekeep_Within [D.int IntKind.i64 a2, D.int IntKind.i64 (18 : Int)]) fun r4 =>
    asI IntKind.i64 r4 fun i5 =>
    letN (IntKind.wrap IntKind.i64 (i5 - (1 : Int))) fun n6 =>
    bindK (F_wattlekeep_Within [D.int IntKind.i64 a3, D.int IntKind.i64 (9 : Int)]) fun r7 =>
    asI IntKind.i64 r7 fun i8 =>
    letN (IntKind.wrap IntKind.i64 (i8 - (1 : Int))) fun n9 =>
    bindK (F_wattlekeep_Within [D.int IntKind.i64 a4, D.int IntKind.i64 (10 : Int)]) fun r10 =>
    asI IntKind.i64 r10 fun i11 =>
    letN (IntKind.wrap IntKind.i64 (i11 - (1 : Int))) fun n12 =>
    bindK (F_wattlekeep_Within [D.int IntKind.i64 a5, D.int IntKind.i64 (130 : Int)]) fun r13 =>
    asI IntKind.i64 r13 fun i14 =>
    letN (IntKind.wrap IntKind.i64 (i14 - (1 : Int))) fun n15 =>
    bindK (F_place_Parity   [D.agg [D.int IntKind.i64 c3.fst, D.int IntKind.i64 c3.snd.fst, D.int IntKind.i64 c3.snd.snd.fst],     D.int IntKind.i64 n6]) fun r16 =>
    asTup r16 fun ts17 =>
    getCells ([Lf.any, Lf.any]) ts17 fun c18 =>
    asI IntKind.i64 c18.fst fun i19 =>
    asI IntKind.i64 c18.snd.fst fun i20 =>
    bindK (F_wattleref01_Parity   [D.agg [D.int IntKind.i64 c3.fst, D.int IntKind.i64 c3.snd.fst, D.int IntKind.i64 c3.snd.snd.fst],     D.int IntKind.i64 n6]) fun r21 =>
    asTup r21 fun ts22 =>
    getCells ([Lf.any, Lf.any]) ts22 fun c23 =>
    asI IntKind.i64 c23.fst fun i24 =>
    asI IntKind.i64 c23.snd.fst fun i25 =>
    brK (i19 != i24)
      (some (D.bool false))
      (brK (i20 != i25)
        (some (D.bool false))
        (bindK (F_place_Disk   [D.agg [D.int IntKind.i64 c3.fst, D.int IntKind.i64 c3.snd.fst, D.int IntKind.i64 c3.snd.snd.fst],     D.int IntKind.i64 n6, D.int IntKind.i64 n9]) fun r26 =>
        asI IntKind.i64 r26 fun i27 =>
        bindK (F_wattleref01_Disk   [D.agg [D.int IntKind.i64 c3.fst, D.int IntKind.i64 c3.snd.fst, D.int IntKind.i64 c3.snd.snd.fst],     D.int IntKind.i64 n6, D.int IntKind.i64 n9]) fun r28 =>
        asI IntKind.i64 r28 fun i29 =>
        brK (i27 != i29)
          (some (D.bool false))
          (bindK (F_place_Numbers   [D.agg [D.int IntKind.i64 c3.fst, D.int IntKind.i64 c3.snd.fst, D.int IntKind.i64 c3.snd.snd.fst],     D.int IntKind.i64 n6]) fun r30 =>
          asOwn r30 fun l31 =>
          bindK (F_wattleref01_Numbers   [D.agg [D.int IntKind.i64 c3.fst, D.int IntKind.i64 c3.snd.fst, D.int IntKind.i64 c3.snd.snd.fst],     D.int IntKind.i64 n6]) fun r32 =>
          asOwn r32 fun l33 =>
          sif ((0 : Nat) + List.length l31 ≤ List.length l31) <|
          sif ((0 : Nat) + List.length l33 ≤ List.length l33) <|
          bindK (F_wattlekeep_Same_int   [D.sl Tag.lent (cut (0 : Nat) (List.length l31) l31), D.sl Tag.lent (cut (0 : Nat) (List.length l33) l33)]) fun r34 =>
          asB r34 fun b35 =>
          brK (!b35)
            (some (D.bool false))
            (bindK (F_place_Of   [D.agg [D.int IntKind.i64 c3.fst, D.int IntKind.i64 c3.snd.fst, D.int IntKind.i64 c3.snd.snd.fst],     D.int IntKind.i64 n15]) fun r36 =>
            asTup r36 fun ts37 =>
            getCells ([Lf.any, Lf.any, Lf.any]) ts37 fun c38 =>
            asI IntKind.i64 c38.fst fun i39 =>
            asI IntKind.i64 c38.snd.fst fun i40 =>
            asB c38.snd.snd.fst fun b41 =>
            bindK (F_wattleref01_Of   [D.agg [D.int IntKind.i64 c3.fst, D.int IntKind.i64 c3.snd.fst, D.int IntKind.i64 c3.snd.snd.fst],     D.int IntKind.i64 n15]) fun r42 =>
            asTup r42 fun ts43 =>
            getCells ([Lf.any, Lf.any, Lf.any]) ts43 fun c44 =>
            asI IntKind.i64 c44.fst fun i45 =>
            asI IntKind.i64 c44.snd.fst fun i46 =>
            asB c44.snd.snd.fst fun b47 =>
            brK (i39 != i45)
              (some (D.bool false))
              (brK (i40 != i46)
                (some (D.bool false))
                (brK (b41 != b47)
                  (some (D.bool false))
                  (bindK (F_place_Back   [D.agg [D.int IntKind.i64 c3.fst, D.int IntKind.i64 c3.snd.fst, D.int IntKind.i64 c3.snd.snd.fst],     D.int IntKind.i64 n12, D.int IntKind.i64 n6]) fun r48 =>
                  asTup r48 fun ts49 =>
                  getCells ([Lf.any, Lf.any, Lf.any]) ts49 fun c50 =>
                  asI IntKind.i64 c50.fst fun i51 =>
                  asI IntKind.i64 c50.snd.fst fun i52 =>
                  asB c50.snd.snd.fst fun b53 =>
                  bindK (F_wattleref01_Back   [D.agg [D.int IntKind.i64 c3.fst, D.int IntKind.i64 c3.snd.fst, D.int IntKind.i64 c3.snd.snd.fst],     D.int IntKind.i64 n12, D.int IntKind.i64 n6]) fun r54 =>
                  asTup r54 fun ts55 =>
                  getCells ([Lf.any, Lf.any, Lf.any]) ts55 fun c56 =>
                  asI IntKind.i64 c56.fst fun i57 =>
                  asI IntKind.i64 c56.snd.fst fun i58 =>
                  asB c56.snd.snd.fst fun b59 =>
                  brK (i51 == i57)
                    (brK (i52 == i58)
                      (brK (b53 == b59)
                        (bindK (F_wattlelaw08_wakes []) fun r60 =>
                        asB r60 fun b61 =>
                        some (D.bool b61))
                        (some (D.bool false)))
                      (some (D.bool false)))
                    (some (D.bool false))))))))))
    (bindK (F_place_Parity [D.agg [D.int IntKind.i64 a0_0, D.int IntKind.i64 a0_1, D.int IntKind.i64 a0_2], D.int IntKind.i64 a2]) fun r62 =>
    asTup r62 fun ts63 =>
    getCells ([Lf.any, Lf.any]) ts63 fun c64 =>
    asI IntKind.i64 c64.fst fun i65 =>
    asI IntKind.i64 c64.snd.fst fun i66 =>
    bindK (F_wattleref01_Parity   [D.agg [D.int IntKind.i64 a0_0, D.int IntKind.i64 a0_1, D.int IntKind.i64 a0_2], D.int IntKind.i64 a2]) fun r67 =>
    asTup r67 fun ts68 =>
    getCells ([Lf.any, Lf.any]) ts68 fun c69 =>
    asI IntKind.i64 c69.fst fun i70 =>
    asI IntKind.i64 c69.snd.fst fun i71 =>
    brK (i65 != i70)
      (some (D.bool false))
      (brK (i66 != i71)
        (some (D.bool false))
        (bindK (F_place_Disk   [D.agg [D.int IntKind.i64 a0_0, D.int IntKind.i64 a0_1, D.int IntKind.i64 a0_2], D.int IntKind.i64 a2,     D.int IntKind.i64 a3]) fun r72 =>
        asI IntKind.i64 r72 fun i73 =>
        bindK (F_wattleref01_Disk   [D.agg [D.int IntKind.i64 a0_0, D.int IntKind.i64 a0_1, D.int IntKind.i64 a0_2], D.int IntKind.i64 a2,     D.int IntKind.i64 a3]) fun r74 =>
        asI IntKind.i64 r74 fun i75 =>
        brK (i73 != i75)
          (some (D.bool false))
          (bindK (F_place_Numbers [D.agg [D.int IntKind.i64 a0_0, D.int IntKind.i64 a0_1, D.int IntKind.i64 a0_2], D.int IntKind.i64 a2]) fun r76 =>
          asOwn r76 fun l77 =>
          bindK (F_wattleref01_Numbers   [D.agg [D.int IntKind.i64 a0_0, D.int IntKind.i64 a0_1, D.int IntKind.i64 a0_2], D.int IntKind.i64 a2]) fun r78 =>
          asOwn r78 fun l79 =>
          sif ((0 : Nat) + List.length l77 ≤ List.length l77) <|
          sif ((0 : Nat) + List.length l79 ≤ List.length l79) <|
          bindK (F_wattlekeep_Same_int   [D.sl Tag.lent (cut (0 : Nat) (List.length l77) l77), D.sl Tag.lent (cut (0 : Nat) (List.length l79) l79)]) fun r80 =>
          asB r80 fun b81 =>
          brK (!b81)
            (some (D.bool false))
            (bindK (F_place_Of [D.agg [D.int IntKind.i64 a0_0, D.int IntKind.i64 a0_1, D.int IntKind.i64 a0_2], D.int IntKind.i64 a5]) fun r82 =>
            asTup r82 fun ts83 =>
            getCells ([Lf.any, Lf.any, Lf.any]) ts83 fun c84 =>
            asI IntKind.i64 c84.fst fun i85 =>
            asI IntKind.i64 c84.snd.fst fun i86 =>
            asB c84.snd.snd.fst fun b87 =>
            bindK (F_wattleref01_Of [D.agg [D.int IntKind.i64 a0_0, D.int IntKind.i64 a0_1, D.int IntKind.i64 a0_2], D.int IntKind.i64 a5]) fun r88 =>
            asTup r88 fun ts89 =>
            getCells ([Lf.any, Lf.any, Lf.any]) ts89 fun c90 =>
            asI IntKind.i64 c90.fst fun i91 =>
            asI IntKind.i64 c90.snd.fst fun i92 =>
            asB c90.snd.snd.fst fun b93 =>
            brK (i85 != i91)
              (some (D.bool false))
              (brK (i86 != i92)
                (some (D.bool false))
                (brK (b87 != b93)
                  (some (D.bool false))
                  (bindK (F_place_Back   [D.agg [D.int IntKind.i64 a0_0, D.int IntKind.i64 a0_1, D.int IntKind.i64 a0_2], D.int IntKind.i64 a4,     D.int IntKind.i64 a2]) fun r94 =>
                  asTup r94 fun ts95 =>
                  getCells ([Lf.any, Lf.any, Lf.any]) ts95 fun c96 =>
                  asI IntKind.i64 c96.fst fun i97 =>
                  asI IntKind.i64 c96.snd.fst fun i98 =>
                  asB c96.snd.snd.fst fun b99 =>
                  bindK (F_wattleref01_Back   [D.agg [D.int IntKind.i64 a0_0, D.int IntKind.i64 a0_1, D.int IntKind.i64 a0_2], D.int IntKind.i64 a4,     D.int IntKind.i64 a2]) fun r100 =>
                  asTup r100 fun ts101 =>
                  getCells ([Lf.any, Lf.any, Lf.any]) ts101 fun c102 =>
                  asI IntKind.i64 c102.fst fun i103 =>
                  asI IntKind.i64 c102.snd.fst fun i104 =>
                  asB c102.snd.snd.fst fun b105 =>
                  brK (i97 == i103)
                    (brK (i98 == i104)
                      (brK (b99 == b105)
                        (bindK (F_wattlelaw08_wakes []) fun r106 =>
                        asB r106 fun b107 =>
                        some (D.bool b107))
                        (some (D.bool false)))
                      (some (D.bool false)))
                    (some (D.bool false))))))))))
theorem G_wattlelaw08_PlaceTells (F_wattleplay_Geom : List D → Option D) (F_wattlekeep_Within : List D → Option D) (F_place_Parity : List D → Option D) (F_wattleref01_Parity : List D → Option D) (F_place_Disk : List D → Option D) (F_wattleref01_Disk : List D → Option D) (F_place_Numbers : List D → Option D) (F_wattleref01_Numbers : List D → Option D) (F_wattlekeep_Same_int : List D → Option D) (F_place_Of : List D → Option D) (F_wattleref01_Of : List D → Option D) (F_place_Back : List D → Option D) (F_wattleref01_Back : List D → Option D) (F_wattlelaw08_wakes : List D → Option D) (a0_0 : Int) (a0_1 : Int) (a0_2 : Int) (a1 : Int) (a2 : Int) (a3 : Int) (a4 : Int) (a5 : Int) (a6 : Bool) : denP Try.prog (penv' [(ID.wattleplay_Geom, [0], F_wattleplay_Geom), (ID.wattlekeep_Within, [0], F_wattlekeep_Within), (ID.place_Parity, [0, 0], F_place_Parity), (ID.wattleref01_Parity, [0, 0], F_wattleref01_Parity), (ID.place_Disk, [0], F_place_Disk), (ID.wattleref01_Disk, [0], F_wattleref01_Disk), (ID.place_Numbers, [1], F_place_Numbers), (ID.wattleref01_Numbers, [1], F_wattleref01_Numbers), (ID.wattlekeep_Same_int, [0], F_wattlekeep_Same_int), (ID.place_Of, [0, 0, 0], F_place_Of), (ID.wattleref01_Of, [0, 0, 0], F_wattleref01_Of), (ID.place_Back, [0, 0, 0], F_place_Back), (ID.wattleref01_Back, [0, 0, 0], F_wattleref01_Back), (ID.wattlelaw08_wakes, [0], F_wattlelaw08_wakes)]) ann_wattlelaw08_PlaceTells [0] ID.wattlelaw08_PlaceTells [.agg [.int .i64 a0_0, .int .i64 a0_1, .int .i64 a0_2], .int .i64 a1, .int .i64 a2, .int .i64 a3, .int .i64 a4, .int .i64 a5, .bool a6] = g_wattlelaw08_PlaceTells F_wattleplay_Geom F_wattlekeep_Within F_place_Parity F_wattleref01_Parity F_place_Disk F_wattleref01_Disk F_place_Numbers F_wattleref01_Numbers F_wattlekeep_Same_int F_place_Of F_wattleref01_Of F_place_Back F_wattleref01_Back F_wattlelaw08_wakes a0_0 a0_1 a0_2 a1 a2 a3 a4 a5 a6 := by kernel_rfl
theorem F_wattlelaw08_PlaceTells_eq (a0_0 : Int) (a0_1 : Int) (a0_2 : Int) (a1 : Int) (a2 : Int) (a3 : Int) (a4 : Int) (a5 : Int) (a6 : Bool) : F_wattlelaw08_PlaceTells [.agg [.int .i64 a0_0, .int .i64 a0_1, .int .i64 a0_2], .int .i64 a1, .int .i64 a2, .int .i64 a3, .int .i64 a4, .int .i64 a5, .bool a6] = g_wattlelaw08_PlaceTells F_wattleplay_Geom F_wattlekeep_Within F_place_Parity F_wattleref01_Parity F_place_Disk F_wattleref01_Disk F_place_Numbers F_wattleref01_Numbers F_wattlekeep_Same_int F_place_Of F_wattleref01_Of F_place_Back F_wattleref01_Back F_wattlelaw08_wakes a0_0 a0_1 a0_2 a1 a2 a3 a4 a5 a6 := G_wattlelaw08_PlaceTells F_wattleplay_Geom F_wattlekeep_Within F_place_Parity F_wattleref01_Parity F_place_Disk F_wattleref01_Disk F_place_Numbers F_wattleref01_Numbers F_wattlekeep_Same_int F_place_Of F_wattleref01_Of F_place_Back F_wattleref01_Back F_wattlelaw08_wakes a0_0 a0_1 a0_2 a1 a2 a3 a4 a5 a6
end Wf

/-
  The two ways of placing tell the same.
-/
namespace Wf
open Go Go.RowKit Go.Proofs
set_option linter.unusedSimpArgs false
set_option linter.unusedVariables false

theorem same_self (g : Geo) (row : Int) (t t' : Tag) : F_wattlekeep_Same_int [.sl t (iL (numsI g row)), .sl t' (iL (numsI g row))] = some (.bool true) := by
  rw [same_int _ _ _ _ (by have := numsI_len g row; omega)]; simp
set_option maxHeartbeats 2000000 in
theorem placeTells (l d c n1 n2 n3 n4 n5 : Int) (raw : Bool) : F_wattlelaw08_PlaceTells [gD l d c, .int .i64 n1, .int .i64 n2, .int .i64 n3, .int .i64 n4, .int .i64 n5, .bool raw] = some (.bool true) := by
  rw [F_wattlelaw08_PlaceTells_eq]
  unfold g_wattlelaw08_PlaceTells
  cases raw
  · rw [geom_play, within n2 18 (by omega) (by omega), within n3 9 (by omega) (by omega), within n4 10 (by omega) (by omega), within n5 130 (by omega) (by omega)]
    simp [brK_eq, Geo.D, par_place', par_ref', disk_place', disk_ref', nums_place', nums_ref', of_place', of_ref', back_place', back_ref', numsD_iL, same_self, wakes08]
  · simp [brK_eq, par_place', par_ref', disk_place', disk_ref', nums_place', nums_ref', of_place', of_ref', back_place', back_ref', numsD_iL, same_self, wakes08]
end Wf

