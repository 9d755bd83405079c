/-
  A law, read off.
-/
import Derived.Test.YtgekoicndhcghaaX
import Derived.Test.YtgekoicndhcghaaY
set_option linter.unusedVariables false
set_option linter.unusedSimpArgs false
set_option linter.unnecessarySimpa false
namespace Wf
open Go Go.RowKit Go.Proofs
set_option linter.unusedVariables false
def ann_wattlelaw24_VirtualKeeps : Ann := { loops := [(1, [.dead, .dead, .val (.cell .lent), .val (.cell (.int .i64)), .dead, .dead, .dead, .dead, .dead, .box true [(.int .i64), (.int .i64), (.int .i64)], .box true [(.int .i64), (.int .i64), (.int .i64)], .ptr 4160, .dead, .map (.int .i64), .val (.cell (.int .i64))]), (5, [.dead, .dead, .dead, .val (.cell (.int .i64)), .dead, .dead, .dead, .dead, .dead, .box true [(.int .i64), (.int .i64), (.int .i64)], .box true [(.int .i64), (.int .i64), (.int .i64)], .ptr 4160, .dead, .map (.int .i64), .dead, .dead, .dead, .val (.cell (.int .i64))]), (9, [.dead, .dead, .dead, .dead, .dead, .dead, .dead, .dead, .dead, .dead, .box true [(.int .i64), (.int .i64), (.int .i64)], .ptr 4160, .dead, .map (.int .i64), .dead, .dead, .dead, .dead, .val (.cell (.int .i64))])], ks := [(4160, true)] }
noncomputable def F_wattlelaw24_VirtualKeeps : List D → Option D := denT Try.prog (penv' [(ID.wattleplay_Pair, (.pure [0, 0] F_wattleplay_Pair)), (ID.virtual_New, (.st [] [0, 0] [(4160, true)] F_virtual_New)), (ID.wattleref01_Capacity, (.pure [0] F_wattleref01_Capacity)), (ID.wattlekeep_Within, (.pure [0] F_wattlekeep_Within)), (ID.wattleplay_Sector, (.pure [1] F_wattleplay_Sector)), (ID.virtual_Virtual_Write, (.st [] [0] [(4160, true)] F_virtual_Virtual_Write)), (ID.wattlekeep_Copy_byte, (.pure [1] F_wattlekeep_Copy_byte)), (ID.virtual_Virtual_Start, (.st [] [0] [(4160, true)] F_virtual_Virtual_Start)), (ID.virtual_Virtual_Fail, (.st [] [0] [(4160, true)] F_virtual_Virtual_Fail)), (ID.wattleref01_Windows, (.pure [0] F_wattleref01_Windows)), (ID.virtual_Virtual_Capacity, (.st [] [0] [(4160, false)] F_virtual_Virtual_Capacity)), (ID.virtual_Virtual_Step, (.st [] [0] [(4160, true)] F_virtual_Virtual_Step)), (ID.virtual_Virtual_Replace, (.st [] [0] [(4160, true)] F_virtual_Virtual_Replace)), (ID.virtual_Virtual_Read, (.st [] [1, 0] [(4160, true)] F_virtual_Virtual_Read)), (ID.wattlekeep_Same_byte, (.pure [0] F_wattlekeep_Same_byte)), (ID.wattlelaw24_wakes, (.pure [0] F_wattlelaw24_wakes))]) ann_wattlelaw24_VirtualKeeps [0] ID.wattlelaw24_VirtualKeeps
theorem sound_wattlelaw24_VirtualKeeps : Sound Try.prog ID.wattlelaw24_VirtualKeeps (.pure [0] F_wattlelaw24_VirtualKeeps) := denT_sound (penv_ok [fact_wattleplay_Pair, fact_virtual_New, fact_wattleref01_Capacity, fact_wattlekeep_Within, fact_wattleplay_Sector, fact_virtual_Virtual_Write, fact_wattlekeep_Copy_byte, fact_virtual_Virtual_Start, fact_virtual_Virtual_Fail, fact_wattleref01_Windows, fact_virtual_Virtual_Capacity, fact_virtual_Virtual_Step, fact_virtual_Virtual_Replace, fact_virtual_Virtual_Read, fact_wattlekeep_Same_byte, fact_wattlelaw24_wakes]) mixed ⟨Try.f3, by kernel_rfl, by kernel_rfl, by kernel_rfl⟩
noncomputable def fact_wattlelaw24_VirtualKeeps : Fact Try.prog := ⟨ID.wattlelaw24_VirtualKeeps, (.pure [0] F_wattlelaw24_VirtualKeeps), sound_wattlelaw24_VirtualKeeps⟩
noncomputable def g_wattlelaw24_VirtualKeeps (F_wattleplay_Pair : List D → Option D) (F_virtual_New : List D → List Tb → Option Ans) (F_wattleref01_Capacity : List D → Option D) (F_wattlekeep_Within : List D → Option D) (F_wattleplay_Sector : List D → Option D) (F_virtual_Virtual_Write : List D → List Tb → Option Ans) (F_wattlekeep_Copy_byte : List D → Option D) (F_virtual_Virtual_Start : List D → List Tb → Option Ans) (F_virtual_Virtual_Fail : List D → List Tb → Option Ans) (F_wattleref01_Windows : List D → Option D) (F_virtual_Virtual_Capacity : List D → List Tb → Option Ans) (F_virtual_Virtual_Step : List D → List Tb → Option Ans) (F_virtual_Virtual_Replace : List D → List Tb → Option Ans) (F_virtual_Virtual_Read : List D → List Tb → Option Ans) (F_wattlekeep_Same_byte : List D → Option D) (F_wattlelaw24_wakes : List D → Option D) (a0 : Int) (a1 : Int) (a2 : List D) (a3 : Int) : Option D :=
  bindK (F_wattleplay_Pair [D.int IntKind.i64 a0, D.int IntKind.i64 a1]) fun r1 =>
  asTup r1 fun ts2 =>
  getCells ([Lf.any, Lf.any]) ts2 fun c3 =>
  asAgg c3.fst fun cs4 =>
  getCells ([Lf.int IntKind.i64, Lf.int IntKind.i64, Lf.int IntKind.i64]) cs4 fun c5 =>
  asAgg c3.snd.fst fun cs6 =>
  getCells ([Lf.int IntKind.i64, Lf.int IntKind.i64, Lf.int IntKind.i64]) cs6 fun c7 =>
  bindK (F_virtual_New   [D.int IntKind.i64 c7.snd.fst,     D.agg [D.int IntKind.i64 c5.fst, D.int IntKind.i64 c5.snd.fst, D.int IntKind.i64 c5.snd.snd.fst]]   [[]]) fun r8 =>
  nilK r8.outs <|
  consK r8.tbs fun c9 q10 =>
  nilK q10 <|
  asTup r8.r fun ts11 =>
  getCells ([Lf.any, Lf.any]) ts11 fun c12 =>
  sif (okData c12.fst = true) <|
  asI IntKind.i64 c12.snd.fst fun i13 =>
  brK (i13 != (0 : Int))
    (some (D.bool false))
    (asNil c12.fst fun b14 =>
    brK b14
      (some (D.bool false))
      (loopN (α := (List D × Int × (Int × Int × Int × PUnit) × (Int × Int × Int × PUnit) × D × List (Int × D) × Int × PUnit) ×   List (List D) × PUnit) (fun again15 ((l16, (i17, ((i18, (i19, (i20, _))), ((i21, (i22, (i23, _))), (x24, (l25, (i26, _))))))), (T27, _)) =>
        letN (IntKind.wrap IntKind.i64 (i26 + (1 : Int))) fun n28 =>
        brK (decide (n28 < (↑(List.length l16) : Int)))
          (brK (decide (i26 < (20 : Int)))
            (sif ((0 : Int) ≤ i26) <|
            getK l16 (Int.toNat i26) fun d29 =>
            asI IntKind.i64 d29 fun i30 =>
            bindK (F_wattleref01_Capacity [D.agg [D.int IntKind.i64 i18, D.int IntKind.i64 i19, D.int IntKind.i64 i20]]) fun r31 =>
            asI IntKind.i64 r31 fun i32 =>
            bindK (F_wattlekeep_Within [D.int IntKind.i64 i30, D.int IntKind.i64 i32]) fun r33 =>
            asI IntKind.i64 r33 fun i34 =>
            letN (IntKind.wrap IntKind.i64 (i26 + (1 : Int))) fun n35 =>
            sif ((0 : Int) ≤ n35) <|
            getK l16 (Int.toNat n35) fun d36 =>
            asI IntKind.i64 d36 fun i37 =>
            bindK (F_wattleplay_Sector [D.int IntKind.i64 i37]) fun r38 =>
            asOwn r38 fun l39 =>
            sif ((0 : Nat) + List.length l39 ≤ List.length l39) <|
            bindK (F_virtual_Virtual_Write [x24, D.int IntKind.i64 i34, D.sl Tag.lent (cut (0 : Nat) (List.length l39) l39)] [T27]) fun r40 =>
            nilK r40.outs <|
            consK r40.tbs fun c41 q42 =>
            nilK q42 <|
            asI IntKind.i64 r40.r fun i43 =>
            brK (i43 != (0 : Int))
              (some (D.bool false))
              (sif ((0 : Nat) + List.length l39 ≤ List.length l39) <|
              bindK (F_wattlekeep_Copy_byte [D.sl Tag.lent (cut (0 : Nat) (List.length l39) l39)]) fun r44 =>
              asOwn r44 fun l45 =>
              sif ((0 : Nat) + List.length l45 ≤ List.length l45) <|
              sif ((0 : Nat) < List.length l39) <|
              getK l39 ((0 : Nat)) fun d46 =>
              asI IntKind.u8 d46 fun i47 =>
              letN (bits BinOp.xor IntKind.u8 i47 (1 : Int)) fun n48 =>
              sif ((0 : Nat) < List.length l39) <|
              getK l39 ((0 : Nat)) fun d49 =>
              sif (D.isAgg d49 = false) <|
              letN (IntKind.wrap IntKind.i64 (i26 + (2 : Int))) fun n50 =>
              again15 (((l16, i17, (i18, i19, i20, PUnit.unit), (i21, i22, i23, PUnit.unit), x24,     setD i34 (D.sl Tag.fresh (cut (0 : Nat) (List.length l45) l45)) l25, n50, PUnit.unit),   c41, PUnit.unit))))
            (bindK (F_wattlekeep_Within [D.int IntKind.i64 i17, D.int IntKind.i64 i19]) fun r51 =>
            asI IntKind.i64 r51 fun i52 =>
            bindK (F_virtual_Virtual_Start [x24, D.agg [D.int IntKind.i64 i21, D.int IntKind.i64 i22, D.int IntKind.i64 i23]] [T27]) fun r53 =>
            nilK r53.outs <|
            consK r53.tbs fun c54 q55 =>
            nilK q55 <|
            asI IntKind.i64 r53.r fun i56 =>
            brK (i56 != (0 : Int))
              (some (D.bool false))
              (bindK (F_virtual_Virtual_Fail [x24, D.int IntKind.i64 i52] [c54]) fun r57 =>
              nilK r57.outs <|
              consK r57.tbs fun c58 q59 =>
              nilK q59 <|
              asI IntKind.i64 r57.r fun i60 =>
              brK (i60 != (0 : Int))
                (some (D.bool false))
                (loopN (α := (Int × (Int × Int × Int × PUnit) × (Int × Int × Int × PUnit) × D × List (Int × D) × Int × PUnit) × List (List D) × PUnit) (fun again61 ((i62, ((i63, (i64, (i65, _))), ((i66, (i67, (i68, _))), (x69, (l70, (i71, _)))))), (T72, _)) =>
                  bindK (F_wattleref01_Windows   [D.agg [D.int IntKind.i64 i63, D.int IntKind.i64 i64, D.int IntKind.i64 i65],     D.agg [D.int IntKind.i64 i66, D.int IntKind.i64 i67, D.int IntKind.i64 i68]]) fun r73 =>
                  asI IntKind.i64 r73 fun i74 =>
                  brK (decide (i71 < i74))
                    (bindK (F_virtual_Virtual_Capacity [x69] [T72]) fun r75 =>
                    nilK r75.outs <|
                    nilK r75.tbs <|
                    asI IntKind.i64 r75.r fun i76 =>
                    bindK (F_wattleref01_Capacity [D.agg [D.int IntKind.i64 i63, D.int IntKind.i64 i64, D.int IntKind.i64 i65]]) fun r77 =>
                    asI IntKind.i64 r77 fun i78 =>
                    brK (i76 != i78)
                      (some (D.bool false))
                      (bindK (F_virtual_Virtual_Step [x69] [T72]) fun r79 =>
                      nilK r79.outs <|
                      consK r79.tbs fun c80 q81 =>
                      nilK q81 <|
                      asI IntKind.i64 r79.r fun i82 =>
                      brK (i82 != (0 : Int))
                        (some (D.bool false))
                        (brK (i71 == (1 : Int))
                          (bindK (F_virtual_Virtual_Replace [x69, D.int IntKind.i64 i62] [c80]) fun r83 =>
                          nilK r83.outs <|
                          consK r83.tbs fun c84 q85 =>
                          nilK q85 <|
                          asI IntKind.i64 r83.r fun i86 =>
                          brK (i86 != (0 : Int))
                            (some (D.bool false))
                            (letN (IntKind.wrap IntKind.i64 (i71 + (1 : Int))) fun n87 =>
                            again61 (((i62, (i63, i64, i65, PUnit.unit), (i66, i67, i68, PUnit.unit), x69, l70, n87, PUnit.unit), c84, PUnit.unit))))
                          (letN (IntKind.wrap IntKind.i64 (i71 + (1 : Int))) fun n88 =>
                          again61 (((i62, (i63, i64, i65, PUnit.unit), (i66, i67, i68, PUnit.unit), x69, l70, n88, PUnit.unit), c80, PUnit.unit))))))
                    (loopN (α := ((Int × Int × Int × PUnit) × D × List (Int × D) × Int × PUnit) × List (List D) × PUnit) (fun again89 (((i90, (i91, (i92, _))), (x93, (l94, (i95, _)))), (T96, _)) =>
                      bindK (F_wattleref01_Capacity [D.agg [D.int IntKind.i64 i90, D.int IntKind.i64 i91, D.int IntKind.i64 i92]]) fun r97 =>
                      asI IntKind.i64 r97 fun i98 =>
                      brK (decide (i95 < i98))
                        (asSl (lookD i95 (D.sl Tag.nil []) l94) fun t99 l100 =>
                        brK (List.isEmpty l100)
                          (sif (t99 = Tag.nil) <|
                          bindK (F_virtual_Virtual_Read [x93, D.int IntKind.i64 i95] [T96]) fun r101 =>
                          nilK r101.outs <|
                          consK r101.tbs fun c102 q103 =>
                          nilK q103 <|
                          asTup r101.r fun ts104 =>
                          getCells ([Lf.any, Lf.any]) ts104 fun c105 =>
                          asOwn c105.fst fun l106 =>
                          asI IntKind.i64 c105.snd.fst fun i107 =>
                          brK (i107 != (0 : Int))
                            (some (D.bool false))
                            (sif ((0 : Nat) + List.length l106 ≤ List.length l106) <|
                            bindK (F_wattlekeep_Same_byte   [D.sl Tag.lent (cut (0 : Nat) (List.length l106) l106),     D.sl Tag.lent       [D.int IntKind.u8 (0 : Int), D.int IntKind.u8 (0 : Int), D.int IntKind.u8 (0 : Int), D.int IntKind.u8 (0 : Int),         D.int IntKind.u8 (0 : Int), D.int IntKind.u8 (0 : Int), D.int IntKind.u8 (0 : Int), D.int IntKind.u8 (0 : Int),         D.int IntKind.u8 (0 : Int), D.int IntKind.u8 (0 : Int), D.int IntKind.u8 (0 : Int), D.int IntKind.u8 (0 : Int),         D.int IntKind.u8 (0 : Int), D.int IntKind.u8 (0 : Int), D.int IntKind.u8 (0 : Int), D.int IntKind.u8 (0 : Int),         D.int IntKind.u8 (0 : Int), D.int IntKind.u8 (0 : Int), D.int IntKind.u8 (0 : Int), D.int IntKind.u8 (0 : Int),         D.int IntKind.u8 (0 : Int), D.int IntKind.u8 (0 : Int), D.int IntKind.u8 (0 : Int), D.int IntKind.u8 (0 : Int),         D.int IntKind.u8 (0 : Int), D.int IntKind.u8 (0 : Int), D.int IntKind.u8 (0 : Int), D.int IntKind.u8 (0 : Int),         D.int IntKind.u8 (0 : Int), D.int IntKind.u8 (0 : Int), D.int IntKind.u8 (0 : Int), D.int IntKind.u8 (0 : Int)]]) fun r108 =>
                            asB r108 fun b109 =>
                            brK (!b109)
                              (some (D.bool false))
                              (sif ((0 : Nat) < List.length l106) <|
                              getK l106 ((0 : Nat)) fun d110 =>
                              asI IntKind.u8 d110 fun i111 =>
                              letN (bits BinOp.xor IntKind.u8 i111 (255 : Int)) fun n112 =>
                              sif ((0 : Nat) < List.length l106) <|
                              getK l106 ((0 : Nat)) fun d113 =>
                              sif (D.isAgg d113 = false) <|
                              bindK (F_virtual_Virtual_Read [x93, D.int IntKind.i64 i95] [c102]) fun r114 =>
                              nilK r114.outs <|
                              consK r114.tbs fun c115 q116 =>
                              nilK q116 <|
                              asTup r114.r fun ts117 =>
                              getCells ([Lf.any, Lf.any]) ts117 fun c118 =>
                              asOwn c118.fst fun l119 =>
                              asI IntKind.i64 c118.snd.fst fun i120 =>
                              sif ((0 : Nat) + List.length l119 ≤ List.length l119) <|
                              bindK (F_wattlekeep_Same_byte   [D.sl Tag.lent (cut (0 : Nat) (List.length l119) l119),     D.sl Tag.lent       [D.int IntKind.u8 (0 : Int), D.int IntKind.u8 (0 : Int), D.int IntKind.u8 (0 : Int), D.int IntKind.u8 (0 : Int),         D.int IntKind.u8 (0 : Int), D.int IntKind.u8 (0 : Int), D.int IntKind.u8 (0 : Int), D.int IntKind.u8 (0 : Int),         D.int IntKind.u8 (0 : Int), D.int IntKind.u8 (0 : Int), D.int IntKind.u8 (0 : Int), D.int IntKind.u8 (0 : Int),         D.int IntKind.u8 (0 : Int), D.int IntKind.u8 (0 : Int), D.int IntKind.u8 (0 : Int), D.int IntKind.u8 (0 : Int),         D.int IntKind.u8 (0 : Int), D.int IntKind.u8 (0 : Int), D.int IntKind.u8 (0 : Int), D.int IntKind.u8 (0 : Int),         D.int IntKind.u8 (0 : Int), D.int IntKind.u8 (0 : Int), D.int IntKind.u8 (0 : Int), D.int IntKind.u8 (0 : Int),         D.int IntKind.u8 (0 : Int), D.int IntKind.u8 (0 : Int), D.int IntKind.u8 (0 : Int), D.int IntKind.u8 (0 : Int),         D.int IntKind.u8 (0 : Int), D.int IntKind.u8 (0 : Int), D.int IntKind.u8 (0 : Int), D.int IntKind.u8 (0 : Int)]]) fun r121 =>
                              asB r121 fun b122 =>
                              brK (!b122)
                                (some (D.bool false))
                                (letN (IntKind.wrap IntKind.i64 (i95 + (1 : Int))) fun n123 =>
                                again89 ((((i90, i91, i92, PUnit.unit), x93, l94, n123, PUnit.unit), c115, PUnit.unit))))))
                          (bindK (F_virtual_Virtual_Read [x93, D.int IntKind.i64 i95] [T96]) fun r124 =>
                          nilK r124.outs <|
                          consK r124.tbs fun c125 q126 =>
                          nilK q126 <|
                          asTup r124.r fun ts127 =>
                          getCells ([Lf.any, Lf.any]) ts127 fun c128 =>
                          asOwn c128.fst fun l129 =>
                          asI IntKind.i64 c128.snd.fst fun i130 =>
                          brK (i130 != (0 : Int))
                            (some (D.bool false))
                            (sif ((0 : Nat) + List.length l129 ≤ List.length l129) <|
                            bindK (F_wattlekeep_Same_byte [D.sl Tag.lent (cut (0 : Nat) (List.length l129) l129), D.sl t99 l100]) fun r131 =>
                            asB r131 fun b132 =>
                            brK (!b132)
                              (some (D.bool false))
                              (sif ((0 : Nat) < List.length l129) <|
                              getK l129 ((0 : Nat)) fun d133 =>
                              asI IntKind.u8 d133 fun i134 =>
                              letN (bits BinOp.xor IntKind.u8 i134 (255 : Int)) fun n135 =>
                              sif ((0 : Nat) < List.length l129) <|
                              getK l129 ((0 : Nat)) fun d136 =>
                              sif (D.isAgg d136 = false) <|
                              bindK (F_virtual_Virtual_Read [x93, D.int IntKind.i64 i95] [c125]) fun r137 =>
                              nilK r137.outs <|
                              consK r137.tbs fun c138 q139 =>
                              nilK q139 <|
                              asTup r137.r fun ts140 =>
                              getCells ([Lf.any, Lf.any]) ts140 fun c141 =>
                              asOwn c141.fst fun l142 =>
                              asI IntKind.i64 c141.snd.fst fun i143 =>
                              sif ((0 : Nat) + List.length l142 ≤ List.length l142) <|
                              bindK (F_wattlekeep_Same_byte [D.sl Tag.lent (cut (0 : Nat) (List.length l142) l142), D.sl t99 l100]) fun r144 =>
                              asB r144 fun b145 =>
                              brK (!b145)
                                (some (D.bool false))
                                (letN (IntKind.wrap IntKind.i64 (i95 + (1 : Int))) fun n146 =>
                                again89 ((((i90, i91, i92, PUnit.unit), x93, l94, n146, PUnit.unit), c138, PUnit.unit)))))))
                        (bindK (F_virtual_Virtual_Step [x93] [T96]) fun r147 =>
                        nilK r147.outs <|
                        consK r147.tbs fun c148 q149 =>
                        nilK q149 <|
                        asI IntKind.i64 r147.r fun i150 =>
                        brK (i150 == (9 : Int))
                          (bindK (F_virtual_Virtual_Capacity [x93] [c148]) fun r151 =>
                          nilK r151.outs <|
                          nilK r151.tbs <|
                          asI IntKind.i64 r151.r fun i152 =>
                          bindK (F_wattleref01_Capacity [D.agg [D.int IntKind.i64 i90, D.int IntKind.i64 i91, D.int IntKind.i64 i92]]) fun r153 =>
                          asI IntKind.i64 r153 fun i154 =>
                          brK (i152 == i154)
                            (bindK (F_wattlelaw24_wakes []) fun r155 =>
                            asB r155 fun b156 =>
                            some (D.bool b156))
                            (some (D.bool false)))
                          (some (D.bool false))))
                      ((((i66, i67, i68, PUnit.unit), x69, l70, (0 : Int), PUnit.unit), T72, PUnit.unit))))
                  (((i52, (i18, i19, i20, PUnit.unit), (i21, i22, i23, PUnit.unit), x24, l25, (0 : Int), PUnit.unit), c58, PUnit.unit))))))
          (bindK (F_wattlekeep_Within [D.int IntKind.i64 i17, D.int IntKind.i64 i19]) fun r157 =>
          asI IntKind.i64 r157 fun i158 =>
          bindK (F_virtual_Virtual_Start [x24, D.agg [D.int IntKind.i64 i21, D.int IntKind.i64 i22, D.int IntKind.i64 i23]] [T27]) fun r159 =>
          nilK r159.outs <|
          consK r159.tbs fun c160 q161 =>
          nilK q161 <|
          asI IntKind.i64 r159.r fun i162 =>
          brK (i162 != (0 : Int))
            (some (D.bool false))
            (bindK (F_virtual_Virtual_Fail [x24, D.int IntKind.i64 i158] [c160]) fun r163 =>
            nilK r163.outs <|
            consK r163.tbs fun c164 q165 =>
            nilK q165 <|
            asI IntKind.i64 r163.r fun i166 =>
            brK (i166 != (0 : Int))
              (some (D.bool false))
              (loopN (α := (Int × (Int × Int × Int × PUnit) × (Int × Int × Int × PUnit) × D × List (Int × D) × Int × PUnit) × List (List D) × PUnit) (fun again167 ((i168, ((i169, (i170, (i171, _))), ((i172, (i173, (i174, _))), (x175, (l176, (i177, _)))))), (T178, _)) =>
                bindK (F_wattleref01_Windows   [D.agg [D.int IntKind.i64 i169, D.int IntKind.i64 i170, D.int IntKind.i64 i171],     D.agg [D.int IntKind.i64 i172, D.int IntKind.i64 i173, D.int IntKind.i64 i174]]) fun r179 =>
                asI IntKind.i64 r179 fun i180 =>
                brK (decide (i177 < i180))
                  (bindK (F_virtual_Virtual_Capacity [x175] [T178]) fun r181 =>
                  nilK r181.outs <|
                  nilK r181.tbs <|
                  asI IntKind.i64 r181.r fun i182 =>
                  bindK (F_wattleref01_Capacity [D.agg [D.int IntKind.i64 i169, D.int IntKind.i64 i170, D.int IntKind.i64 i171]]) fun r183 =>
                  asI IntKind.i64 r183 fun i184 =>
                  brK (i182 != i184)
                    (some (D.bool false))
                    (bindK (F_virtual_Virtual_Step [x175] [T178]) fun r185 =>
                    nilK r185.outs <|
                    consK r185.tbs fun c186 q187 =>
                    nilK q187 <|
                    asI IntKind.i64 r185.r fun i188 =>
                    brK (i188 != (0 : Int))
                      (some (D.bool false))
                      (brK (i177 == (1 : Int))
                        (bindK (F_virtual_Virtual_Replace [x175, D.int IntKind.i64 i168] [c186]) fun r189 =>
                        nilK r189.outs <|
                        consK r189.tbs fun c190 q191 =>
                        nilK q191 <|
                        asI IntKind.i64 r189.r fun i192 =>
                        brK (i192 != (0 : Int))
                          (some (D.bool false))
                          (letN (IntKind.wrap IntKind.i64 (i177 + (1 : Int))) fun n193 =>
                          again167 (((i168, (i169, i170, i171, PUnit.unit), (i172, i173, i174, PUnit.unit), x175, l176, n193, PUnit.unit), c190, PUnit.unit))))
                        (letN (IntKind.wrap IntKind.i64 (i177 + (1 : Int))) fun n194 =>
                        again167 (((i168, (i169, i170, i171, PUnit.unit), (i172, i173, i174, PUnit.unit), x175, l176, n194, PUnit.unit), c186, PUnit.unit))))))
                  (loopN (α := ((Int × Int × Int × PUnit) × D × List (Int × D) × Int × PUnit) × List (List D) × PUnit) (fun again195 (((i196, (i197, (i198, _))), (x199, (l200, (i201, _)))), (T202, _)) =>
                    bindK (F_wattleref01_Capacity [D.agg [D.int IntKind.i64 i196, D.int IntKind.i64 i197, D.int IntKind.i64 i198]]) fun r203 =>
                    asI IntKind.i64 r203 fun i204 =>
                    brK (decide (i201 < i204))
                      (asSl (lookD i201 (D.sl Tag.nil []) l200) fun t205 l206 =>
                      brK (List.isEmpty l206)
                        (sif (t205 = Tag.nil) <|
                        bindK (F_virtual_Virtual_Read [x199, D.int IntKind.i64 i201] [T202]) fun r207 =>
                        nilK r207.outs <|
                        consK r207.tbs fun c208 q209 =>
                        nilK q209 <|
                        asTup r207.r fun ts210 =>
                        getCells ([Lf.any, Lf.any]) ts210 fun c211 =>
                        asOwn c211.fst fun l212 =>
                        asI IntKind.i64 c211.snd.fst fun i213 =>
                        brK (i213 != (0 : Int))
                          (some (D.bool false))
                          (sif ((0 : Nat) + List.length l212 ≤ List.length l212) <|
                          bindK (F_wattlekeep_Same_byte   [D.sl Tag.lent (cut (0 : Nat) (List.length l212) l212),     D.sl Tag.lent       [D.int IntKind.u8 (0 : Int), D.int IntKind.u8 (0 : Int), D.int IntKind.u8 (0 : Int), D.int IntKind.u8 (0 : Int),         D.int IntKind.u8 (0 : Int), D.int IntKind.u8 (0 : Int), D.int IntKind.u8 (0 : Int), D.int IntKind.u8 (0 : Int),         D.int IntKind.u8 (0 : Int), D.int IntKind.u8 (0 : Int), D.int IntKind.u8 (0 : Int), D.int IntKind.u8 (0 : Int),         D.int IntKind.u8 (0 : Int), D.int IntKind.u8 (0 : Int), D.int IntKind.u8 (0 : Int), D.int IntKind.u8 (0 : Int),         D.int IntKind.u8 (0 : Int), D.int IntKind.u8 (0 : Int), D.int IntKind.u8 (0 : Int), D.int IntKind.u8 (0 : Int),         D.int IntKind.u8 (0 : Int), D.int IntKind.u8 (0 : Int), D.int IntKind.u8 (0 : Int), D.int IntKind.u8 (0 : Int),         D.int IntKind.u8 (0 : Int), D.int IntKind.u8 (0 : Int), D.int IntKind.u8 (0 : Int), D.int IntKind.u8 (0 : Int),         D.int IntKind.u8 (0 : Int), D.int IntKind.u8 (0 : Int), D.int IntKind.u8 (0 : Int), D.int IntKind.u8 (0 : Int)]]) fun r214 =>
                          asB r214 fun b215 =>
                          brK (!b215)
                            (some (D.bool false))
                            (sif ((0 : Nat) < List.length l212) <|
                            getK l212 ((0 : Nat)) fun d216 =>
                            asI IntKind.u8 d216 fun i217 =>
                            letN (bits BinOp.xor IntKind.u8 i217 (255 : Int)) fun n218 =>
                            sif ((0 : Nat) < List.length l212) <|
                            getK l212 ((0 : Nat)) fun d219 =>
                            sif (D.isAgg d219 = false) <|
                            bindK (F_virtual_Virtual_Read [x199, D.int IntKind.i64 i201] [c208]) fun r220 =>
                            nilK r220.outs <|
                            consK r220.tbs fun c221 q222 =>
                            nilK q222 <|
                            asTup r220.r fun ts223 =>
                            getCells ([Lf.any, Lf.any]) ts223 fun c224 =>
                            asOwn c224.fst fun l225 =>
                            asI IntKind.i64 c224.snd.fst fun i226 =>
                            sif ((0 : Nat) + List.length l225 ≤ List.length l225) <|
                            bindK (F_wattlekeep_Same_byte   [D.sl Tag.lent (cut (0 : Nat) (List.length l225) l225),     D.sl Tag.lent       [D.int IntKind.u8 (0 : Int), D.int IntKind.u8 (0 : Int), D.int IntKind.u8 (0 : Int), D.int IntKind.u8 (0 : Int),         D.int IntKind.u8 (0 : Int), D.int IntKind.u8 (0 : Int), D.int IntKind.u8 (0 : Int), D.int IntKind.u8 (0 : Int),         D.int IntKind.u8 (0 : Int), D.int IntKind.u8 (0 : Int), D.int IntKind.u8 (0 : Int), D.int IntKind.u8 (0 : Int),         D.int IntKind.u8 (0 : Int), D.int IntKind.u8 (0 : Int), D.int IntKind.u8 (0 : Int), D.int IntKind.u8 (0 : Int),         D.int IntKind.u8 (0 : Int), D.int IntKind.u8 (0 : Int), D.int IntKind.u8 (0 : Int), D.int IntKind.u8 (0 : Int),         D.int IntKind.u8 (0 : Int), D.int IntKind.u8 (0 : Int), D.int IntKind.u8 (0 : Int), D.int IntKind.u8 (0 : Int),         D.int IntKind.u8 (0 : Int), D.int IntKind.u8 (0 : Int), D.int IntKind.u8 (0 : Int), D.int IntKind.u8 (0 : Int),         D.int IntKind.u8 (0 : Int), D.int IntKind.u8 (0 : Int), D.int IntKind.u8 (0 : Int), D.int IntKind.u8 (0 : Int)]]) fun r227 =>
                            asB r227 fun b228 =>
                            brK (!b228)
                              (some (D.bool false))
                              (letN (IntKind.wrap IntKind.i64 (i201 + (1 : Int))) fun n229 =>
                              again195 ((((i196, i197, i198, PUnit.unit), x199, l200, n229, PUnit.unit), c221, PUnit.unit))))))
                        (bindK (F_virtual_Virtual_Read [x199, D.int IntKind.i64 i201] [T202]) fun r230 =>
                        nilK r230.outs <|
                        consK r230.tbs fun c231 q232 =>
                        nilK q232 <|
                        asTup r230.r fun ts233 =>
                        getCells ([Lf.any, Lf.any]) ts233 fun c234 =>
                        asOwn c234.fst fun l235 =>
                        asI IntKind.i64 c234.snd.fst fun i236 =>
                        brK (i236 != (0 : Int))
                          (some (D.bool false))
                          (sif ((0 : Nat) + List.length l235 ≤ List.length l235) <|
                          bindK (F_wattlekeep_Same_byte [D.sl Tag.lent (cut (0 : Nat) (List.length l235) l235), D.sl t205 l206]) fun r237 =>
                          asB r237 fun b238 =>
                          brK (!b238)
                            (some (D.bool false))
                            (sif ((0 : Nat) < List.length l235) <|
                            getK l235 ((0 : Nat)) fun d239 =>
                            asI IntKind.u8 d239 fun i240 =>
                            letN (bits BinOp.xor IntKind.u8 i240 (255 : Int)) fun n241 =>
                            sif ((0 : Nat) < List.length l235) <|
                            getK l235 ((0 : Nat)) fun d242 =>
                            sif (D.isAgg d242 = false) <|
                            bindK (F_virtual_Virtual_Read [x199, D.int IntKind.i64 i201] [c231]) fun r243 =>
                            nilK r243.outs <|
                            consK r243.tbs fun c244 q245 =>
                            nilK q245 <|
                            asTup r243.r fun ts246 =>
                            getCells ([Lf.any, Lf.any]) ts246 fun c247 =>
                            asOwn c247.fst fun l248 =>
                            asI IntKind.i64 c247.snd.fst fun i249 =>
                            sif ((0 : Nat) + List.length l248 ≤ List.length l248) <|
                            bindK (F_wattlekeep_Same_byte [D.sl Tag.lent (cut (0 : Nat) (List.length l248) l248), D.sl t205 l206]) fun r250 =>
                            asB r250 fun b251 =>
                            brK (!b251)
                              (some (D.bool false))
                              (letN (IntKind.wrap IntKind.i64 (i201 + (1 : Int))) fun n252 =>
                              again195 ((((i196, i197, i198, PUnit.unit), x199, l200, n252, PUnit.unit), c244, PUnit.unit)))))))
                      (bindK (F_virtual_Virtual_Step [x199] [T202]) fun r253 =>
                      nilK r253.outs <|
                      consK r253.tbs fun c254 q255 =>
                      nilK q255 <|
                      asI IntKind.i64 r253.r fun i256 =>
                      brK (i256 == (9 : Int))
                        (bindK (F_virtual_Virtual_Capacity [x199] [c254]) fun r257 =>
                        nilK r257.outs <|
                        nilK r257.tbs <|
                        asI IntKind.i64 r257.r fun i258 =>
                        bindK (F_wattleref01_Capacity [D.agg [D.int IntKind.i64 i196, D.int IntKind.i64 i197, D.int IntKind.i64 i198]]) fun r259 =>
                        asI IntKind.i64 r259 fun i260 =>
                        brK (i258 == i260)
                          (bindK (F_wattlelaw24_wakes []) fun r261 =>
                          asB r261 fun b262 =>
                          some (D.bool b262))
                          (some (D.bool false)))
                        (some (D.bool false))))
                    ((((i172, i173, i174, PUnit.unit), x175, l176, (0 : Int), PUnit.unit), T178, PUnit.unit))))
                (((i158, (i18, i19, i20, PUnit.unit), (i21, i22, i23, PUnit.unit), x24, l25, (0 : Int), PUnit.unit), c164, PUnit.unit))))))
        (((a2, a3, (c5.fst, c5.snd.fst, c5.snd.snd.fst, PUnit.unit), (c7.fst, c7.snd.fst, c7.snd.snd.fst, PUnit.unit), c12.fst,     [], (0 : Int), PUnit.unit),   c9, PUnit.unit))))
theorem G_wattlelaw24_VirtualKeeps (F_wattleplay_Pair : List D → Option D) (F_virtual_New : List D → List Tb → Option Ans) (F_wattleref01_Capacity : List D → Option D) (F_wattlekeep_Within : List D → Option D) (F_wattleplay_Sector : List D → Option D) (F_virtual_Virtual_Write : List D → List Tb → Option Ans) (F_wattlekeep_Copy_byte : List D → Option D) (F_virtual_Virtual_Start : List D → List Tb → Option Ans) (F_virtual_Virtual_Fail : List D → List Tb → Option Ans) (F_wattleref01_Windows : List D → Option D) (F_virtual_Virtual_Capacity : List D → List Tb → Option Ans) (F_virtual_Virtual_Step : List D → List Tb → Option Ans) (F_virtual_Virtual_Replace : List D → List Tb → Option Ans) (F_virtual_Virtual_Read : List D → List Tb → Option Ans) (F_wattlekeep_Same_byte : List D → Option D) (F_wattlelaw24_wakes : List D → Option D) (tga2 : Tag) (a0 : Int) (a1 : Int) (a2 : List D) (a3 : Int) : denT Try.prog (penv' [(ID.wattleplay_Pair, (.pure [0, 0] F_wattleplay_Pair)), (ID.virtual_New, (.st [] [0, 0] [(4160, true)] F_virtual_New)), (ID.wattleref01_Capacity, (.pure [0] F_wattleref01_Capacity)), (ID.wattlekeep_Within, (.pure [0] F_wattlekeep_Within)), (ID.wattleplay_Sector, (.pure [1] F_wattleplay_Sector)), (ID.virtual_Virtual_Write, (.st [] [0] [(4160, true)] F_virtual_Virtual_Write)), (ID.wattlekeep_Copy_byte, (.pure [1] F_wattlekeep_Copy_byte)), (ID.virtual_Virtual_Start, (.st [] [0] [(4160, true)] F_virtual_Virtual_Start)), (ID.virtual_Virtual_Fail, (.st [] [0] [(4160, true)] F_virtual_Virtual_Fail)), (ID.wattleref01_Windows, (.pure [0] F_wattleref01_Windows)), (ID.virtual_Virtual_Capacity, (.st [] [0] [(4160, false)] F_virtual_Virtual_Capacity)), (ID.virtual_Virtual_Step, (.st [] [0] [(4160, true)] F_virtual_Virtual_Step)), (ID.virtual_Virtual_Replace, (.st [] [0] [(4160, true)] F_virtual_Virtual_Replace)), (ID.virtual_Virtual_Read, (.st [] [1, 0] [(4160, true)] F_virtual_Virtual_Read)), (ID.wattlekeep_Same_byte, (.pure [0] F_wattlekeep_Same_byte)), (ID.wattlelaw24_wakes, (.pure [0] F_wattlelaw24_wakes))]) ann_wattlelaw24_VirtualKeeps [0] ID.wattlelaw24_VirtualKeeps [.int .i64 a0, .int .i64 a1, .sl tga2 a2, .int .i64 a3] = sif (D.nohL [.int .i64 a0, .int .i64 a1, .sl tga2 a2, .int .i64 a3] = true) (g_wattlelaw24_VirtualKeeps F_wattleplay_Pair F_virtual_New F_wattleref01_Capacity F_wattlekeep_Within F_wattleplay_Sector F_virtual_Virtual_Write F_wattlekeep_Copy_byte F_virtual_Virtual_Start F_virtual_Virtual_Fail F_wattleref01_Windows F_virtual_Virtual_Capacity F_virtual_Virtual_Step F_virtual_Virtual_Replace F_virtual_Virtual_Read F_wattlekeep_Same_byte F_wattlelaw24_wakes a0 a1 (D.lentL a2) a3) := by kernel_rfl
theorem F_wattlelaw24_VirtualKeeps_eq (tga2 : Tag) (a0 : Int) (a1 : Int) (a2 : List D) (a3 : Int) : F_wattlelaw24_VirtualKeeps [.int .i64 a0, .int .i64 a1, .sl tga2 a2, .int .i64 a3] = sif (D.nohL [.int .i64 a0, .int .i64 a1, .sl tga2 a2, .int .i64 a3] = true) (g_wattlelaw24_VirtualKeeps F_wattleplay_Pair F_virtual_New F_wattleref01_Capacity F_wattlekeep_Within F_wattleplay_Sector F_virtual_Virtual_Write F_wattlekeep_Copy_byte F_virtual_Virtual_Start F_virtual_Virtual_Fail F_wattleref01_Windows F_virtual_Virtual_Capacity F_virtual_Virtual_Step F_virtual_Virtual_Replace F_virtual_Virtual_Read F_wattlekeep_Same_byte F_wattlelaw24_wakes a0 a1 (D.lentL a2) a3) := G_wattlelaw24_VirtualKeeps F_wattleplay_Pair F_virtual_New F_wattleref01_Capacity F_wattlekeep_Within F_wattleplay_Sector F_virtual_Virtual_Write F_wattlekeep_Copy_byte F_virtual_Virtual_Start F_virtual_Virtual_Fail F_wattleref01_Windows F_virtual_Virtual_Capacity F_virtual_Virtual_Step F_virtual_Virtual_Replace F_virtual_Virtual_Read F_wattlekeep_Same_byte F_wattlelaw24_wakes tga2 a0 a1 a2 a3
end Wf

/-
  Sectors are as they were written last: what the states are.
-/
namespace Wf
open Go Go.RowKit Go.Proofs
set_option linter.unusedSimpArgs false
set_option linter.unusedVariables false

/-- None of the disks, or but one. -/
def none_ (n : Nat) : List Bool := List.replicate n false
def one_ (n d : Nat) : List Bool := (List.replicate n false).set d true
theorem none_getD (n j : Nat) : (none_ n).getD j false = false := by
  rw [List.getD_eq_getElem?_getD, none_, List.getElem?_replicate]; split <;> rfl
theorem one_getD {n d : Nat} (hd : d < n) (j : Nat) : (one_ n d).getD j false = decide (j = d) := by
  rw [List.getD_eq_getElem?_getD, one_, List.getElem?_set]
  by_cases e : d = j
  · subst e; simp [hd]
  · rw [if_neg e, List.getElem?_replicate]
    have : decide (j = d) = false := by simp; omega
    rw [this]; split <;> rfl
theorem lost_none (n m : Nat) : lostN (none_ n) (none_ n) m = 0 := by
  induction m with
  | zero => rfl
  | succ m ih => simp only [lostN, ih, none_getD]; rfl
theorem lost_one {n d : Nat} (hd : d < n) (m : Nat) : lostN (one_ n d) (one_ n d) m ≤ 1 := by
  have : lostN (one_ n d) (one_ n d) m = if d < m then 1 else 0 := by
    induction m with
    | zero => rfl
    | succ m ih =>
      simp only [lostN, ih, one_getD hd, Bool.or_self, decide_eq_true_eq]
      by_cases h1 : d < m
      · rw [if_pos h1, if_neg (by omega), if_pos (by omega)]
      · by_cases h2 : m = d
        · rw [if_neg h1, if_pos h2, if_pos (by omega)]
        · rw [if_neg h1, if_neg h2, if_neg (by omega)]
  rw [this]; split <;> omega
theorem sync_none (n m : Nat) : syncO m (none_ n) (none_ n) = none_ n := by
  apply List.ext_getElem?
  intro j
  rw [syncO_get, none_getD]
  cases (none_ n)[j]? <;> simp
theorem sync_one {n d m : Nat} (hd : d < n) (hm : d < m) : syncO m (one_ n d) (none_ n) = one_ n d := by
  apply List.ext_getElem?
  intro j
  rw [syncO_get, one_getD hd]
  by_cases e : d = j
  · subst e
    rw [none_, one_, List.getElem?_set, if_pos rfl]
    simp [hd, hm]
  · have : decide (j = d) = false := by simp; omega
    rw [this, none_, one_, List.getElem?_set, if_neg e]
    cases (List.replicate n false)[j]? <;> simp
theorem sync_one' {n d m : Nat} : syncO m (one_ n d) (one_ n d) = one_ n d := by
  apply List.ext_getElem?
  intro j
  rw [syncO_get, List.getD_eq_getElem?_getD]
  cases (one_ n d)[j]? with
  | none => rfl
  | some o => cases o <;> simp

/-- At rest. -/
def rest (es : List (Int × D)) (n : Nat) (g : Geo) : VS := { es, fl := none_ n, ou := none_ n, a := g, b := ⟨0, 0, 0⟩, run := false, win := 0 }
/-- On its way, so many windows done; disk d is lost, till it is replaced behind the second one. -/
def way (es : List (Int × D)) (n : Nat) (x y : Geo) (d k : Nat) : VS :=
  { es, fl := if k < 2 then one_ n d else none_ n, ou := if k = 1 then one_ n d else none_ n, a := x, b := y, run := true, win := k }
def way' (es : List (Int × D)) (n : Nat) (x y : Geo) (d k : Nat) : VS :=
  { es, fl := if k < 2 then one_ n d else none_ n, ou := if k < 2 then one_ n d else none_ n, a := x, b := y, run := true, win := k }

theorem rest_sync (es : List (Int × D)) (n : Nat) (g : Geo) : (rest es n g).sync = rest es n g := by
  show ({ rest es n g with ou := syncO _ (none_ n) (none_ n) } : VS) = _
  rw [sync_none]; rfl
theorem rest_err {es : List (Int × D)} {n : Nat} {g : Geo} (hg : g.ok = true) : (rest es n g).err = 0 := by
  unfold VS.err
  have : (rest es n g).lost = 0 := lost_none ..
  rw [this]
  have h2 : ¬ ((0 : Nat) : Int) > budgetG g.l g.d g.c := by
    have := ok_iff.1 hg
    unfold budgetG; rw [if_pos (show validG g.l g.d g.c = true from hg)]; omega
  exact if_neg h2
theorem way_sync {es : List (Int × D)} {n : Nat} {x y : Geo} {d k : Nat} (hd : d < n) (hy : (d : Int) < y.d) : (way es n x y d k).sync = way' es n x y d k := by
  have hm : (way es n x y d k).mem = y.d.toNat := rfl
  show ({ way es n x y d k with ou := syncO (way es n x y d k).mem (way es n x y d k).fl (way es n x y d k).ou } : VS) = _
  rw [hm]
  have : syncO y.d.toNat (way es n x y d k).fl (way es n x y d k).ou = if k < 2 then one_ n d else none_ n := by
    show syncO y.d.toNat (if k < 2 then one_ n d else none_ n) (if k = 1 then one_ n d else none_ n) = _
    by_cases h0 : k < 2
    · simp only [if_pos h0]
      by_cases h1 : k = 1
      · rw [if_pos h1, sync_one']
      · rw [if_neg h1, sync_one hd (by omega)]
    · simp only [if_neg h0, if_neg (show ¬ k = 1 by omega), sync_none]
  rw [this]; rfl
theorem way_err {es : List (Int × D)} {n : Nat} {x y : Geo} {d k : Nat} (hd : d < n) (hx : x.ok = true) : (way' es n x y d k).err = 0 := by
  unfold VS.err
  have : (way' es n x y d k).lost ≤ 1 := by
    show lostN (if k < 2 then one_ n d else none_ n) (if k < 2 then one_ n d else none_ n) _ ≤ 1
    split
    · exact lost_one hd _
    · rw [lost_none]; omega
  have h2 : ¬ ((way' es n x y d k).lost : Int) > budgetG x.l x.d x.c := by
    have := ok_iff.1 hx
    unfold budgetG; rw [if_pos (show validG x.l x.d x.c = true from hx)]; omega
  exact if_neg h2
theorem way_step {es : List (Int × D)} {n : Nat} {x y : Geo} {d k : Nat} (hd : d < n) (hx : x.ok = true) (hy : (d : Int) < y.d) (hk : k < 100) :
    (way es n x y d k).step = (0, if ((k + 1 : Nat) : Int) = winP x y then { way' es n x y d k with a := y, b := ⟨0, 0, 0⟩, run := false, win := 0 } else { way' es n x y d k with win := ((k + 1 : Nat) : Int) }) := by
  have hs : (way es n x y d k).sync = way' es n x y d k := way_sync hd hy
  have he := way_err (es := es) (y := y) (k := k) hd hx
  have hw : IntKind.i64.wrap ((way es n x y d k).win + 1) = ((k + 1 : Nat) : Int) := by
    show IntKind.i64.wrap ((k : Int) + 1) = _
    rw [wrap_fit (by omega) (by omega)]; rfl
  unfold VS.step
  rw [hs, he, hw, if_neg (show ¬ (way es n x y d k).run = false from by simp [way]), if_neg (by simp)]
  show (if _ = winP x y then _ else _) = _
  split <;> rfl
end Wf

/-
  Sectors are as they were written last, whatever is started, stepped, lost, and replaced.
-/
namespace Wf
open Go Go.RowKit Go.Proofs
set_option linter.unusedSimpArgs false
set_option linter.unusedVariables false

theorem one_off {n d : Nat} (hd : d < n) : (one_ n d).set d false = none_ n := by
  unfold one_ none_
  apply List.ext_getElem?
  intro j
  rw [List.set_set, List.getElem?_set]
  by_cases e : d = j
  · subst e; simp [hd]
  · rw [if_neg e]
theorem way_replace {es : List (Int × D)} {n : Nat} {x y : Geo} {d : Nat} (hd : d < n) (hx : x.ok = true) (hy : (d : Int) < y.d) :
    ({ way' es n x y d 1 with win := 2 } : VS).replace d = (0, way es n x y d 2) := by
  obtain ⟨s, hs⟩ : ∃ s : VS, s = { way' es n x y d 1 with win := 2 } := ⟨_, rfl⟩
  have hm : s.mem = y.d.toNat := by rw [hs]; rfl
  have hfl : s.fl = one_ n d := by rw [hs]; rfl
  have hou : s.ou = one_ n d := by rw [hs]; rfl
  have hsy : s.sync = s := by
    show ({ s with ou := syncO s.mem s.fl s.ou } : VS) = s
    rw [hfl, hou, sync_one']
    rw [hs]; rfl
  have he : s.err = 0 := by
    have := way_err (es := es) (y := y) (k := 1) hd hx
    rw [hs]; exact this
  rw [← hs]
  unfold VS.replace
  rw [hsy, he, hm, hfl, hou]
  have h1 : ¬ ((d : Int) < 0 ∨ (y.d.toNat : Int) ≤ d) := by omega
  rw [if_neg h1]
  have h2 : (one_ n d).getD (d : Int).toNat false = true := by rw [one_getD hd]; simp
  rw [h2, if_neg (by simp)]
  simp only [if_true, Int.toNat_natCast, one_off hd]
  rw [hs]; rfl

/-- What is to be read, and what was written. -/
def Kept' (es w : List (Int × D)) : Prop := ∀ k, (∃ xs, Bytes xs ∧ findD k es = some (.agg xs) ∧ findD k w = some (.sl .fresh xs)) ∨ (findD k es = none ∧ findD k w = none)
theorem kept_nil : Kept' [] [] := fun k => .inr ⟨rfl, rfl⟩
theorem kept_set {es w : List (Int × D)} (h : Kept' es w) (n : Int) {xs : List D} (hx : Bytes xs) : Kept' (setD n (.agg xs) es) (setD n (.sl .fresh xs) w) := by
  intro k
  rw [findD_setD, findD_setD]
  by_cases e : k = n
  · rw [if_pos e, if_pos e]; exact .inl ⟨xs, hx, rfl, rfl⟩
  · rw [if_neg e, if_neg e]; exact h k
theorem rest_ok {es w : List (Int × D)} (h : Kept' es w) {n : Nat} {g : Geo} (hn : n ≤ 8) (hg : g.ok = true) (hd : g.d ≤ n) : (rest es n g).Ok := by
  refine ⟨by simpa [rest, none_] using hn, rfl, hg, by simpa [rest, none_] using hd, fun h => (by cases h), fun k x hk => ?_⟩
  rcases h k with ⟨xs, h1, h2, _⟩ | ⟨h1, _⟩
  · have hk : findD k es = some x := hk
    rw [h2] at hk; injection hk with hk
    exact ⟨xs, hk.symm, h1⟩
  · have hk : findD k es = some x := hk
    rw [h1] at hk; cases hk
theorem way_ok {es w : List (Int × D)} (h : Kept' es w) {n : Nat} {x y : Geo} {d k : Nat} (hn : n ≤ 8) (hx : x.ok = true) (hd : x.d ≤ n) (hc : x.can y = true) (hy : y.d ≤ n) : (way es n x y d k).Ok := by
  have l1 : (way es n x y d k).fl.length = n := by
    show (if k < 2 then one_ n d else none_ n).length = n
    split <;> simp [one_, none_]
  have l2 : (way es n x y d k).ou.length = n := by
    show (if k = 1 then one_ n d else none_ n).length = n
    split <;> simp [one_, none_]
  exact ⟨by rw [l1]; exact hn, by rw [l1, l2], hx, by rw [l1]; exact hd, fun _ => ⟨hc, by rw [l1]; exact hy⟩, (rest_ok h hn hx hd).es⟩
end Wf

/-
  Sectors are as they were written last: the law.
-/
namespace Wf
open Go Go.RowKit Go.Proofs
set_option linter.unusedSimpArgs false
set_option linter.unusedVariables false

theorem rest_write {es : List (Int × D)} {n : Nat} {g : Geo} (hg : g.ok = true) {k : Int} (h0 : 0 ≤ k) (h1 : k < g.cap) {xs : List D} (hx : Bytes xs) : (rest es n g).write k xs = (0, rest (setD k (.agg xs) es) n g) := by
  unfold VS.write
  rw [rest_sync, rest_err hg]
  have e1 : ¬ (k < 0 ∨ (rest es n g).a.cap ≤ k) := by
    show ¬ (k < 0 ∨ g.cap ≤ k); omega
  rw [if_neg (by simp [hx.1]), if_neg e1, if_neg (by simp)]
  rfl
theorem rest_read {es w : List (Int × D)} (h : Kept' es w) {n : Nat} {g : Geo} (hg : g.ok = true) {k : Int} (h0 : 0 ≤ k) (h1 : k < g.cap) : (rest es n g).read k = ((rest es n g).sec k, 0) := by
  unfold VS.read
  rw [rest_sync, rest_err hg]
  have e1 : ¬ (k < 0 ∨ (rest es n g).a.cap ≤ k) := by
    show ¬ (k < 0 ∨ g.cap ≤ k); omega
  rw [if_neg e1, if_neg (by simp)]
theorem rest_start {es : List (Int × D)} {n : Nat} {x y : Geo} (hc : x.can y = true) (hn : y.d ≤ n) : (rest es n x).start y = (0, { rest es n x with b := y, run := true, win := 0 }) := by
  unfold VS.start
  rw [rest_sync]
  have e1 : ¬ ((rest es n x).a.can y = false ∨ ((rest es n x).fl.length : Int) < y.d) := by
    have : ((rest es n x).fl.length : Int) = n := by simp [rest, none_]
    rw [this]
    show ¬ (x.can y = false ∨ (n : Int) < y.d)
    rw [hc]; simp; omega
  have e2 : ∀ m, ¬ true ∈ (none_ n).take m := by
    intro m h
    have := List.mem_of_mem_take h
    have := (List.mem_replicate.1 this).2
    cases this
  rw [if_neg (show ¬ (rest es n x).run = true from by simp [rest]), if_neg e1]
  rw [if_neg]
  rintro (h | h)
  · exact e2 _ h
  · exact e2 _ h
theorem start_fail {es : List (Int × D)} {n : Nat} {x y : Geo} {d : Nat} (hd : d < n) : ({ rest es n x with b := y, run := true, win := 0 } : VS).fail d = (0, way es n x y d 0) := by
  unfold VS.fail
  have e1 : ¬ ((d : Int) < 0 ∨ ((none_ n).length : Int) ≤ d) := by simp [none_]; omega
  show (if (d : Int) < 0 ∨ ((none_ n).length : Int) ≤ d then _ else _) = _
  rw [if_neg e1]
  rfl
theorem cap_pos {g : Geo} (h : g.ok = true) : 1 ≤ g.cap ∧ g.cap ≤ 128 := by
  have := width_ok h
  rw [cap_of]; omega

/-- Where the array is on its way. -/
def stW (es : List (Int × D)) (n : Nat) (x y : Geo) (d k : Nat) : VS := if (k : Int) < winP x y then way es n x y d k else rest es n y
abbrev A2 := (Int × (Int × Int × Int × PUnit.{1}) × (Int × Int × Int × PUnit.{1}) × D × List (Int × D) × Int × PUnit.{1}) × List (List D) × PUnit
def st2 (es w : List (Int × D)) (n : Nat) (x y : Geo) (d : Nat) (k : Nat) : A2 := (((d : Int), (x.l, x.d, x.c, PUnit.unit), (y.l, y.d, y.c, PUnit.unit), D.h 4160 0 0, w, (k : Int), PUnit.unit), [(stW es n x y d k).cells], PUnit.unit)
abbrev A3 := ((Int × Int × Int × PUnit.{1}) × D × List (Int × D) × Int × PUnit.{1}) × List (List D) × PUnit
def st3 (es w : List (Int × D)) (n : Nat) (y : Geo) (k : Nat) : A3 := (((y.l, y.d, y.c, PUnit.unit), D.h 4160 0 0, w, (k : Int), PUnit.unit), [(rest es n y).cells], PUnit.unit)

theorem way_next {es w : List (Int × D)} (h : Kept' es w) {n : Nat} {x y : Geo} {d k : Nat} (hn : n ≤ 8) (hc : x.can y = true) (hy : y.d ≤ n) (hd : d < n) (hdy : (d : Int) < y.d) (hk : (k : Int) < winP x y) (k1 : k ≠ 1) :
    F_virtual_Virtual_Step [.h 4160 0 0] [[(way es n x y d k).cells]] = some (Ans.mk (iD 0) [] [[(stW es n x y d (k + 1)).cells]]) := by
  obtain ⟨hx, hyo, _, hxy, _, _⟩ := can_iff.1 hc
  have hwin := (win_of hc).2.1
  have hway := way_ok (k := k) (d := d) h hn hx (by omega) hc hy
  have hs := v_step (T := [(way es n x y d k).cells]) (i := 0) rfl hway
  rw [way_step hd hx hdy (by omega)] at hs
  have e : (if ((k + 1 : Nat) : Int) = winP x y then ({ way' es n x y d k with a := y, b := ⟨0, 0, 0⟩, run := false, win := 0 } : VS) else { way' es n x y d k with win := ((k + 1 : Nat) : Int) }) = stW es n x y d (k + 1) := by
    by_cases kW : ((k + 1 : Nat) : Int) = winP x y
    · have h2 : ¬ k < 2 := by omega
      rw [if_pos kW]
      unfold stW
      rw [if_neg (by omega)]
      unfold way' rest
      simp only [if_neg h2]
    · rw [if_neg kW]
      unfold stW
      rw [if_pos (by omega)]
      unfold way' way
      by_cases h0 : k = 0
      · subst h0; rfl
      · have h2 : ¬ k < 2 := by omega
        have h3 : ¬ k + 1 < 2 := by omega
        have h4 : ¬ k + 1 = 1 := by omega
        simp only [if_neg h2, if_neg h3, if_neg h4]
  rw [e] at hs
  exact hs
theorem way_one {es w : List (Int × D)} (h : Kept' es w) {n : Nat} {x y : Geo} {d : Nat} (hn : n ≤ 8) (hc : x.can y = true) (hy : y.d ≤ n) (hd : d < n) (hdy : (d : Int) < y.d) :
    ∃ s : VS, F_virtual_Virtual_Step [.h 4160 0 0] [[(way es n x y d 1).cells]] = some (Ans.mk (iD 0) [] [[s.cells]]) ∧ F_virtual_Virtual_Replace [.h 4160 0 0, .int .i64 d] [[s.cells]] = some (Ans.mk (iD 0) [] [[(stW es n x y d 2).cells]]) := by
  obtain ⟨hx, hyo, _, hxy, _, _⟩ := can_iff.1 hc
  have hwin := (win_of hc).2.1
  have hway := way_ok (k := 1) (d := d) h hn hx (by omega) hc hy
  have hs := v_step (T := [(way es n x y d 1).cells]) (i := 0) rfl hway
  have hs2 := step_ok hway
  rw [way_step hd hx hdy (by omega), if_neg (by omega)] at hs hs2
  refine ⟨_, hs, ?_⟩
  have hr := v_replace (T := [({ way' es n x y d 1 with win := ((1 + 1 : Nat) : Int) } : VS).cells]) (i := 0) rfl hs2 d
  rw [show ({ way' es n x y d 1 with win := ((1 + 1 : Nat) : Int) } : VS).replace d = (0, way es n x y d 2) from way_replace hd hx hdy] at hr
  have e : way es n x y d 2 = stW es n x y d 2 := (if_pos (by omega)).symm
  rw [e] at hr
  exact hr

theorem virtual_keeps (a0 a1 : Int) (l : List Int) (a3 : Int) (tg : Tag) : F_wattlelaw24_VirtualKeeps [.int .i64 a0, .int .i64 a1, .sl tg (intL l), .int .i64 a3] = some (.bool true) := by
  rw [F_wattlelaw24_VirtualKeeps_eq, intL_lent]
  unfold g_wattlelaw24_VirtualKeeps
  obtain ⟨x, y, hpair, hcan, hx5, hy8⟩ := pair_play a0 a1
  obtain ⟨hx, hy, _, hxy, _, _⟩ := can_iff.1 hcan
  have hxo := ok_iff.1 hx
  have hyo := ok_iff.1 hy
  obtain ⟨N, hN⟩ : ∃ N : Nat, (N : Int) = y.d := ⟨y.d.toNat, by omega⟩
  have hnew := v_new (T := []) (n := y.d) (g := x) (by omega) hy8 hx hxy
  have hNn : y.d.toNat = N := by omega
  rw [hNn, show VS.new N x = rest [] N x from rfl] at hnew
  rw [hpair]
  unfold Geo.D
  simp [D.nohL, D.noh, intL_noh, hnew, okData]
  have hcapx := cap_pos hx
  have hcapy := cap_pos hy
  have hwin := win_of hcan
  refine loopN_spec (α := (List D × Int × (Int × Int × Int × PUnit) × (Int × Int × Int × PUnit) × D × List (Int × D) × Int × PUnit) × List (List D) × PUnit) (fun s => 100 - s.1.2.2.2.2.2.2.1.toNat) (fun _ => some (D.bool true))
    (fun s => ∃ (k : Nat) (es w : List (Int × D)), k ≤ 21 ∧ Kept' es w ∧ s = ((intL l, a3, (x.l, x.d, x.c, PUnit.unit), (y.l, y.d, y.c, PUnit.unit), D.h 4160 0 0, w, (k : Int), PUnit.unit), [(rest es N x).cells], PUnit.unit)) ?_ ⟨0, [], [], by omega, kept_nil, rfl⟩ (by simp)
  rintro again _ ⟨k, es, w, hk, hkept, rfl⟩ hag
  have w2 : IntKind.i64.wrap ((k : Int) + 2) = (k : Int) + 2 := wrap_fit (by omega) (by omega)
  have w1 : IntKind.i64.wrap ((k : Int) + 1) = (k : Int) + 1 := wrap_fit (by omega) (by omega)
  dsimp only
  rw [w1, intL_len]
  have hrok : (rest es N x).Ok := rest_ok hkept (by omega) hx (by omega)
  obtain ⟨d, hd⟩ : ∃ d : Nat, (d : Int) = a3 % x.d := ⟨(a3 % x.d).toNat, by have := Int.emod_nonneg a3 (show x.d ≠ 0 by omega); omega⟩
  have hdx : (d : Int) < x.d := by have := Int.emod_lt_of_pos a3 (show 0 < x.d by omega); omega
  have hdN : d < N := by omega
  have hdy : (d : Int) < y.d := by omega
  have hwith := within a3 x.d (by omega) (by omega)
  rw [← hd] at hwith
  have hst := v_start (T := [(rest es N x).cells]) (i := 0) rfl hrok y
  rw [rest_start hcan (by omega)] at hst
  have hsok : ({ rest es N x with b := y, run := true, win := 0 } : VS).Ok := ⟨hrok.n, hrok.len, hrok.a, hrok.ad, fun _ => ⟨hcan, by simp [rest, none_]; omega⟩, hrok.es⟩
  have hfl := v_fail (T := [({ rest es N x with b := y, run := true, win := 0 } : VS).cells]) (i := 0) rfl hsok d
  rw [start_fail hdN] at hfl
  have hst' : F_virtual_Virtual_Start [.h 4160 0 0, gD y.l y.d y.c] [[(rest es N x).cells]] = some (Ans.mk (iD 0) [] [[({ rest es N x with b := y, run := true, win := 0 } : VS).cells]]) := hst
  have hfl' : F_virtual_Virtual_Fail [.h 4160 0 0, .int .i64 d] [[({ rest es N x with b := y, run := true, win := 0 } : VS).cells]] = some (Ans.mk (iD 0) [] [[(way es N x y d 0).cells]]) := hfl
  clear hst hfl
  generalize hq : ({ rest es N x with b := y, run := true, win := 0 } : VS) = q at hst' hfl'
  have e0 : (way es N x y d 0) = stW es N x y d 0 := (if_pos (by omega)).symm
  rw [e0] at hfl'
  have hrw : F_wattleref01_Windows [gD x.l x.d x.c, gD y.l y.d y.c] = some (iD (winP x y)) := ref_windows x y
  by_cases c1 : (k : Int) + 1 < l.length
  · rw [decide_eq_true c1, brK_true]
    by_cases c2 : (k : Int) < 20
    · rw [decide_eq_true c2, brK_true]
      have hx0 := intL_get (l := l) (j := k) (by omega)
      have hx1 := intL_get (l := l) (j := k + 1) (by omega)
      have n0 : ((k : Int)).toNat = k := by omega
      have n1 : ((k : Int) + 1).toNat = k + 1 := by omega
      have z0 : (0 : Int) ≤ (k : Int) := by omega
      have z1 : (0 : Int) ≤ (k : Int) + 1 := by omega
      generalize l[k] = x0 at *
      generalize l[k + 1] = x1 at *
      obtain ⟨xs, hxs, hsec⟩ := sector_play x1
      have hle : (0 : Nat) + xs.length ≤ xs.length := by omega
      have hcr := cap_geoR x
      have hwi := within x0 x.cap (by omega) (by omega)
      have i0 := Int.emod_nonneg x0 (show x.cap ≠ 0 by omega)
      have i1 := Int.emod_lt_of_pos x0 (show 0 < x.cap by omega)
      generalize x0 % x.cap = n at *
      have hw := v_write (T := [(rest es N x).cells]) (i := 0) rfl hrok n .lent hxs.2
      rw [rest_write hx i0 i1 hxs] at hw
      have hw' : F_virtual_Virtual_Write [.h 4160 0 0, .int .i64 n, .sl .lent xs] [[(rest es N x).cells]] = some (Ans.mk (iD 0) [] [[(rest (setD n (.agg xs) es) N x).cells]]) := hw
      have hcp := copy_byte hxs .lent
      obtain ⟨b, hb⟩ : ∃ b, xs[0]? = some b := ⟨_, List.getElem?_eq_getElem (by rw [hxs.1]; decide)⟩
      obtain ⟨bn, rfl⟩ := hxs.2 b (List.mem_of_getElem? hb)
      have hl0 : 0 < xs.length := by rw [hxs.1]; decide
      have hres := hag ((intL l, a3, (x.l, x.d, x.c, PUnit.unit), (y.l, y.d, y.c, PUnit.unit), D.h 4160 0 0, setD n (.sl .fresh xs) w, ((k + 2 : Nat) : Int), PUnit.unit), [(rest (setD n (.agg xs) es) N x).cells], PUnit.unit)
        ⟨k + 2, _, _, by omega, kept_set hkept n hxs, rfl⟩ (by simp; omega)
      simp only [n0, n1, sif_pos z0, sif_pos z1, getK_of hx0, getK_of hx1, asI_int, hcr, bindK_some_eq, iD, hwi, letN_eq, w1, hsec, asOwn_own, sif_pos hle, cut_whole, hw', nilK_nil, consK_cons, bne_self_eq_false, brK_false, hcp, sif_pos hl0, getK_of hb, D.isAgg, w2]
      simpa using hres
    · rw [decide_eq_false c2, brK_false]
      simp only [hwith, bindK_some_eq, iD, asI_int, hst', hfl', nilK_nil, consK_cons, bne_self_eq_false, brK_false]
      refine count_loop (α := A2) (st2 es w N x y d) (winP x y).toNat (by omega) (fun again k hk => ?_) (fun again => ?_)
      · have hkw : (k : Int) < winP x y := by omega
        have ek : stW es N x y d k = way es N x y d k := if_pos hkw
        have wk : IntKind.i64.wrap ((k : Int) + 1) = ((k + 1 : Nat) : Int) := by rw [wrap_fit (by omega) (by omega)]; rfl
        have hca := v_cap (T := [(way es N x y d k).cells]) (i := 0) (s := way es N x y d k) rfl
        have hca' : F_virtual_Virtual_Capacity [.h 4160 0 0] [[(way es N x y d k).cells]] = some (Ans.mk (iD x.cap) [] []) := hca
        unfold st2
        simp only [ek, hrw, bindK_some_eq, iD, asI_int, decide_eq_true hkw, brK_true, hca', nilK_nil, cap_geoR, bne_self_eq_false, brK_false]
        by_cases k1 : k = 1
        · subst k1
          obtain ⟨s, g1, g2⟩ := way_one hkept (x := x) (y := y) (by omega : N ≤ 8) hcan (by omega) hdN hdy
          simp only [g1, bindK_some_eq, iD, nilK_nil, consK_cons, asI_int, bne_self_eq_false, brK_false, show (((1 : Nat) : Int) == 1) = true from rfl, brK_true, g2, letN_eq, wk]
          try rfl
        · have g1 := way_next hkept (x := x) (y := y) (k := k) (by omega : N ≤ 8) hcan (by omega) hdN hdy hkw k1
          have kb : ((k : Int) == 1) = false := by simp; omega
          simp only [g1, bindK_some_eq, iD, nilK_nil, consK_cons, asI_int, bne_self_eq_false, brK_false, kb, letN_eq, wk]
      · have eW : stW es N x y d (winP x y).toNat = rest es N y := if_neg (by omega)
        have hnW : ¬ ((winP x y).toNat : Int) < winP x y := by omega
        unfold st2
        simp only [eW, hrw, bindK_some_eq, iD, asI_int, decide_eq_false hnW, brK_false]
        obtain ⟨zs, hzs⟩ : ∃ zs : List D, zs = [D.int IntKind.u8 (0 : Int), D.int IntKind.u8 (0 : Int), D.int IntKind.u8 (0 : Int), D.int IntKind.u8 (0 : Int), D.int IntKind.u8 (0 : Int), D.int IntKind.u8 (0 : Int), D.int IntKind.u8 (0 : Int), D.int IntKind.u8 (0 : Int), D.int IntKind.u8 (0 : Int), D.int IntKind.u8 (0 : Int), D.int IntKind.u8 (0 : Int), D.int IntKind.u8 (0 : Int), D.int IntKind.u8 (0 : Int), D.int IntKind.u8 (0 : Int), D.int IntKind.u8 (0 : Int), D.int IntKind.u8 (0 : Int), D.int IntKind.u8 (0 : Int), D.int IntKind.u8 (0 : Int), D.int IntKind.u8 (0 : Int), D.int IntKind.u8 (0 : Int), D.int IntKind.u8 (0 : Int), D.int IntKind.u8 (0 : Int), D.int IntKind.u8 (0 : Int), D.int IntKind.u8 (0 : Int), D.int IntKind.u8 (0 : Int), D.int IntKind.u8 (0 : Int), D.int IntKind.u8 (0 : Int), D.int IntKind.u8 (0 : Int), D.int IntKind.u8 (0 : Int), D.int IntKind.u8 (0 : Int), D.int IntKind.u8 (0 : Int), D.int IntKind.u8 (0 : Int)] := ⟨_, rfl⟩
        have hzr : List.replicate 32 (D.int .u8 0) = zs := by rw [hzs]; rfl
        simp only [← hzs]
        refine count_loop (α := A3) (st3 es w N y) y.cap.toNat (by omega) (fun again i hi => ?_) (fun again => ?_)
        · have hil : (i : Int) < y.cap := by omega
          have hyok : (rest es N y).Ok := rest_ok hkept (by omega) hy (by omega)
          have hr := v_read (T := [(rest es N y).cells]) (i := 0) rfl hyok i
          rw [rest_read hkept hy (by omega) hil, rest_sync] at hr
          have hr' : F_virtual_Virtual_Read [.h 4160 0 0, .int .i64 i] [[(rest es N y).cells]] = some (Ans.mk (.tup [.sl .own ((rest es N y).sec i), iD 0]) [] [[(rest es N y).cells]]) := hr
          have hb := sec_bytes hyok i
          have wi : IntKind.i64.wrap ((i : Int) + 1) = ((i + 1 : Nat) : Int) := by rw [wrap_fit (by omega) (by omega)]; rfl
          have hsame := fun u => same_refl hb.2 (by rw [hb.1]; decide) .lent u
          have hle : (0 : Nat) + ((rest es N y).sec i).length ≤ ((rest es N y).sec i).length := by omega
          have hl0 : 0 < ((rest es N y).sec i).length := by rw [hb.1]; decide
          obtain ⟨b, hb0⟩ : ∃ b, ((rest es N y).sec i)[0]? = some b := ⟨_, List.getElem?_eq_getElem hl0⟩
          obtain ⟨bn, rfl⟩ := hb.2 b (List.mem_of_getElem? hb0)
          unfold st3
          rcases hkept i with ⟨xs, hxs, h1, h2⟩ | ⟨h1, h2⟩
          · have hlook : lookD (i : Int) (D.sl Tag.nil []) w = .sl .fresh xs := by unfold lookD; rw [h2]; rfl
            have hemp : xs.isEmpty = false := by
              cases xs with
              | nil => exact absurd hxs.1 (by simp)
              | cons _ _ => rfl
            have hsec : (rest es N y).sec i = xs := by
              show (match findD (i : Int) es with | some (.agg xs) => xs | _ => _) = xs
              rw [h1]
            rw [hsec] at hr' hb hsame hle hl0 hb0
            simp only [cap_geoR, bindK_some_eq, iD, asI_int, decide_eq_true hil, brK_true, hlook, asSl_sl, hemp, brK_false, hr', nilK_nil, consK_cons, asTup_tup, getCells_any, getCells_nil, asOwn_own, bne_self_eq_false, sif_pos hle, cut_whole, hsame, asB_bool, Bool.not_true, sif_pos hl0, getK_of hb0, letN_eq, D.isAgg, sif_pos (rfl : false = false), sif_pos trivial, wi]
          · have hlook : lookD (i : Int) (D.sl Tag.nil []) w = .sl .nil [] := by unfold lookD; rw [h2]; rfl
            have hsec : (rest es N y).sec i = zs := by
              show (match findD (i : Int) es with | some (.agg xs) => xs | _ => List.replicate 32 (D.int .u8 0)) = zs
              rw [h1]; exact hzr
            rw [hsec] at hr' hb hsame hle hl0 hb0
            simp only [cap_geoR, bindK_some_eq, iD, asI_int, decide_eq_true hil, brK_true, hlook, asSl_sl, List.isEmpty_nil, sif_pos (rfl : Tag.nil = Tag.nil), hr', nilK_nil, consK_cons, asTup_tup, getCells_any, getCells_nil, asOwn_own, bne_self_eq_false, brK_false, sif_pos hle, cut_whole, hsame, asB_bool, Bool.not_true, sif_pos hl0, getK_of hb0, letN_eq, D.isAgg, sif_pos (rfl : false = false), sif_pos trivial, wi]
        · have hil : ¬ ((y.cap.toNat : Nat) : Int) < y.cap := by omega
          have hyok : (rest es N y).Ok := rest_ok hkept (by omega) hy (by omega)
          have hs := v_step (T := [(rest es N y).cells]) (i := 0) rfl hyok
          have hstep : (rest es N y).step = (9, rest es N y) := by
            unfold VS.step
            rw [if_pos (show (rest es N y).run = false from rfl), rest_sync]
          rw [hstep] at hs
          have hs' : F_virtual_Virtual_Step [.h 4160 0 0] [[(rest es N y).cells]] = some (Ans.mk (iD 9) [] [[(rest es N y).cells]]) := hs
          have hca : F_virtual_Virtual_Capacity [.h 4160 0 0] [[(rest es N y).cells]] = some (Ans.mk (iD y.cap) [] []) := v_cap (T := [(rest es N y).cells]) (i := 0) (s := rest es N y) rfl
          unfold st3
          simp only [cap_geoR, bindK_some_eq, iD, asI_int, decide_eq_false hil, brK_false, hs', nilK_nil, consK_cons, beq_self_eq_true, brK_true, hca, wakes24, asB_bool]
  · rw [decide_eq_false c1, brK_false]
    simp only [hwith, bindK_some_eq, iD, asI_int, hst', hfl', nilK_nil, consK_cons, bne_self_eq_false, brK_false]
    refine count_loop (α := A2) (st2 es w N x y d) (winP x y).toNat (by omega) (fun again k hk => ?_) (fun again => ?_)
    · have hkw : (k : Int) < winP x y := by omega
      have ek : stW es N x y d k = way es N x y d k := if_pos hkw
      have wk : IntKind.i64.wrap ((k : Int) + 1) = ((k + 1 : Nat) : Int) := by rw [wrap_fit (by omega) (by omega)]; rfl
      have hca := v_cap (T := [(way es N x y d k).cells]) (i := 0) (s := way es N x y d k) rfl
      have hca' : F_virtual_Virtual_Capacity [.h 4160 0 0] [[(way es N x y d k).cells]] = some (Ans.mk (iD x.cap) [] []) := hca
      unfold st2
      simp only [ek, hrw, bindK_some_eq, iD, asI_int, decide_eq_true hkw, brK_true, hca', nilK_nil, cap_geoR, bne_self_eq_false, brK_false]
      by_cases k1 : k = 1
      · subst k1
        obtain ⟨s, g1, g2⟩ := way_one hkept (x := x) (y := y) (by omega : N ≤ 8) hcan (by omega) hdN hdy
        simp only [g1, bindK_some_eq, iD, nilK_nil, consK_cons, asI_int, bne_self_eq_false, brK_false, show (((1 : Nat) : Int) == 1) = true from rfl, brK_true, g2, letN_eq, wk]
        try rfl
      · have g1 := way_next hkept (x := x) (y := y) (k := k) (by omega : N ≤ 8) hcan (by omega) hdN hdy hkw k1
        have kb : ((k : Int) == 1) = false := by simp; omega
        simp only [g1, bindK_some_eq, iD, nilK_nil, consK_cons, asI_int, bne_self_eq_false, brK_false, kb, letN_eq, wk]
    · have eW : stW es N x y d (winP x y).toNat = rest es N y := if_neg (by omega)
      have hnW : ¬ ((winP x y).toNat : Int) < winP x y := by omega
      unfold st2
      simp only [eW, hrw, bindK_some_eq, iD, asI_int, decide_eq_false hnW, brK_false]
      obtain ⟨zs, hzs⟩ : ∃ zs : List D, zs = [D.int IntKind.u8 (0 : Int), D.int IntKind.u8 (0 : Int), D.int IntKind.u8 (0 : Int), D.int IntKind.u8 (0 : Int), D.int IntKind.u8 (0 : Int), D.int IntKind.u8 (0 : Int), D.int IntKind.u8 (0 : Int), D.int IntKind.u8 (0 : Int), D.int IntKind.u8 (0 : Int), D.int IntKind.u8 (0 : Int), D.int IntKind.u8 (0 : Int), D.int IntKind.u8 (0 : Int), D.int IntKind.u8 (0 : Int), D.int IntKind.u8 (0 : Int), D.int IntKind.u8 (0 : Int), D.int IntKind.u8 (0 : Int), D.int IntKind.u8 (0 : Int), D.int IntKind.u8 (0 : Int), D.int IntKind.u8 (0 : Int), D.int IntKind.u8 (0 : Int), D.int IntKind.u8 (0 : Int), D.int IntKind.u8 (0 : Int), D.int IntKind.u8 (0 : Int), D.int IntKind.u8 (0 : Int), D.int IntKind.u8 (0 : Int), D.int IntKind.u8 (0 : Int), D.int IntKind.u8 (0 : Int), D.int IntKind.u8 (0 : Int), D.int IntKind.u8 (0 : Int), D.int IntKind.u8 (0 : Int), D.int IntKind.u8 (0 : Int), D.int IntKind.u8 (0 : Int)] := ⟨_, rfl⟩
      have hzr : List.replicate 32 (D.int .u8 0) = zs := by rw [hzs]; rfl
      simp only [← hzs]
      refine count_loop (α := A3) (st3 es w N y) y.cap.toNat (by omega) (fun again i hi => ?_) (fun again => ?_)
      · have hil : (i : Int) < y.cap := by omega
        have hyok : (rest es N y).Ok := rest_ok hkept (by omega) hy (by omega)
        have hr := v_read (T := [(rest es N y).cells]) (i := 0) rfl hyok i
        rw [rest_read hkept hy (by omega) hil, rest_sync] at hr
        have hr' : F_virtual_Virtual_Read [.h 4160 0 0, .int .i64 i] [[(rest es N y).cells]] = some (Ans.mk (.tup [.sl .own ((rest es N y).sec i), iD 0]) [] [[(rest es N y).cells]]) := hr
        have hb := sec_bytes hyok i
        have wi : IntKind.i64.wrap ((i : Int) + 1) = ((i + 1 : Nat) : Int) := by rw [wrap_fit (by omega) (by omega)]; rfl
        have hsame := fun u => same_refl hb.2 (by rw [hb.1]; decide) .lent u
        have hle : (0 : Nat) + ((rest es N y).sec i).length ≤ ((rest es N y).sec i).length := by omega
        have hl0 : 0 < ((rest es N y).sec i).length := by rw [hb.1]; decide
        obtain ⟨b, hb0⟩ : ∃ b, ((rest es N y).sec i)[0]? = some b := ⟨_, List.getElem?_eq_getElem hl0⟩
        obtain ⟨bn, rfl⟩ := hb.2 b (List.mem_of_getElem? hb0)
        unfold st3
        rcases hkept i with ⟨xs, hxs, h1, h2⟩ | ⟨h1, h2⟩
        · have hlook : lookD (i : Int) (D.sl Tag.nil []) w = .sl .fresh xs := by unfold lookD; rw [h2]; rfl
          have hemp : xs.isEmpty = false := by
            cases xs with
            | nil => exact absurd hxs.1 (by simp)
            | cons _ _ => rfl
          have hsec : (rest es N y).sec i = xs := by
            show (match findD (i : Int) es with | some (.agg xs) => xs | _ => _) = xs
            rw [h1]
          rw [hsec] at hr' hb hsame hle hl0 hb0
          simp only [cap_geoR, bindK_some_eq, iD, asI_int, decide_eq_true hil, brK_true, hlook, asSl_sl, hemp, brK_false, hr', nilK_nil, consK_cons, asTup_tup, getCells_any, getCells_nil, asOwn_own, bne_self_eq_false, sif_pos hle, cut_whole, hsame, asB_bool, Bool.not_true, sif_pos hl0, getK_of hb0, letN_eq, D.isAgg, sif_pos (rfl : false = false), sif_pos trivial, wi]
        · have hlook : lookD (i : Int) (D.sl Tag.nil []) w = .sl .nil [] := by unfold lookD; rw [h2]; rfl
          have hsec : (rest es N y).sec i = zs := by
            show (match findD (i : Int) es with | some (.agg xs) => xs | _ => List.replicate 32 (D.int .u8 0)) = zs
            rw [h1]; exact hzr
          rw [hsec] at hr' hb hsame hle hl0 hb0
          simp only [cap_geoR, bindK_some_eq, iD, asI_int, decide_eq_true hil, brK_true, hlook, asSl_sl, List.isEmpty_nil, sif_pos (rfl : Tag.nil = Tag.nil), hr', nilK_nil, consK_cons, asTup_tup, getCells_any, getCells_nil, asOwn_own, bne_self_eq_false, brK_false, sif_pos hle, cut_whole, hsame, asB_bool, Bool.not_true, sif_pos hl0, getK_of hb0, letN_eq, D.isAgg, sif_pos (rfl : false = false), sif_pos trivial, wi]
      · have hil : ¬ ((y.cap.toNat : Nat) : Int) < y.cap := by omega
        have hyok : (rest es N y).Ok := rest_ok hkept (by omega) hy (by omega)
        have hs := v_step (T := [(rest es N y).cells]) (i := 0) rfl hyok
        have hstep : (rest es N y).step = (9, rest es N y) := by
          unfold VS.step
          rw [if_pos (show (rest es N y).run = false from rfl), rest_sync]
        rw [hstep] at hs
        have hs' : F_virtual_Virtual_Step [.h 4160 0 0] [[(rest es N y).cells]] = some (Ans.mk (iD 9) [] [[(rest es N y).cells]]) := hs
        have hca : F_virtual_Virtual_Capacity [.h 4160 0 0] [[(rest es N y).cells]] = some (Ans.mk (iD y.cap) [] []) := v_cap (T := [(rest es N y).cells]) (i := 0) (s := rest es N y) rfl
        unfold st3
        simp only [cap_geoR, bindK_some_eq, iD, asI_int, decide_eq_false hil, brK_false, hs', nilK_nil, consK_cons, beq_self_eq_true, brK_true, hca, wakes24, asB_bool]
end Wf

