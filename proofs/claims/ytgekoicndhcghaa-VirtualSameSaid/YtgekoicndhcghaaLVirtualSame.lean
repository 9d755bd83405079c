/-
  A law, read off.
-/
import Derived.Test.YtgekoicndhcghaaX
import Derived.Test.YtgekoicndhcghaaY
set_option linter.unusedVariables false
set_option linter.unusedSimpArgs false
set_option linter.unnecessarySimpa false
namespace Wf
open Go Go.RowKit Go.Proofs
set_option linter.unusedVariables false
def ann_wattlelaw24_VirtualSame : Ann := { loops := [(1, [.dead, .val (.cell .lent), .dead, .dead, .dead, .dead, .ptr 4160, .dead, .ptr 4160, .dead, .val (.cell (.int .i64))]), (9, [.dead, .dead, .dead, .dead, .dead, .dead, .ptr 4160, .dead, .ptr 4160, .dead, .dead, .dead, .dead, .dead, .dead, .val (.cell (.int .i64))])], ks := [(4160, true)] }
noncomputable def F_wattlelaw24_VirtualSame : List D → Option D := denT Try.prog (penv' [(ID.wattleplay_Good, (.pure [0] F_wattleplay_Good)), (ID.virtual_New, (.st [] [0, 0] [(4160, true)] F_virtual_New)), (ID.wattlekeep_Within, (.pure [0] F_wattlekeep_Within)), (ID.wattleplay_Sector, (.pure [1] F_wattleplay_Sector)), (ID.virtual_Virtual_Write, (.st [] [0] [(4160, true)] F_virtual_Virtual_Write)), (ID.virtual_Virtual_Fail, (.st [] [0] [(4160, true)] F_virtual_Virtual_Fail)), (ID.virtual_Virtual_Replace, (.st [] [0] [(4160, true)] F_virtual_Virtual_Replace)), (ID.wattleplay_Geom, (.pure [0] F_wattleplay_Geom)), (ID.virtual_Virtual_Start, (.st [] [0] [(4160, true)] F_virtual_Virtual_Start)), (ID.virtual_Virtual_Step, (.st [] [0] [(4160, true)] F_virtual_Virtual_Step)), (ID.virtual_Virtual_Read, (.st [] [1, 0] [(4160, true)] F_virtual_Virtual_Read)), (ID.virtual_Virtual_Flush, (.st [] [0] [(4160, true)] F_virtual_Virtual_Flush)), (ID.virtual_Virtual_Lost, (.st [] [0] [(4160, false)] F_virtual_Virtual_Lost)), (ID.virtual_Virtual_Capacity, (.st [] [0] [(4160, false)] F_virtual_Virtual_Capacity)), (ID.wattlekeep_Same_byte, (.pure [0] F_wattlekeep_Same_byte)), (ID.wattlelaw24_wakes, (.pure [0] F_wattlelaw24_wakes))]) ann_wattlelaw24_VirtualSame [0] ID.wattlelaw24_VirtualSame
theorem sound_wattlelaw24_VirtualSame : Sound Try.prog ID.wattlelaw24_VirtualSame (.pure [0] F_wattlelaw24_VirtualSame) := denT_sound (penv_ok [fact_wattleplay_Good, fact_virtual_New, fact_wattlekeep_Within, fact_wattleplay_Sector, fact_virtual_Virtual_Write, fact_virtual_Virtual_Fail, fact_virtual_Virtual_Replace, fact_wattleplay_Geom, fact_virtual_Virtual_Start, fact_virtual_Virtual_Step, fact_virtual_Virtual_Read, fact_virtual_Virtual_Flush, fact_virtual_Virtual_Lost, fact_virtual_Virtual_Capacity, fact_wattlekeep_Same_byte, fact_wattlelaw24_wakes]) mixed ⟨Try.f4, by kernel_rfl, by kernel_rfl, by kernel_rfl⟩
noncomputable def fact_wattlelaw24_VirtualSame : Fact Try.prog := ⟨ID.wattlelaw24_VirtualSame, (.pure [0] F_wattlelaw24_VirtualSame), sound_wattlelaw24_VirtualSame⟩
noncomputable def g_wattlelaw24_VirtualSame (F_wattleplay_Good : List D → Option D) (F_virtual_New : List D → List Tb → Option Ans) (F_wattlekeep_Within : List D → Option D) (F_wattleplay_Sector : List D → Option D) (F_virtual_Virtual_Write : List D → List Tb → Option Ans) (F_virtual_Virtual_Fail : List D → List Tb → Option Ans) (F_virtual_Virtual_Replace : List D → List Tb → Option Ans) (F_wattleplay_Geom : List D → Option D) (F_virtual_Virtual_Start : List D → List Tb → Option Ans) (F_virtual_Virtual_Step : List D → List Tb → Option Ans) (F_virtual_Virtual_Read : List D → List Tb → Option Ans) (F_virtual_Virtual_Flush : List D → List Tb → Option Ans) (F_virtual_Virtual_Lost : List D → List Tb → Option Ans) (F_virtual_Virtual_Capacity : List D → List Tb → Option Ans) (F_wattlekeep_Same_byte : List D → Option D) (F_wattlelaw24_wakes : List D → Option D) (a0 : Int) (a1 : List D) : Option D :=
  bindK (F_wattleplay_Good [D.int IntKind.i64 a0]) fun r1 =>
  asAgg r1 fun cs2 =>
  getCells ([Lf.int IntKind.i64, Lf.int IntKind.i64, Lf.int IntKind.i64]) cs2 fun c3 =>
  bindK (F_virtual_New   [D.int IntKind.i64 (8 : Int),     D.agg [D.int IntKind.i64 c3.fst, D.int IntKind.i64 c3.snd.fst, D.int IntKind.i64 c3.snd.snd.fst]]   [[]]) fun r4 =>
  nilK r4.outs <|
  consK r4.tbs fun c5 q6 =>
  nilK q6 <|
  asTup r4.r fun ts7 =>
  getCells ([Lf.any, Lf.any]) ts7 fun c8 =>
  sif (okData c8.fst = true) <|
  asI IntKind.i64 c8.snd.fst fun i9 =>
  bindK (F_virtual_New   [D.int IntKind.i64 (8 : Int),     D.agg [D.int IntKind.i64 c3.fst, D.int IntKind.i64 c3.snd.fst, D.int IntKind.i64 c3.snd.snd.fst]]   [c5]) fun r10 =>
  nilK r10.outs <|
  consK r10.tbs fun c11 q12 =>
  nilK q12 <|
  asTup r10.r fun ts13 =>
  getCells ([Lf.any, Lf.any]) ts13 fun c14 =>
  sif (okData c14.fst = true) <|
  asI IntKind.i64 c14.snd.fst fun i15 =>
  brK (i9 != (0 : Int))
    (some (D.bool false))
    (brK (i15 != (0 : Int))
      (some (D.bool false))
      (asNil c8.fst fun b16 =>
      brK b16
        (some (D.bool false))
        (asNil c14.fst fun b17 =>
        brK b17
          (some (D.bool false))
          (loopN (α := (List D × D × D × Int × PUnit) × List (List D) × PUnit) (fun again18 ((l19, (x20, (x21, (i22, _)))), (T23, _)) =>
            letN (IntKind.wrap IntKind.i64 (i22 + (2 : Int))) fun n24 =>
            brK (decide (n24 < (↑(List.length l19) : Int)))
              (brK (decide (i22 < (60 : Int)))
                (letN (IntKind.wrap IntKind.i64 (i22 + (1 : Int))) fun n25 =>
                sif ((0 : Int) ≤ n25) <|
                getK l19 (Int.toNat n25) fun d26 =>
                asI IntKind.i64 d26 fun i27 =>
                bindK (F_wattlekeep_Within [D.int IntKind.i64 i27, D.int IntKind.i64 (70 : Int)]) fun r28 =>
                asI IntKind.i64 r28 fun i29 =>
                letN (IntKind.wrap IntKind.i64 (i29 - (1 : Int))) fun n30 =>
                letN (IntKind.wrap IntKind.i64 (i22 + (1 : Int))) fun n31 =>
                sif ((0 : Int) ≤ n31) <|
                getK l19 (Int.toNat n31) fun d32 =>
                asI IntKind.i64 d32 fun i33 =>
                bindK (F_wattlekeep_Within [D.int IntKind.i64 i33, D.int IntKind.i64 (10 : Int)]) fun r34 =>
                asI IntKind.i64 r34 fun i35 =>
                letN (IntKind.wrap IntKind.i64 (i35 - (1 : Int))) fun n36 =>
                sif ((0 : Int) ≤ i22) <|
                getK l19 (Int.toNat i22) fun d37 =>
                asI IntKind.i64 d37 fun i38 =>
                bindK (F_wattlekeep_Within [D.int IntKind.i64 i38, D.int IntKind.i64 (7 : Int)]) fun r39 =>
                asI IntKind.i64 r39 fun i40 =>
                brK (i40 == (0 : Int))
                  (letN (IntKind.wrap IntKind.i64 (i22 + (2 : Int))) fun n41 =>
                  sif ((0 : Int) ≤ n41) <|
                  getK l19 (Int.toNat n41) fun d42 =>
                  asI IntKind.i64 d42 fun i43 =>
                  bindK (F_wattleplay_Sector [D.int IntKind.i64 i43]) fun r44 =>
                  asOwn r44 fun l45 =>
                  sif ((0 : Nat) + List.length l45 ≤ List.length l45) <|
                  bindK (F_virtual_Virtual_Write [x20, D.int IntKind.i64 n30, D.sl Tag.lent (cut (0 : Nat) (List.length l45) l45)] [T23]) fun r46 =>
                  nilK r46.outs <|
                  consK r46.tbs fun c47 q48 =>
                  nilK q48 <|
                  asI IntKind.i64 r46.r fun i49 =>
                  letN (IntKind.wrap IntKind.i64 (i22 + (2 : Int))) fun n50 =>
                  sif ((0 : Int) ≤ n50) <|
                  getK l19 (Int.toNat n50) fun d51 =>
                  asI IntKind.i64 d51 fun i52 =>
                  bindK (F_wattleplay_Sector [D.int IntKind.i64 i52]) fun r53 =>
                  asOwn r53 fun l54 =>
                  sif ((0 : Nat) + List.length l54 ≤ List.length l54) <|
                  bindK (F_virtual_Virtual_Write [x21, D.int IntKind.i64 n30, D.sl Tag.lent (cut (0 : Nat) (List.length l54) l54)] [c47]) fun r55 =>
                  nilK r55.outs <|
                  consK r55.tbs fun c56 q57 =>
                  nilK q57 <|
                  asI IntKind.i64 r55.r fun i58 =>
                  bindK (F_virtual_Virtual_Read [x20, D.int IntKind.i64 n30] [c56]) fun r59 =>
                  nilK r59.outs <|
                  consK r59.tbs fun c60 q61 =>
                  nilK q61 <|
                  asTup r59.r fun ts62 =>
                  getCells ([Lf.any, Lf.any]) ts62 fun c63 =>
                  asOwn c63.fst fun l64 =>
                  asI IntKind.i64 c63.snd.fst fun i65 =>
                  bindK (F_virtual_Virtual_Flush [x20] [c60]) fun r66 =>
                  nilK r66.outs <|
                  consK r66.tbs fun c67 q68 =>
                  nilK q68 <|
                  asI IntKind.i64 r66.r fun i69 =>
                  brK (i49 != i58)
                    (some (D.bool false))
                    (bindK (F_virtual_Virtual_Lost [x20] [c67]) fun r70 =>
                    nilK r70.outs <|
                    nilK r70.tbs <|
                    asI IntKind.i64 r70.r fun i71 =>
                    bindK (F_virtual_Virtual_Lost [x21] [c67]) fun r72 =>
                    nilK r72.outs <|
                    nilK r72.tbs <|
                    asI IntKind.i64 r72.r fun i73 =>
                    brK (i71 != i73)
                      (some (D.bool false))
                      (bindK (F_virtual_Virtual_Capacity [x20] [c67]) fun r74 =>
                      nilK r74.outs <|
                      nilK r74.tbs <|
                      asI IntKind.i64 r74.r fun i75 =>
                      bindK (F_virtual_Virtual_Capacity [x21] [c67]) fun r76 =>
                      nilK r76.outs <|
                      nilK r76.tbs <|
                      asI IntKind.i64 r76.r fun i77 =>
                      brK (i75 != i77)
                        (some (D.bool false))
                        (letN (IntKind.wrap IntKind.i64 (i22 + (3 : Int))) fun n78 =>
                        again18 (((l19, x20, x21, n78, PUnit.unit), c67, PUnit.unit))))))
                  (brK (i40 == (1 : Int))
                    (letN (IntKind.wrap IntKind.i64 (i22 + (2 : Int))) fun n79 =>
                    sif ((0 : Int) ≤ n79) <|
                    getK l19 (Int.toNat n79) fun d80 =>
                    asI IntKind.i64 d80 fun i81 =>
                    bindK (F_wattleplay_Sector [D.int IntKind.i64 i81]) fun r82 =>
                    asOwn r82 fun l83 =>
                    sif ((0 : Nat) + List.length l83 ≤ List.length l83) <|
                    bindK (F_virtual_Virtual_Write [x20, D.int IntKind.i64 n30, D.sl Tag.lent (cut (0 : Nat) (List.length l83) l83)] [T23]) fun r84 =>
                    nilK r84.outs <|
                    consK r84.tbs fun c85 q86 =>
                    nilK q86 <|
                    asI IntKind.i64 r84.r fun i87 =>
                    letN (IntKind.wrap IntKind.i64 (i22 + (2 : Int))) fun n88 =>
                    sif ((0 : Int) ≤ n88) <|
                    getK l19 (Int.toNat n88) fun d89 =>
                    asI IntKind.i64 d89 fun i90 =>
                    bindK (F_wattleplay_Sector [D.int IntKind.i64 i90]) fun r91 =>
                    asOwn r91 fun l92 =>
                    sif ((0 : Nat) + List.length l92 ≤ List.length l92) <|
                    bindK (F_virtual_Virtual_Write [x21, D.int IntKind.i64 n30, D.sl Tag.lent (cut (0 : Nat) (List.length l92) l92)] [c85]) fun r93 =>
                    nilK r93.outs <|
                    consK r93.tbs fun c94 q95 =>
                    nilK q95 <|
                    asI IntKind.i64 r93.r fun i96 =>
                    bindK (F_virtual_Virtual_Read [x20, D.int IntKind.i64 n30] [c94]) fun r97 =>
                    nilK r97.outs <|
                    consK r97.tbs fun c98 q99 =>
                    nilK q99 <|
                    asTup r97.r fun ts100 =>
                    getCells ([Lf.any, Lf.any]) ts100 fun c101 =>
                    asOwn c101.fst fun l102 =>
                    asI IntKind.i64 c101.snd.fst fun i103 =>
                    bindK (F_virtual_Virtual_Flush [x20] [c98]) fun r104 =>
                    nilK r104.outs <|
                    consK r104.tbs fun c105 q106 =>
                    nilK q106 <|
                    asI IntKind.i64 r104.r fun i107 =>
                    brK (i87 != i96)
                      (some (D.bool false))
                      (bindK (F_virtual_Virtual_Lost [x20] [c105]) fun r108 =>
                      nilK r108.outs <|
                      nilK r108.tbs <|
                      asI IntKind.i64 r108.r fun i109 =>
                      bindK (F_virtual_Virtual_Lost [x21] [c105]) fun r110 =>
                      nilK r110.outs <|
                      nilK r110.tbs <|
                      asI IntKind.i64 r110.r fun i111 =>
                      brK (i109 != i111)
                        (some (D.bool false))
                        (bindK (F_virtual_Virtual_Capacity [x20] [c105]) fun r112 =>
                        nilK r112.outs <|
                        nilK r112.tbs <|
                        asI IntKind.i64 r112.r fun i113 =>
                        bindK (F_virtual_Virtual_Capacity [x21] [c105]) fun r114 =>
                        nilK r114.outs <|
                        nilK r114.tbs <|
                        asI IntKind.i64 r114.r fun i115 =>
                        brK (i113 != i115)
                          (some (D.bool false))
                          (letN (IntKind.wrap IntKind.i64 (i22 + (3 : Int))) fun n116 =>
                          again18 (((l19, x20, x21, n116, PUnit.unit), c105, PUnit.unit))))))
                    (brK (i40 == (2 : Int))
                      (bindK (F_virtual_Virtual_Fail [x20, D.int IntKind.i64 n36] [T23]) fun r117 =>
                      nilK r117.outs <|
                      consK r117.tbs fun c118 q119 =>
                      nilK q119 <|
                      asI IntKind.i64 r117.r fun i120 =>
                      bindK (F_virtual_Virtual_Fail [x21, D.int IntKind.i64 n36] [c118]) fun r121 =>
                      nilK r121.outs <|
                      consK r121.tbs fun c122 q123 =>
                      nilK q123 <|
                      asI IntKind.i64 r121.r fun i124 =>
                      bindK (F_virtual_Virtual_Read [x20, D.int IntKind.i64 n30] [c122]) fun r125 =>
                      nilK r125.outs <|
                      consK r125.tbs fun c126 q127 =>
                      nilK q127 <|
                      asTup r125.r fun ts128 =>
                      getCells ([Lf.any, Lf.any]) ts128 fun c129 =>
                      asOwn c129.fst fun l130 =>
                      asI IntKind.i64 c129.snd.fst fun i131 =>
                      bindK (F_virtual_Virtual_Flush [x20] [c126]) fun r132 =>
                      nilK r132.outs <|
                      consK r132.tbs fun c133 q134 =>
                      nilK q134 <|
                      asI IntKind.i64 r132.r fun i135 =>
                      brK (i120 != i124)
                        (some (D.bool false))
                        (bindK (F_virtual_Virtual_Lost [x20] [c133]) fun r136 =>
                        nilK r136.outs <|
                        nilK r136.tbs <|
                        asI IntKind.i64 r136.r fun i137 =>
                        bindK (F_virtual_Virtual_Lost [x21] [c133]) fun r138 =>
                        nilK r138.outs <|
                        nilK r138.tbs <|
                        asI IntKind.i64 r138.r fun i139 =>
                        brK (i137 != i139)
                          (some (D.bool false))
                          (bindK (F_virtual_Virtual_Capacity [x20] [c133]) fun r140 =>
                          nilK r140.outs <|
                          nilK r140.tbs <|
                          asI IntKind.i64 r140.r fun i141 =>
                          bindK (F_virtual_Virtual_Capacity [x21] [c133]) fun r142 =>
                          nilK r142.outs <|
                          nilK r142.tbs <|
                          asI IntKind.i64 r142.r fun i143 =>
                          brK (i141 != i143)
                            (some (D.bool false))
                            (letN (IntKind.wrap IntKind.i64 (i22 + (3 : Int))) fun n144 =>
                            again18 (((l19, x20, x21, n144, PUnit.unit), c133, PUnit.unit))))))
                      (brK (i40 == (3 : Int))
                        (bindK (F_virtual_Virtual_Replace [x20, D.int IntKind.i64 n36] [T23]) fun r145 =>
                        nilK r145.outs <|
                        consK r145.tbs fun c146 q147 =>
                        nilK q147 <|
                        asI IntKind.i64 r145.r fun i148 =>
                        bindK (F_virtual_Virtual_Replace [x21, D.int IntKind.i64 n36] [c146]) fun r149 =>
                        nilK r149.outs <|
                        consK r149.tbs fun c150 q151 =>
                        nilK q151 <|
                        asI IntKind.i64 r149.r fun i152 =>
                        bindK (F_virtual_Virtual_Read [x20, D.int IntKind.i64 n30] [c150]) fun r153 =>
                        nilK r153.outs <|
                        consK r153.tbs fun c154 q155 =>
                        nilK q155 <|
                        asTup r153.r fun ts156 =>
                        getCells ([Lf.any, Lf.any]) ts156 fun c157 =>
                        asOwn c157.fst fun l158 =>
                        asI IntKind.i64 c157.snd.fst fun i159 =>
                        bindK (F_virtual_Virtual_Flush [x20] [c154]) fun r160 =>
                        nilK r160.outs <|
                        consK r160.tbs fun c161 q162 =>
                        nilK q162 <|
                        asI IntKind.i64 r160.r fun i163 =>
                        brK (i148 != i152)
                          (some (D.bool false))
                          (bindK (F_virtual_Virtual_Lost [x20] [c161]) fun r164 =>
                          nilK r164.outs <|
                          nilK r164.tbs <|
                          asI IntKind.i64 r164.r fun i165 =>
                          bindK (F_virtual_Virtual_Lost [x21] [c161]) fun r166 =>
                          nilK r166.outs <|
                          nilK r166.tbs <|
                          asI IntKind.i64 r166.r fun i167 =>
                          brK (i165 != i167)
                            (some (D.bool false))
                            (bindK (F_virtual_Virtual_Capacity [x20] [c161]) fun r168 =>
                            nilK r168.outs <|
                            nilK r168.tbs <|
                            asI IntKind.i64 r168.r fun i169 =>
                            bindK (F_virtual_Virtual_Capacity [x21] [c161]) fun r170 =>
                            nilK r170.outs <|
                            nilK r170.tbs <|
                            asI IntKind.i64 r170.r fun i171 =>
                            brK (i169 != i171)
                              (some (D.bool false))
                              (letN (IntKind.wrap IntKind.i64 (i22 + (3 : Int))) fun n172 =>
                              again18 (((l19, x20, x21, n172, PUnit.unit), c161, PUnit.unit))))))
                        (brK (i40 == (4 : Int))
                          (letN (IntKind.wrap IntKind.i64 (i22 + (2 : Int))) fun n173 =>
                          sif ((0 : Int) ≤ n173) <|
                          getK l19 (Int.toNat n173) fun d174 =>
                          asI IntKind.i64 d174 fun i175 =>
                          bindK (F_wattleplay_Geom [D.int IntKind.i64 i175]) fun r176 =>
                          asAgg r176 fun cs177 =>
                          getCells ([Lf.int IntKind.i64, Lf.int IntKind.i64, Lf.int IntKind.i64]) cs177 fun c178 =>
                          bindK (F_virtual_Virtual_Start   [x20, D.agg [D.int IntKind.i64 c178.fst, D.int IntKind.i64 c178.snd.fst, D.int IntKind.i64 c178.snd.snd.fst]] [T23]) fun r179 =>
                          nilK r179.outs <|
                          consK r179.tbs fun c180 q181 =>
                          nilK q181 <|
                          asI IntKind.i64 r179.r fun i182 =>
                          letN (IntKind.wrap IntKind.i64 (i22 + (2 : Int))) fun n183 =>
                          sif ((0 : Int) ≤ n183) <|
                          getK l19 (Int.toNat n183) fun d184 =>
                          asI IntKind.i64 d184 fun i185 =>
                          bindK (F_wattleplay_Geom [D.int IntKind.i64 i185]) fun r186 =>
                          asAgg r186 fun cs187 =>
                          getCells ([Lf.int IntKind.i64, Lf.int IntKind.i64, Lf.int IntKind.i64]) cs187 fun c188 =>
                          bindK (F_virtual_Virtual_Start   [x21, D.agg [D.int IntKind.i64 c188.fst, D.int IntKind.i64 c188.snd.fst, D.int IntKind.i64 c188.snd.snd.fst]] [c180]) fun r189 =>
                          nilK r189.outs <|
                          consK r189.tbs fun c190 q191 =>
                          nilK q191 <|
                          asI IntKind.i64 r189.r fun i192 =>
                          bindK (F_virtual_Virtual_Read [x20, D.int IntKind.i64 n30] [c190]) fun r193 =>
                          nilK r193.outs <|
                          consK r193.tbs fun c194 q195 =>
                          nilK q195 <|
                          asTup r193.r fun ts196 =>
                          getCells ([Lf.any, Lf.any]) ts196 fun c197 =>
                          asOwn c197.fst fun l198 =>
                          asI IntKind.i64 c197.snd.fst fun i199 =>
                          bindK (F_virtual_Virtual_Flush [x20] [c194]) fun r200 =>
                          nilK r200.outs <|
                          consK r200.tbs fun c201 q202 =>
                          nilK q202 <|
                          asI IntKind.i64 r200.r fun i203 =>
                          brK (i182 != i192)
                            (some (D.bool false))
                            (bindK (F_virtual_Virtual_Lost [x20] [c201]) fun r204 =>
                            nilK r204.outs <|
                            nilK r204.tbs <|
                            asI IntKind.i64 r204.r fun i205 =>
                            bindK (F_virtual_Virtual_Lost [x21] [c201]) fun r206 =>
                            nilK r206.outs <|
                            nilK r206.tbs <|
                            asI IntKind.i64 r206.r fun i207 =>
                            brK (i205 != i207)
                              (some (D.bool false))
                              (bindK (F_virtual_Virtual_Capacity [x20] [c201]) fun r208 =>
                              nilK r208.outs <|
                              nilK r208.tbs <|
                              asI IntKind.i64 r208.r fun i209 =>
                              bindK (F_virtual_Virtual_Capacity [x21] [c201]) fun r210 =>
                              nilK r210.outs <|
                              nilK r210.tbs <|
                              asI IntKind.i64 r210.r fun i211 =>
                              brK (i209 != i211)
                                (some (D.bool false))
                                (letN (IntKind.wrap IntKind.i64 (i22 + (3 : Int))) fun n212 =>
                                again18 (((l19, x20, x21, n212, PUnit.unit), c201, PUnit.unit))))))
                          (bindK (F_virtual_Virtual_Step [x20] [T23]) fun r213 =>
                          nilK r213.outs <|
                          consK r213.tbs fun c214 q215 =>
                          nilK q215 <|
                          asI IntKind.i64 r213.r fun i216 =>
                          bindK (F_virtual_Virtual_Step [x21] [c214]) fun r217 =>
                          nilK r217.outs <|
                          consK r217.tbs fun c218 q219 =>
                          nilK q219 <|
                          asI IntKind.i64 r217.r fun i220 =>
                          bindK (F_virtual_Virtual_Read [x20, D.int IntKind.i64 n30] [c218]) fun r221 =>
                          nilK r221.outs <|
                          consK r221.tbs fun c222 q223 =>
                          nilK q223 <|
                          asTup r221.r fun ts224 =>
                          getCells ([Lf.any, Lf.any]) ts224 fun c225 =>
                          asOwn c225.fst fun l226 =>
                          asI IntKind.i64 c225.snd.fst fun i227 =>
                          bindK (F_virtual_Virtual_Flush [x20] [c222]) fun r228 =>
                          nilK r228.outs <|
                          consK r228.tbs fun c229 q230 =>
                          nilK q230 <|
                          asI IntKind.i64 r228.r fun i231 =>
                          brK (i216 != i220)
                            (some (D.bool false))
                            (bindK (F_virtual_Virtual_Lost [x20] [c229]) fun r232 =>
                            nilK r232.outs <|
                            nilK r232.tbs <|
                            asI IntKind.i64 r232.r fun i233 =>
                            bindK (F_virtual_Virtual_Lost [x21] [c229]) fun r234 =>
                            nilK r234.outs <|
                            nilK r234.tbs <|
                            asI IntKind.i64 r234.r fun i235 =>
                            brK (i233 != i235)
                              (some (D.bool false))
                              (bindK (F_virtual_Virtual_Capacity [x20] [c229]) fun r236 =>
                              nilK r236.outs <|
                              nilK r236.tbs <|
                              asI IntKind.i64 r236.r fun i237 =>
                              bindK (F_virtual_Virtual_Capacity [x21] [c229]) fun r238 =>
                              nilK r238.outs <|
                              nilK r238.tbs <|
                              asI IntKind.i64 r238.r fun i239 =>
                              brK (i237 != i239)
                                (some (D.bool false))
                                (letN (IntKind.wrap IntKind.i64 (i22 + (3 : Int))) fun n240 =>
                                again18 (((l19, x20, x21, n240, PUnit.unit), c229, PUnit.unit)))))))))))
                (loopN (α := (D × D × Int × PUnit) × List (List D) × PUnit) (fun again241 ((x242, (x243, (i244, _))), (T245, _)) =>
                  bindK (F_virtual_Virtual_Capacity [x242] [T245]) fun r246 =>
                  nilK r246.outs <|
                  nilK r246.tbs <|
                  asI IntKind.i64 r246.r fun i247 =>
                  brK (decide (i244 < i247))
                    (bindK (F_virtual_Virtual_Read [x242, D.int IntKind.i64 i244] [T245]) fun r248 =>
                    nilK r248.outs <|
                    consK r248.tbs fun c249 q250 =>
                    nilK q250 <|
                    asTup r248.r fun ts251 =>
                    getCells ([Lf.any, Lf.any]) ts251 fun c252 =>
                    asOwn c252.fst fun l253 =>
                    asI IntKind.i64 c252.snd.fst fun i254 =>
                    bindK (F_virtual_Virtual_Read [x243, D.int IntKind.i64 i244] [c249]) fun r255 =>
                    nilK r255.outs <|
                    consK r255.tbs fun c256 q257 =>
                    nilK q257 <|
                    asTup r255.r fun ts258 =>
                    getCells ([Lf.any, Lf.any]) ts258 fun c259 =>
                    asOwn c259.fst fun l260 =>
                    asI IntKind.i64 c259.snd.fst fun i261 =>
                    brK (i254 != i261)
                      (some (D.bool false))
                      (sif ((0 : Nat) + List.length l253 ≤ List.length l253) <|
                      sif ((0 : Nat) + List.length l260 ≤ List.length l260) <|
                      bindK (F_wattlekeep_Same_byte   [D.sl Tag.lent (cut (0 : Nat) (List.length l253) l253), D.sl Tag.lent (cut (0 : Nat) (List.length l260) l260)]) fun r262 =>
                      asB r262 fun b263 =>
                      brK (!b263)
                        (some (D.bool false))
                        (letN (IntKind.wrap IntKind.i64 (i244 + (1 : Int))) fun n264 =>
                        again241 (((x242, x243, n264, PUnit.unit), c256, PUnit.unit)))))
                    (bindK (F_wattlelaw24_wakes []) fun r265 =>
                    asB r265 fun b266 =>
                    some (D.bool b266)))
                  (((x20, x21, (0 : Int), PUnit.unit), T23, PUnit.unit))))
              (loopN (α := (D × D × Int × PUnit) × List (List D) × PUnit) (fun again267 ((x268, (x269, (i270, _))), (T271, _)) =>
                bindK (F_virtual_Virtual_Capacity [x268] [T271]) fun r272 =>
                nilK r272.outs <|
                nilK r272.tbs <|
                asI IntKind.i64 r272.r fun i273 =>
                brK (decide (i270 < i273))
                  (bindK (F_virtual_Virtual_Read [x268, D.int IntKind.i64 i270] [T271]) fun r274 =>
                  nilK r274.outs <|
                  consK r274.tbs fun c275 q276 =>
                  nilK q276 <|
                  asTup r274.r fun ts277 =>
                  getCells ([Lf.any, Lf.any]) ts277 fun c278 =>
                  asOwn c278.fst fun l279 =>
                  asI IntKind.i64 c278.snd.fst fun i280 =>
                  bindK (F_virtual_Virtual_Read [x269, D.int IntKind.i64 i270] [c275]) fun r281 =>
                  nilK r281.outs <|
                  consK r281.tbs fun c282 q283 =>
                  nilK q283 <|
                  asTup r281.r fun ts284 =>
                  getCells ([Lf.any, Lf.any]) ts284 fun c285 =>
                  asOwn c285.fst fun l286 =>
                  asI IntKind.i64 c285.snd.fst fun i287 =>
                  brK (i280 != i287)
                    (some (D.bool false))
                    (sif ((0 : Nat) + List.length l279 ≤ List.length l279) <|
                    sif ((0 : Nat) + List.length l286 ≤ List.length l286) <|
                    bindK (F_wattlekeep_Same_byte   [D.sl Tag.lent (cut (0 : Nat) (List.length l279) l279), D.sl Tag.lent (cut (0 : Nat) (List.length l286) l286)]) fun r288 =>
                    asB r288 fun b289 =>
                    brK (!b289)
                      (some (D.bool false))
                      (letN (IntKind.wrap IntKind.i64 (i270 + (1 : Int))) fun n290 =>
                      again267 (((x268, x269, n290, PUnit.unit), c282, PUnit.unit)))))
                  (bindK (F_wattlelaw24_wakes []) fun r291 =>
                  asB r291 fun b292 =>
                  some (D.bool b292)))
                (((x20, x21, (0 : Int), PUnit.unit), T23, PUnit.unit))))
            (((a1, c8.fst, c14.fst, (0 : Int), PUnit.unit), c11, PUnit.unit))))))
theorem G_wattlelaw24_VirtualSame (F_wattleplay_Good : List D → Option D) (F_virtual_New : List D → List Tb → Option Ans) (F_wattlekeep_Within : List D → Option D) (F_wattleplay_Sector : List D → Option D) (F_virtual_Virtual_Write : List D → List Tb → Option Ans) (F_virtual_Virtual_Fail : List D → List Tb → Option Ans) (F_virtual_Virtual_Replace : List D → List Tb → Option Ans) (F_wattleplay_Geom : List D → Option D) (F_virtual_Virtual_Start : List D → List Tb → Option Ans) (F_virtual_Virtual_Step : List D → List Tb → Option Ans) (F_virtual_Virtual_Read : List D → List Tb → Option Ans) (F_virtual_Virtual_Flush : List D → List Tb → Option Ans) (F_virtual_Virtual_Lost : List D → List Tb → Option Ans) (F_virtual_Virtual_Capacity : List D → List Tb → Option Ans) (F_wattlekeep_Same_byte : List D → Option D) (F_wattlelaw24_wakes : List D → Option D) (tga1 : Tag) (a0 : Int) (a1 : List D) : denT Try.prog (penv' [(ID.wattleplay_Good, (.pure [0] F_wattleplay_Good)), (ID.virtual_New, (.st [] [0, 0] [(4160, true)] F_virtual_New)), (ID.wattlekeep_Within, (.pure [0] F_wattlekeep_Within)), (ID.wattleplay_Sector, (.pure [1] F_wattleplay_Sector)), (ID.virtual_Virtual_Write, (.st [] [0] [(4160, true)] F_virtual_Virtual_Write)), (ID.virtual_Virtual_Fail, (.st [] [0] [(4160, true)] F_virtual_Virtual_Fail)), (ID.virtual_Virtual_Replace, (.st [] [0] [(4160, true)] F_virtual_Virtual_Replace)), (ID.wattleplay_Geom, (.pure [0] F_wattleplay_Geom)), (ID.virtual_Virtual_Start, (.st [] [0] [(4160, true)] F_virtual_Virtual_Start)), (ID.virtual_Virtual_Step, (.st [] [0] [(4160, true)] F_virtual_Virtual_Step)), (ID.virtual_Virtual_Read, (.st [] [1, 0] [(4160, true)] F_virtual_Virtual_Read)), (ID.virtual_Virtual_Flush, (.st [] [0] [(4160, true)] F_virtual_Virtual_Flush)), (ID.virtual_Virtual_Lost, (.st [] [0] [(4160, false)] F_virtual_Virtual_Lost)), (ID.virtual_Virtual_Capacity, (.st [] [0] [(4160, false)] F_virtual_Virtual_Capacity)), (ID.wattlekeep_Same_byte, (.pure [0] F_wattlekeep_Same_byte)), (ID.wattlelaw24_wakes, (.pure [0] F_wattlelaw24_wakes))]) ann_wattlelaw24_VirtualSame [0] ID.wattlelaw24_VirtualSame [.int .i64 a0, .sl tga1 a1] = sif (D.nohL [.int .i64 a0, .sl tga1 a1] = true) (g_wattlelaw24_VirtualSame F_wattleplay_Good F_virtual_New F_wattlekeep_Within F_wattleplay_Sector F_virtual_Virtual_Write F_virtual_Virtual_Fail F_virtual_Virtual_Replace F_wattleplay_Geom F_virtual_Virtual_Start F_virtual_Virtual_Step F_virtual_Virtual_Read F_virtual_Virtual_Flush F_virtual_Virtual_Lost F_virtual_Virtual_Capacity F_wattlekeep_Same_byte F_wattlelaw24_wakes a0 (D.lentL a1)) := by kernel_rfl
theorem F_wattlelaw24_VirtualSame_eq (tga1 : Tag) (a0 : Int) (a1 : List D) : F_wattlelaw24_VirtualSame [.int .i64 a0, .sl tga1 a1] = sif (D.nohL [.int .i64 a0, .sl tga1 a1] = true) (g_wattlelaw24_VirtualSame F_wattleplay_Good F_virtual_New F_wattlekeep_Within F_wattleplay_Sector F_virtual_Virtual_Write F_virtual_Virtual_Fail F_virtual_Virtual_Replace F_wattleplay_Geom F_virtual_Virtual_Start F_virtual_Virtual_Step F_virtual_Virtual_Read F_virtual_Virtual_Flush F_virtual_Virtual_Lost F_virtual_Virtual_Capacity F_wattlekeep_Same_byte F_wattlelaw24_wakes a0 (D.lentL a1)) := G_wattlelaw24_VirtualSame F_wattleplay_Good F_virtual_New F_wattlekeep_Within F_wattleplay_Sector F_virtual_Virtual_Write F_virtual_Virtual_Fail F_virtual_Virtual_Replace F_wattleplay_Geom F_virtual_Virtual_Start F_virtual_Virtual_Step F_virtual_Virtual_Read F_virtual_Virtual_Flush F_virtual_Virtual_Lost F_virtual_Virtual_Capacity F_wattlekeep_Same_byte F_wattlelaw24_wakes tga1 a0 a1
end Wf

/-
  Two arrays without disks of the same script are the same.
-/
namespace Wf
open Go Go.RowKit Go.Proofs
set_option linter.unusedSimpArgs false
set_option linter.unusedVariables false

section
variable {p q : VS}
theorem wa (hp : p.Ok) (n : Int) (t : Tag) {xs : List D} (hx : ∀ d ∈ xs, ∃ n, d = D.int .u8 n) : F_virtual_Virtual_Write [.h 4160 0 0, .int .i64 n, .sl t xs] [[p.cells, q.cells]] = some (Ans.mk (iD (p.write n xs).1) [] [[(p.write n xs).2.cells, q.cells]]) := v_write rfl hp n t hx
theorem wb (hq : q.Ok) (n : Int) (t : Tag) {xs : List D} (hx : ∀ d ∈ xs, ∃ n, d = D.int .u8 n) : F_virtual_Virtual_Write [.h 4160 1 0, .int .i64 n, .sl t xs] [[p.cells, q.cells]] = some (Ans.mk (iD (q.write n xs).1) [] [[p.cells, (q.write n xs).2.cells]]) := v_write rfl hq n t hx
theorem ra (hp : p.Ok) (n : Int) : F_virtual_Virtual_Read [.h 4160 0 0, .int .i64 n] [[p.cells, q.cells]] = some (Ans.mk (.tup [.sl .own (p.read n).1, iD (p.read n).2]) [] [[p.sync.cells, q.cells]]) := v_read rfl hp n
theorem rb (hq : q.Ok) (n : Int) : F_virtual_Virtual_Read [.h 4160 1 0, .int .i64 n] [[p.cells, q.cells]] = some (Ans.mk (.tup [.sl .own (q.read n).1, iD (q.read n).2]) [] [[p.cells, q.sync.cells]]) := v_read rfl hq n
theorem fla (hp : p.Ok) : F_virtual_Virtual_Flush [.h 4160 0 0] [[p.cells, q.cells]] = some (Ans.mk (iD 0) [] [[p.sync.cells, q.cells]]) := v_flush rfl hp
theorem la (hp : p.Ok) : F_virtual_Virtual_Lost [.h 4160 0 0] [[p.cells, q.cells]] = some (Ans.mk (iD p.lost) [] []) := v_Lost rfl hp
theorem lb (hq : q.Ok) : F_virtual_Virtual_Lost [.h 4160 1 0] [[p.cells, q.cells]] = some (Ans.mk (iD q.lost) [] []) := v_Lost rfl hq
theorem ca : F_virtual_Virtual_Capacity [.h 4160 0 0] [[p.cells, q.cells]] = some (Ans.mk (iD p.a.cap) [] []) := v_cap rfl
theorem cb : F_virtual_Virtual_Capacity [.h 4160 1 0] [[p.cells, q.cells]] = some (Ans.mk (iD q.a.cap) [] []) := v_cap rfl
theorem fa (hp : p.Ok) (d : Int) : F_virtual_Virtual_Fail [.h 4160 0 0, .int .i64 d] [[p.cells, q.cells]] = some (Ans.mk (iD (p.fail d).1) [] [[(p.fail d).2.cells, q.cells]]) := v_fail rfl hp d
theorem fb (hq : q.Ok) (d : Int) : F_virtual_Virtual_Fail [.h 4160 1 0, .int .i64 d] [[p.cells, q.cells]] = some (Ans.mk (iD (q.fail d).1) [] [[p.cells, (q.fail d).2.cells]]) := v_fail rfl hq d
theorem pa (hp : p.Ok) (d : Int) : F_virtual_Virtual_Replace [.h 4160 0 0, .int .i64 d] [[p.cells, q.cells]] = some (Ans.mk (iD (p.replace d).1) [] [[(p.replace d).2.cells, q.cells]]) := v_replace rfl hp d
theorem pb (hq : q.Ok) (d : Int) : F_virtual_Virtual_Replace [.h 4160 1 0, .int .i64 d] [[p.cells, q.cells]] = some (Ans.mk (iD (q.replace d).1) [] [[p.cells, (q.replace d).2.cells]]) := v_replace rfl hq d
theorem sa (hp : p.Ok) (g : Geo) : F_virtual_Virtual_Start [.h 4160 0 0, gD g.l g.d g.c] [[p.cells, q.cells]] = some (Ans.mk (iD (p.start g).1) [] [[(p.start g).2.cells, q.cells]]) := v_start rfl hp g
theorem sb (hq : q.Ok) (g : Geo) : F_virtual_Virtual_Start [.h 4160 1 0, gD g.l g.d g.c] [[p.cells, q.cells]] = some (Ans.mk (iD (q.start g).1) [] [[p.cells, (q.start g).2.cells]]) := v_start rfl hq g
theorem ta (hp : p.Ok) : F_virtual_Virtual_Step [.h 4160 0 0] [[p.cells, q.cells]] = some (Ans.mk (iD p.step.1) [] [[p.step.2.cells, q.cells]]) := v_step rfl hp
theorem tb' (hq : q.Ok) : F_virtual_Virtual_Step [.h 4160 1 0] [[p.cells, q.cells]] = some (Ans.mk (iD q.step.1) [] [[p.cells, q.step.2.cells]]) := v_step rfl hq
end

def intL (l : List Int) : List D := l.map (D.int .i64)
theorem intL_lent (l : List Int) : D.lentL (intL l) = intL l := by
  induction l with
  | nil => rfl
  | cons n l ih => unfold intL at *; simp [ih]
theorem intL_noh (l : List Int) : D.nohL (intL l) = true := by
  induction l with
  | nil => rfl
  | cons n l ih => exact ih
theorem intL_len (l : List Int) : (intL l).length = l.length := by simp [intL]
theorem intL_get {l : List Int} {j : Nat} (h : j < l.length) : (intL l)[j]? = some (.int .i64 l[j]) := by simp [intL, h]

theorem cap_le (g : Geo) : 0 ≤ g.cap ∧ g.cap ≤ 128 := by
  have := width_le g.l g.d g.c
  show 0 ≤ widthG _ _ _ * 16 ∧ widthG _ _ _ * 16 ≤ 128
  omega
/-- All sectors, one by one. -/
theorem all_read {B : ((D × D × Int × PUnit) × List (List D) × PUnit → Option D) → ((D × D × Int × PUnit) × List (List D) × PUnit → Option D)}
    (hB : ∀ again (k : Nat) p q, VS.Ok p → VS.Ok q → Alike p q → B again ((D.h 4160 0 0, D.h 4160 1 0, (k : Int), PUnit.unit), [p.cells, q.cells], PUnit.unit) =
      if (k : Int) < p.a.cap then again ((D.h 4160 0 0, D.h 4160 1 0, ((k + 1 : Nat) : Int), PUnit.unit), [p.sync.cells, q.sync.cells], PUnit.unit) else some (D.bool true))
    {p q : VS} (hp : p.Ok) (hq : q.Ok) (h : Alike p q) : loopN B ((D.h 4160 0 0, D.h 4160 1 0, 0, PUnit.unit), [p.cells, q.cells], PUnit.unit) = some (D.bool true) := by
  refine loopN_spec (fun x => 1000 - x.1.2.2.1.toNat) (fun _ => some (D.bool true))
    (fun x => ∃ (k : Nat) (p q : VS), k ≤ 128 ∧ p.Ok ∧ q.Ok ∧ Alike p q ∧ x = ((D.h 4160 0 0, D.h 4160 1 0, (k : Int), PUnit.unit), [p.cells, q.cells], PUnit.unit)) ?_ ⟨0, p, q, by omega, hp, hq, h, rfl⟩ (by simp)
  rintro again _ ⟨k, p, q, hk, hp, hq, h, rfl⟩ hag
  rw [hB again k p q hp hq h]
  split
  · rename_i hlt
    have := (cap_le p.a).2
    exact hag _ ⟨k + 1, p.sync, q.sync, by omega, sync_ok hp, sync_ok hq, by show p.sync.sync = q.sync.sync; rw [sync_idem, sync_idem]; exact h, rfl⟩ (by simp; omega)
  · rfl

/-- What is asked behind each thing that is done. -/
theorem same_tail {again : (List D × D × D × Int × PUnit) × List (List D) × PUnit → Option D} {l : List D} {k n e1 e2 : Int} {p q : VS} (hp : p.Ok) (hq : q.Ok) (h : Alike p q) (he : e1 = e2)
    (hres : again ((l, D.h 4160 0 0, D.h 4160 1 0, k, PUnit.unit), [p.sync.cells, q.cells], PUnit.unit) = some (D.bool true)) :
    (bindK (F_virtual_Virtual_Read [D.h 4160 0 0, D.int IntKind.i64 n] [[p.cells, q.cells]]) fun r59 =>
      nilK r59.outs <| consK r59.tbs fun c60 q61 => nilK q61 <| asTup r59.r fun ts62 => getCells ([Lf.any, Lf.any]) ts62 fun c63 => asOwn c63.fst fun l64 => asI IntKind.i64 c63.snd.fst fun i65 =>
      bindK (F_virtual_Virtual_Flush [D.h 4160 0 0] [c60]) fun r66 => nilK r66.outs <| consK r66.tbs fun c67 q68 => nilK q68 <| asI IntKind.i64 r66.r fun i69 =>
      brK (e1 != e2) (some (D.bool false))
        (bindK (F_virtual_Virtual_Lost [D.h 4160 0 0] [c67]) fun r70 => nilK r70.outs <| nilK r70.tbs <| asI IntKind.i64 r70.r fun i71 =>
        bindK (F_virtual_Virtual_Lost [D.h 4160 1 0] [c67]) fun r72 => nilK r72.outs <| nilK r72.tbs <| asI IntKind.i64 r72.r fun i73 =>
        brK (i71 != i73) (some (D.bool false))
          (bindK (F_virtual_Virtual_Capacity [D.h 4160 0 0] [c67]) fun r74 => nilK r74.outs <| nilK r74.tbs <| asI IntKind.i64 r74.r fun i75 =>
          bindK (F_virtual_Virtual_Capacity [D.h 4160 1 0] [c67]) fun r76 => nilK r76.outs <| nilK r76.tbs <| asI IntKind.i64 r76.r fun i77 =>
          brK (i75 != i77) (some (D.bool false)) (again ((l, D.h 4160 0 0, D.h 4160 1 0, k, PUnit.unit), c67, PUnit.unit))))) = some (D.bool true) := by
  subst he
  have hps := sync_ok hp
  have e3 : p.sync.lost = q.lost := by rw [lost_sync hp]; exact h.lost hp hq
  have e4 : p.sync.a.cap = q.a.cap := congrArg Geo.cap h.fields.2.2.1
  have e5 := sync_idem p
  simp only [ra hp, bindK_some_eq, nilK_nil, consK_cons, asTup_tup, getCells_any, getCells_nil, asOwn_own, iD, asI_int, fla hps, bne_self_eq_false, brK_false, e5, la hps, lb hq, e3, ca, cb, e4, hres]

theorem virtual_same (a0 : Int) (l : List Int) (tg : Tag) : F_wattlelaw24_VirtualSame [.int .i64 a0, .sl tg (intL l)] = some (.bool true) := by
  rw [F_wattlelaw24_VirtualSame_eq, intL_lent]
  unfold g_wattlelaw24_VirtualSame
  have hg := good_valid a0
  have hgo := ok_iff.1 hg
  have hn0 := v_new (T := []) (n := 8) (g := goodOf a0) (by decide) (by decide) hg (by omega)
  have hn1 := v_new (T := [(VS.new 8 (goodOf a0)).cells]) (n := 8) (g := goodOf a0) (by decide) (by decide) hg (by omega)
  have hok : (VS.new 8 (goodOf a0)).Ok := new_ok (by decide) hg (by omega)
  rw [good_play]
  unfold Geo.D
  simp [D.nohL, D.noh, intL_noh, hn0, hn1, okData]
  refine loopN_spec (α := (List D × D × D × Int × PUnit) × List (List D) × PUnit) (fun x => 100 - x.1.2.2.2.1.toNat) (fun _ => some (D.bool true))
    (fun x => ∃ (k : Nat) (p q : VS), k ≤ 63 ∧ p.Ok ∧ q.Ok ∧ Alike p q ∧ x = ((intL l, D.h 4160 0 0, D.h 4160 1 0, (k : Int), PUnit.unit), [p.cells, q.cells], PUnit.unit)) ?_ ⟨0, _, _, by omega, hok, hok, rfl, rfl⟩ (by simp)
  rintro again _ ⟨k, p, q, hk, hp, hq, h, rfl⟩ hag
  have w2 : IntKind.i64.wrap ((k : Int) + 2) = (k : Int) + 2 := wrap_fit (by omega) (by omega)
  have w1 : IntKind.i64.wrap ((k : Int) + 1) = (k : Int) + 1 := wrap_fit (by omega) (by omega)
  have w3 : IntKind.i64.wrap ((k : Int) + 3) = (k : Int) + 3 := wrap_fit (by omega) (by omega)
  dsimp only
  rw [w2, intL_len]
  have fin : ∀ {B : ((D × D × Int × PUnit) × List (List D) × PUnit → Option D) → ((D × D × Int × PUnit) × List (List D) × PUnit → Option D)}, (∀ again (k : Nat) p q, VS.Ok p → VS.Ok q → Alike p q → B again ((D.h 4160 0 0, D.h 4160 1 0, (k : Int), PUnit.unit), [p.cells, q.cells], PUnit.unit) =
      if (k : Int) < p.a.cap then again ((D.h 4160 0 0, D.h 4160 1 0, ((k + 1 : Nat) : Int), PUnit.unit), [p.sync.cells, q.sync.cells], PUnit.unit) else some (D.bool true)) → loopN B ((D.h 4160 0 0, D.h 4160 1 0, 0, PUnit.unit), [p.cells, q.cells], PUnit.unit) = some (D.bool true) := fun hB => all_read hB hp hq h
  by_cases c1 : (k : Int) + 2 < l.length
  · rw [decide_eq_true c1, brK_true]
    by_cases c2 : (k : Int) < 60
    · rw [decide_eq_true c2, brK_true]
      rw [w1]
      have hx0 := intL_get (l := l) (j := k) (by omega)
      have hx1 := intL_get (l := l) (j := k + 1) (by omega)
      have hx2 := intL_get (l := l) (j := k + 2) (by omega)
      have n0 : ((k : Int)).toNat = k := by omega
      have n1 : ((k : Int) + 1).toNat = k + 1 := by omega
      have n2 : ((k : Int) + 2).toNat = k + 2 := by omega
      have z0 : (0 : Int) ≤ (k : Int) := by omega
      have z1 : (0 : Int) ≤ (k : Int) + 1 := by omega
      have z2 : (0 : Int) ≤ (k : Int) + 2 := by omega
      generalize l[k] = x0 at *
      generalize l[k + 1] = x1 at *
      generalize l[k + 2] = x2 at *
      have v70 : IntKind.i64.wrap (x1 % 70 - 1) = x1 % 70 - 1 := wrap_fit (by omega) (by omega)
      have v10 : IntKind.i64.wrap (x1 % 10 - 1) = x1 % 10 - 1 := wrap_fit (by omega) (by omega)
      have hres : ∀ p1 q1 : VS, p1.Ok → q1.Ok → Alike p1 q1 → again ((intL l, D.h 4160 0 0, D.h 4160 1 0, (k : Int) + 3, PUnit.unit), [p1.sync.cells, q1.cells], PUnit.unit) = some (D.bool true) := fun p1 q1 a b c =>
        hag ((intL l, D.h 4160 0 0, D.h 4160 1 0, ((k + 3 : Nat) : Int), PUnit.unit), [p1.sync.cells, q1.cells], PUnit.unit) ⟨k + 3, p1.sync, q1, by omega, sync_ok a, b, by show p1.sync.sync = _; rw [sync_idem]; exact c, rfl⟩ (by simp; omega)
      obtain ⟨xs, hxs, hsec⟩ := sector_play x2
      have hle : (0 : Nat) + xs.length ≤ xs.length := by omega
      have hgeo := geom_play x2
      unfold Geo.D at hgeo
      simp only [n0, n1, n2, sif_pos z0, sif_pos z1, sif_pos z2, getK_of hx0, getK_of hx1, getK_of hx2, asI_int, within _ _ (show (1:Int) ≤ 70 by decide) (show (70:Int) < 1000000000 by decide), within _ _ (show (1:Int) ≤ 10 by decide) (show (10:Int) < 1000000000 by decide),
        within _ _ (show (1:Int) ≤ 7 by decide) (show (7:Int) < 1000000000 by decide), bindK_some_eq, iD, v70, v10, w3, w2, hsec, asOwn_own, sif_pos hle, cut_whole, hgeo, asAgg_agg, getCells_int, getCells_nil]
      have wr : ∀ (X : Option D), X = X := fun _ => rfl
      by_cases o0 : x0 % 7 = 0
      · simp only [o0, beq_self_eq_true, brK_true, wa hp _ _ hxs.2, bindK_some_eq, nilK_nil, consK_cons, iD, asI_int, wb hq _ _ hxs.2, h.write]
        exact same_tail (write_ok hq _ hxs) (write_ok hq _ hxs) rfl rfl (hres _ _ (write_ok hq _ hxs) (write_ok hq _ hxs) rfl)
      rw [show (x0 % 7 == 0) = false by simpa using o0, brK_false]
      by_cases o1 : x0 % 7 = 1
      · simp only [o1, beq_self_eq_true, brK_true, wa hp _ _ hxs.2, bindK_some_eq, nilK_nil, consK_cons, iD, asI_int, wb hq _ _ hxs.2, h.write]
        exact same_tail (write_ok hq _ hxs) (write_ok hq _ hxs) rfl rfl (hres _ _ (write_ok hq _ hxs) (write_ok hq _ hxs) rfl)
      rw [show (x0 % 7 == 1) = false by simpa using o1, brK_false]
      by_cases o2 : x0 % 7 = 2
      · obtain ⟨f1, f2⟩ := h.fail hp hq (x1 % 10 - 1)
        simp only [o2, beq_self_eq_true, brK_true, fa hp, bindK_some_eq, nilK_nil, consK_cons, iD, asI_int, fb hq]
        exact same_tail (fail_ok hp _) (fail_ok hq _) f2 f1 (hres _ _ (fail_ok hp _) (fail_ok hq _) f2)
      rw [show (x0 % 7 == 2) = false by simpa using o2, brK_false]
      by_cases o3 : x0 % 7 = 3
      · simp only [o3, beq_self_eq_true, brK_true, pa hp, bindK_some_eq, nilK_nil, consK_cons, iD, asI_int, pb hq, h.replace]
        exact same_tail (replace_ok hq _) (replace_ok hq _) rfl rfl (hres _ _ (replace_ok hq _) (replace_ok hq _) rfl)
      rw [show (x0 % 7 == 3) = false by simpa using o3, brK_false]
      by_cases o4 : x0 % 7 = 4
      · simp only [o4, beq_self_eq_true, brK_true, sa hp, bindK_some_eq, nilK_nil, consK_cons, iD, asI_int, sb hq, h.start]
        exact same_tail (start_ok hq _) (start_ok hq _) rfl rfl (hres _ _ (start_ok hq _) (start_ok hq _) rfl)
      rw [show (x0 % 7 == 4) = false by simpa using o4, brK_false]
      simp only [ta hp, bindK_some_eq, nilK_nil, consK_cons, iD, asI_int, tb' hq, h.step]
      exact same_tail (step_ok hq) (step_ok hq) rfl rfl (hres _ _ (step_ok hq) (step_ok hq) rfl)
    · rw [decide_eq_false c2, brK_false]
      refine fin fun again k p q hp hq h => ?_
      have hc := (cap_le p.a).2
      by_cases hlt : (k : Int) < p.a.cap
      · have w : IntKind.i64.wrap ((k : Int) + 1) = ((k + 1 : Nat) : Int) := by rw [wrap_fit (by omega) (by omega)]; rfl
        have hb := read_bytes hq k
        have hsm := same_refl hb.1 (by omega) .lent .lent
        have hle : (0 : Nat) + (q.read k).1.length ≤ (q.read k).1.length := by omega
        simp only [ca, bindK_some_eq, nilK_nil, consK_cons, iD, asI_int, decide_eq_true hlt, brK_true, ra hp, rb hq, asTup_tup, getCells_any, getCells_nil, asOwn_own, h.read, bne_self_eq_false, brK_false, sif_pos hle, cut_whole, hsm, asB_bool, Bool.not_true, letN_eq, w, if_pos hlt]
      · simp only [ca, bindK_some_eq, nilK_nil, consK_cons, iD, asI_int, decide_eq_false hlt, brK_false, wakes24, asB_bool, if_neg hlt]
  · rw [decide_eq_false c1, brK_false]
    refine fin fun again k p q hp hq h => ?_
    have hc := (cap_le p.a).2
    by_cases hlt : (k : Int) < p.a.cap
    · have w : IntKind.i64.wrap ((k : Int) + 1) = ((k + 1 : Nat) : Int) := by rw [wrap_fit (by omega) (by omega)]; rfl
      have hb := read_bytes hq k
      have hsm := same_refl hb.1 (by omega) .lent .lent
      have hle : (0 : Nat) + (q.read k).1.length ≤ (q.read k).1.length := by omega
      simp only [ca, bindK_some_eq, nilK_nil, consK_cons, iD, asI_int, decide_eq_true hlt, brK_true, ra hp, rb hq, asTup_tup, getCells_any, getCells_nil, asOwn_own, h.read, bne_self_eq_false, brK_false, sif_pos hle, cut_whole, hsm, asB_bool, Bool.not_true, letN_eq, w, if_pos hlt]
    · simp only [ca, bindK_some_eq, nilK_nil, consK_cons, iD, asI_int, decide_eq_false hlt, brK_false, wakes24, asB_bool, if_neg hlt]
end Wf

