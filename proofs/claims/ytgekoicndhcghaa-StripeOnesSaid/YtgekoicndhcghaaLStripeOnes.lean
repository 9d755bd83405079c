/-
  A law, read off.
-/
import Derived.Test.YtgekoicndhcghaaX
import Derived.Test.YtgekoicndhcghaaY
set_option linter.unusedVariables false
set_option linter.unusedSimpArgs false
set_option linter.unnecessarySimpa false
namespace Wf
open Go Go.RowKit Go.Proofs
set_option linter.unusedVariables false
set_option maxRecDepth 100000
def ann_wattlelaw14_StripeOnes : Ann := { loops := [(3, [.dead, .dead, .dead, .val (.cell (.int .i64)), .val (.cell (.int .i64)), .dead, .dead, .dead, .dead, .dead, .dead, .box true [(.int .i64), (.int .i64), (.int .i64)], .ptr 5312, .own 1, .dead, .own 1, .dead, .own 1, .dead, .dead, .dead, .dead, .dead, .dead, .dead, .dead, .dead, .dead, .dead, .dead, .dead, .dead, .dead, .dead, .dead, .dead, .dead, .dead, .dead, .dead, .dead, .dead, .dead, .dead, .dead, .dead, .dead, .dead, .dead, .dead, .dead, .dead, .dead, .dead, .dead, .dead, .dead, .dead, .dead, .dead, .dead, .dead, .dead, .dead, .dead, .dead, .dead, .dead, .dead, .dead, .dead, .dead, .dead, .dead, .same 17, .val (.cell (.int .i64)), .val (.cell (.int .i64))]), (6, [.dead, .dead, .dead, .val (.cell (.int .i64)), .dead, .dead, .dead, .dead, .dead, .dead, .dead, .box true [(.int .i64), (.int .i64), (.int .i64)], .ptr 5312, .own 1, .dead, .own 1, .dead, .dead, .dead, .dead, .dead, .dead, .val (.cell (.int .i64)), .dead, .dead, .dead, .dead, .dead, .dead, .dead, .dead, .dead, .dead, .dead, .dead, .dead, .dead, .dead, .dead, .dead, .dead, .dead, .dead, .dead, .dead, .dead, .dead, .dead, .dead, .dead, .dead, .dead, .dead, .dead, .dead, .dead, .dead, .dead, .dead, .dead, .dead, .dead, .dead, .dead, .dead, .dead, .dead, .dead, .dead, .dead, .dead, .dead, .dead, .dead, .dead, .dead, .dead, .dead, .dead, .dead, .dead, .dead, .dead, .dead, .dead, .dead, .dead, .dead, .dead, .dead, .dead, .dead, .dead, .dead, .dead, .dead, .dead, .dead, .dead, .dead, .dead, .dead, .dead, .dead, .dead, .dead, .dead, .dead, .dead, .dead, .dead, .dead, .dead, .dead, .own 1, .val (.cell (.int .i64)), .val (.cell (.int .i64))])], ks := [(5312, true), (6561, true)] }
noncomputable def F_wattlelaw14_StripeOnes : List D → Option D := denT Try.prog (penv' [(ID.wattleplay_Good, (.pure [0] F_wattleplay_Good)), (ID.wattlelaw14_Filled, (.st [] [0] [(5312, true), (6561, true)] F_wattlelaw14_Filled)), (ID.wattleplay_Live, (.pure [1] F_wattleplay_Live)), (ID.wattlekeep_Within, (.pure [0] F_wattlekeep_Within)), (ID.stripe_Read, (.st [] [1, 0] [(5312, false), (6561, false)] F_stripe_Read)), (ID.wattleref01_Numbers, (.pure [1] F_wattleref01_Numbers)), (ID.stripe_One, (.st [] [0, 0] [(5312, false), (6561, false)] F_stripe_One)), (ID.wattlekeep_Same_byte, (.pure [0] F_wattlekeep_Same_byte)), (ID.wattleplay_Sector, (.pure [1] F_wattleplay_Sector)), (ID.bench_Bench_Damage, (.st [] [0] [(5312, false), (6561, true)] F_bench_Bench_Damage)), (ID.wattleref01_Disk, (.pure [0] F_wattleref01_Disk)), (ID.wattlelaw14_wakes, (.pure [0] F_wattlelaw14_wakes))]) ann_wattlelaw14_StripeOnes [0] ID.wattlelaw14_StripeOnes
theorem sound_wattlelaw14_StripeOnes : Sound Try.prog ID.wattlelaw14_StripeOnes (.pure [0] F_wattlelaw14_StripeOnes) := denT_sound (penv_ok [fact_wattleplay_Good, fact_wattlelaw14_Filled, fact_wattleplay_Live, fact_wattlekeep_Within, fact_stripe_Read, fact_wattleref01_Numbers, fact_stripe_One, fact_wattlekeep_Same_byte, fact_wattleplay_Sector, fact_bench_Bench_Damage, fact_wattleref01_Disk, fact_wattlelaw14_wakes]) mixed ⟨Try.f5, by kernel_rfl, by kernel_rfl, by kernel_rfl⟩
noncomputable def fact_wattlelaw14_StripeOnes : Fact Try.prog := ⟨ID.wattlelaw14_StripeOnes, (.pure [0] F_wattlelaw14_StripeOnes), sound_wattlelaw14_StripeOnes⟩
noncomputable def g_wattlelaw14_StripeOnes (F_wattleplay_Good : List D → Option D) (F_wattlelaw14_Filled : List D → List Tb → Option Ans) (F_wattleplay_Live : List D → Option D) (F_wattlekeep_Within : List D → Option D) (F_stripe_Read : List D → List Tb → Option Ans) (F_wattleref01_Numbers : List D → Option D) (F_stripe_One : List D → List Tb → Option Ans) (F_wattlekeep_Same_byte : List D → Option D) (F_wattleplay_Sector : List D → Option D) (F_bench_Bench_Damage : List D → List Tb → Option Ans) (F_wattleref01_Disk : List D → Option D) (F_wattlelaw14_wakes : List D → Option D) (a0 : Int) (a1 : List D) (a2 : Int) (a3 : Int) (a4 : Int) : Option D :=
  bindK (F_wattleplay_Good [D.int IntKind.i64 a0]) fun r1 =>
  asAgg r1 fun cs2 =>
  getCells ([Lf.int IntKind.i64, Lf.int IntKind.i64, Lf.int IntKind.i64]) cs2 fun c3 =>
  bindK (F_wattlelaw14_Filled   [D.agg [D.int IntKind.i64 c3.fst, D.int IntKind.i64 c3.snd.fst, D.int IntKind.i64 c3.snd.snd.fst],     D.int IntKind.i64 c3.snd.fst, D.sl Tag.lent a1]   [[], []]) fun r4 =>
  nilK r4.outs <|
  consK r4.tbs fun c5 q6 =>
  consK q6 fun c7 q8 =>
  nilK q8 <|
  sif (okData r4.r = true) <|
  asNil r4.r fun b9 =>
  brK b9
    (some (D.bool false))
    (bindK (F_wattleplay_Live [D.int IntKind.i64 (0 : Int), D.int IntKind.i64 c3.snd.fst]) fun r10 =>
    asOwn r10 fun l11 =>
    letN (IntKind.wrap IntKind.i64 ((2 : Int) * c3.snd.fst)) fun n12 =>
    bindK (F_wattlekeep_Within [D.int IntKind.i64 a2, D.int IntKind.i64 n12]) fun r13 =>
    asI IntKind.i64 r13 fun i14 =>
    brK (decide (i14 < c3.snd.fst))
      (sif ((0 : Int) ≤ i14) <|
      sif (Int.toNat i14 < List.length l11) <|
      getK l11 ((0 : Nat) + Int.toNat i14) fun d15 =>
      sif (D.isAgg d15 = false) <|
      bindK (F_wattlekeep_Within [D.int IntKind.i64 a3, D.int IntKind.i64 (16 : Int)]) fun r16 =>
      asI IntKind.i64 r16 fun i17 =>
      sif ((0 : Nat) + List.length l11 ≤ List.length (List.set l11 ((0 : Nat) + Int.toNat i14) (D.bool false))) <|
      bindK (F_stripe_Read   [r4.r, D.sl Tag.lent (cut (0 : Nat) (List.length l11) (List.set l11 ((0 : Nat) + Int.toNat i14) (D.bool false))),     D.agg [D.int IntKind.i64 c3.fst, D.int IntKind.i64 c3.snd.fst, D.int IntKind.i64 c3.snd.snd.fst],     D.int IntKind.i64 i17]   [c5, c7]) fun r18 =>
      nilK r18.outs <|
      nilK r18.tbs <|
      asTup r18.r fun ts19 =>
      getCells ([Lf.any, Lf.any]) ts19 fun c20 =>
      asOwn c20.fst fun l21 =>
      asI IntKind.i64 c20.snd.fst fun i22 =>
      bindK (F_wattleref01_Numbers   [D.agg [D.int IntKind.i64 c3.fst, D.int IntKind.i64 c3.snd.fst, D.int IntKind.i64 c3.snd.snd.fst],     D.int IntKind.i64 i17]) fun r23 =>
      asOwn r23 fun l24 =>
      brK (i22 != (0 : Int))
        (some (D.bool false))
        (sif ((0 : Nat) + List.length l21 ≤ List.length l21) <|
        sif ((0 : Nat) + List.length l24 ≤ List.length l24) <|
        brK ((↑(List.length l21) : Int) != (↑(List.length l24) : Int))
          (some (D.bool false))
          (sif ((0 : Nat) + List.length l24 ≤ List.length l24) <|
          sif (List.length l11 = List.length (List.set l11 ((0 : Nat) + Int.toNat i14) (D.bool false))) <|
          sif (List.length l21 = List.length l21) <|
          sif (List.length l24 = List.length l24) <|
          sif (List.length l24 = List.length l24) <|
          loopN (α := (Int × Int × (Int × Int × Int × PUnit) × D × List D × List D × List D × Int × Int × PUnit) ×   List (List D) × List (List D) × PUnit) (fun again25 ((i26, (i27, ((i28, (i29, (i30, _))), (x31, (l32, (l33, (l34, (i35, (i36, _))))))))), (U37, (U38, _))) =>
            brK (decide (i36 < i35))
              (sif ((0 : Int) ≤ i36) <|
              sif (Int.toNat i36 < List.length l34) <|
              getK l34 ((0 : Nat) + Int.toNat i36) fun d39 =>
              asI IntKind.i64 d39 fun i40 =>
              sif ((0 : Nat) + List.length l32 ≤ List.length l32) <|
              bindK (F_stripe_One   [x31, D.sl Tag.lent (cut (0 : Nat) (List.length l32) l32),     D.agg [D.int IntKind.i64 i28, D.int IntKind.i64 i29, D.int IntKind.i64 i30], D.int IntKind.i64 i40]   [U37, U38]) fun r41 =>
              nilK r41.outs <|
              nilK r41.tbs <|
              asTup r41.r fun ts42 =>
              getCells ([Lf.any, Lf.any]) ts42 fun c43 =>
              asSl c43.fst fun t44 l45 =>
              sif (okData (D.sl t44 l45) = true) <|
              asI IntKind.i64 c43.snd.fst fun i46 =>
              brK (i46 != (0 : Int))
                (some (D.bool false))
                (sif ((0 : Int) ≤ i36) <|
                sif (Int.toNat i36 < List.length l33) <|
                getK l33 ((0 : Nat) + Int.toNat i36) fun d47 =>
                asSl d47 fun t48 l49 =>
                bindK (F_wattlekeep_Same_byte [D.sl t44 l45, D.sl t48 l49]) fun r50 =>
                asB r50 fun b51 =>
                brK (!b51)
                  (some (D.bool false))
                  (letN (IntKind.wrap IntKind.i64 (i36 + (1 : Int))) fun n52 =>
                  sif (List.length l32 = List.length l32) <|
                  sif (List.length l33 = List.length l33) <|
                  sif (List.length l34 = List.length l34) <|
                  sif (List.length l34 = List.length l34) <|
                  again25 (((i26, i27, (i28, i29, i30, PUnit.unit), x31, l32, l33, l34, i35, n52, PUnit.unit), U37, U38, PUnit.unit)))))
              (bindK (F_wattlekeep_Within [D.int IntKind.i64 i27, D.int IntKind.i64 i29]) fun r53 =>
              asI IntKind.i64 r53 fun i54 =>
              letN (IntKind.wrap IntKind.i64 ((36 : Int) + i26)) fun n55 =>
              letN (IntKind.wrap IntKind.i64 (i27 * (5 : Int))) fun n56 =>
              letN (IntKind.wrap IntKind.i64 (n56 + (2 : Int))) fun n57 =>
              bindK (F_wattleplay_Sector [D.int IntKind.i64 n57]) fun r58 =>
              asOwn r58 fun l59 =>
              sif ((0 : Nat) + List.length l59 ≤ List.length l59) <|
              bindK (F_bench_Bench_Damage   [x31, D.int IntKind.i64 i54, D.int IntKind.i64 n55, D.sl Tag.lent (cut (0 : Nat) (List.length l59) l59)] [U37, U38]) fun r60 =>
              nilK r60.outs <|
              consK r60.tbs fun c61 q62 =>
              nilK q62 <|
              asI IntKind.i64 r60.r fun i63 =>
              sif ((0 : Nat) + List.length l34 ≤ List.length l34) <|
              sif (List.length l32 = List.length l32) <|
              sif (List.length l33 = List.length l33) <|
              sif (List.length l34 = List.length l34) <|
              loopN (α := (Int × (Int × Int × Int × PUnit) × D × List D × List D × Int × List D × Int × Int × PUnit) ×   List (List D) × List (List D) × PUnit) (fun again64 ((i65, ((i66, (i67, (i68, _))), (x69, (l70, (l71, (i72, (l73, (i74, (i75, _))))))))), (U76, (U77, _))) =>
                brK (decide (i75 < i74))
                  (sif ((0 : Int) ≤ i75) <|
                  sif (Int.toNat i75 < List.length l73) <|
                  getK l73 ((0 : Nat) + Int.toNat i75) fun d78 =>
                  asI IntKind.i64 d78 fun i79 =>
                  bindK (F_wattleref01_Disk   [D.agg [D.int IntKind.i64 i66, D.int IntKind.i64 i67, D.int IntKind.i64 i68], D.int IntKind.i64 i65,     D.int IntKind.i64 i75]) fun r80 =>
                  asI IntKind.i64 r80 fun i81 =>
                  brK (i81 == i72)
                    (letN (IntKind.wrap IntKind.i64 (i75 + (1 : Int))) fun n82 =>
                    sif (List.length l70 = List.length l70) <|
                    sif (List.length l71 = List.length l71) <|
                    sif (List.length l73 = List.length l73) <|
                    again64 (((i65, (i66, i67, i68, PUnit.unit), x69, l70, l71, i72, l73, i74, n82, PUnit.unit), U76, U77, PUnit.unit)))
                    (sif ((0 : Int) ≤ i81) <|
                    sif (Int.toNat i81 < List.length l70) <|
                    getK l70 ((0 : Nat) + Int.toNat i81) fun d83 =>
                    asB d83 fun b84 =>
                    brK (!b84)
                      (letN (IntKind.wrap IntKind.i64 (i75 + (1 : Int))) fun n85 =>
                      sif (List.length l70 = List.length l70) <|
                      sif (List.length l71 = List.length l71) <|
                      sif (List.length l73 = List.length l73) <|
                      again64 (((i65, (i66, i67, i68, PUnit.unit), x69, l70, l71, i72, l73, i74, n85, PUnit.unit), U76, U77, PUnit.unit)))
                      (sif ((0 : Nat) + List.length l70 ≤ List.length l70) <|
                      bindK (F_stripe_One   [x69, D.sl Tag.lent (cut (0 : Nat) (List.length l70) l70),     D.agg [D.int IntKind.i64 i66, D.int IntKind.i64 i67, D.int IntKind.i64 i68], D.int IntKind.i64 i79]   [U76, U77]) fun r86 =>
                      nilK r86.outs <|
                      nilK r86.tbs <|
                      asTup r86.r fun ts87 =>
                      getCells ([Lf.any, Lf.any]) ts87 fun c88 =>
                      asSl c88.fst fun t89 l90 =>
                      sif (okData (D.sl t89 l90) = true) <|
                      asI IntKind.i64 c88.snd.fst fun i91 =>
                      brK (i91 != (0 : Int))
                        (some (D.bool false))
                        (sif ((0 : Int) ≤ i75) <|
                        sif (Int.toNat i75 < List.length l71) <|
                        getK l71 ((0 : Nat) + Int.toNat i75) fun d92 =>
                        asSl d92 fun t93 l94 =>
                        bindK (F_wattlekeep_Same_byte [D.sl t89 l90, D.sl t93 l94]) fun r95 =>
                        asB r95 fun b96 =>
                        brK (!b96)
                          (some (D.bool false))
                          (letN (IntKind.wrap IntKind.i64 (i75 + (1 : Int))) fun n97 =>
                          sif (List.length l70 = List.length l70) <|
                          sif (List.length l71 = List.length l71) <|
                          sif (List.length l73 = List.length l73) <|
                          again64 (((i65, (i66, i67, i68, PUnit.unit), x69, l70, l71, i72, l73, i74, n97, PUnit.unit), U76, U77, PUnit.unit)))))))
                  (bindK (F_wattlelaw14_wakes []) fun r98 =>
                  asB r98 fun b99 =>
                  some (D.bool b99)))
                (((i26, (i28, i29, i30, PUnit.unit), x31, l32, l33, i54, l34, (↑(List.length l34) : Int), (0 : Int), PUnit.unit), U37,   c61, PUnit.unit))))
            (((i17, a4, (c3.fst, c3.snd.fst, c3.snd.snd.fst, PUnit.unit), r4.r,     List.set l11 ((0 : Nat) + Int.toNat i14) (D.bool false), l21, l24, (↑(List.length l24) : Int), (0 : Int),     PUnit.unit),   c5, c7, PUnit.unit)))))
      (bindK (F_wattlekeep_Within [D.int IntKind.i64 a3, D.int IntKind.i64 (16 : Int)]) fun r100 =>
      asI IntKind.i64 r100 fun i101 =>
      sif ((0 : Nat) + List.length l11 ≤ List.length l11) <|
      bindK (F_stripe_Read   [r4.r, D.sl Tag.lent (cut (0 : Nat) (List.length l11) l11),     D.agg [D.int IntKind.i64 c3.fst, D.int IntKind.i64 c3.snd.fst, D.int IntKind.i64 c3.snd.snd.fst],     D.int IntKind.i64 i101]   [c5, c7]) fun r102 =>
      nilK r102.outs <|
      nilK r102.tbs <|
      asTup r102.r fun ts103 =>
      getCells ([Lf.any, Lf.any]) ts103 fun c104 =>
      asOwn c104.fst fun l105 =>
      asI IntKind.i64 c104.snd.fst fun i106 =>
      bindK (F_wattleref01_Numbers   [D.agg [D.int IntKind.i64 c3.fst, D.int IntKind.i64 c3.snd.fst, D.int IntKind.i64 c3.snd.snd.fst],     D.int IntKind.i64 i101]) fun r107 =>
      asOwn r107 fun l108 =>
      brK (i106 != (0 : Int))
        (some (D.bool false))
        (sif ((0 : Nat) + List.length l105 ≤ List.length l105) <|
        sif ((0 : Nat) + List.length l108 ≤ List.length l108) <|
        brK ((↑(List.length l105) : Int) != (↑(List.length l108) : Int))
          (some (D.bool false))
          (sif ((0 : Nat) + List.length l108 ≤ List.length l108) <|
          sif (List.length l11 = List.length l11) <|
          sif (List.length l105 = List.length l105) <|
          sif (List.length l108 = List.length l108) <|
          sif (List.length l108 = List.length l108) <|
          loopN (α := (Int × Int × (Int × Int × Int × PUnit) × D × List D × List D × List D × Int × Int × PUnit) ×   List (List D) × List (List D) × PUnit) (fun again109 ((i110, (i111, ((i112, (i113, (i114, _))), (x115, (l116, (l117, (l118, (i119, (i120, _))))))))), (U121, (U122, _))) =>
            brK (decide (i120 < i119))
              (sif ((0 : Int) ≤ i120) <|
              sif (Int.toNat i120 < List.length l118) <|
              getK l118 ((0 : Nat) + Int.toNat i120) fun d123 =>
              asI IntKind.i64 d123 fun i124 =>
              sif ((0 : Nat) + List.length l116 ≤ List.length l116) <|
              bindK (F_stripe_One   [x115, D.sl Tag.lent (cut (0 : Nat) (List.length l116) l116),     D.agg [D.int IntKind.i64 i112, D.int IntKind.i64 i113, D.int IntKind.i64 i114], D.int IntKind.i64 i124]   [U121, U122]) fun r125 =>
              nilK r125.outs <|
              nilK r125.tbs <|
              asTup r125.r fun ts126 =>
              getCells ([Lf.any, Lf.any]) ts126 fun c127 =>
              asSl c127.fst fun t128 l129 =>
              sif (okData (D.sl t128 l129) = true) <|
              asI IntKind.i64 c127.snd.fst fun i130 =>
              brK (i130 != (0 : Int))
                (some (D.bool false))
                (sif ((0 : Int) ≤ i120) <|
                sif (Int.toNat i120 < List.length l117) <|
                getK l117 ((0 : Nat) + Int.toNat i120) fun d131 =>
                asSl d131 fun t132 l133 =>
                bindK (F_wattlekeep_Same_byte [D.sl t128 l129, D.sl t132 l133]) fun r134 =>
                asB r134 fun b135 =>
                brK (!b135)
                  (some (D.bool false))
                  (letN (IntKind.wrap IntKind.i64 (i120 + (1 : Int))) fun n136 =>
                  sif (List.length l116 = List.length l116) <|
                  sif (List.length l117 = List.length l117) <|
                  sif (List.length l118 = List.length l118) <|
                  sif (List.length l118 = List.length l118) <|
                  again109 (((i110, i111, (i112, i113, i114, PUnit.unit), x115, l116, l117, l118, i119, n136, PUnit.unit), U121, U122, PUnit.unit)))))
              (bindK (F_wattlekeep_Within [D.int IntKind.i64 i111, D.int IntKind.i64 i113]) fun r137 =>
              asI IntKind.i64 r137 fun i138 =>
              letN (IntKind.wrap IntKind.i64 ((36 : Int) + i110)) fun n139 =>
              letN (IntKind.wrap IntKind.i64 (i111 * (5 : Int))) fun n140 =>
              letN (IntKind.wrap IntKind.i64 (n140 + (2 : Int))) fun n141 =>
              bindK (F_wattleplay_Sector [D.int IntKind.i64 n141]) fun r142 =>
              asOwn r142 fun l143 =>
              sif ((0 : Nat) + List.length l143 ≤ List.length l143) <|
              bindK (F_bench_Bench_Damage   [x115, D.int IntKind.i64 i138, D.int IntKind.i64 n139, D.sl Tag.lent (cut (0 : Nat) (List.length l143) l143)]   [U121, U122]) fun r144 =>
              nilK r144.outs <|
              consK r144.tbs fun c145 q146 =>
              nilK q146 <|
              asI IntKind.i64 r144.r fun i147 =>
              sif ((0 : Nat) + List.length l118 ≤ List.length l118) <|
              sif (List.length l116 = List.length l116) <|
              sif (List.length l117 = List.length l117) <|
              sif (List.length l118 = List.length l118) <|
              loopN (α := (Int × (Int × Int × Int × PUnit) × D × List D × List D × Int × List D × Int × Int × PUnit) ×   List (List D) × List (List D) × PUnit) (fun again148 ((i149, ((i150, (i151, (i152, _))), (x153, (l154, (l155, (i156, (l157, (i158, (i159, _))))))))), (U160, (U161, _))) =>
                brK (decide (i159 < i158))
                  (sif ((0 : Int) ≤ i159) <|
                  sif (Int.toNat i159 < List.length l157) <|
                  getK l157 ((0 : Nat) + Int.toNat i159) fun d162 =>
                  asI IntKind.i64 d162 fun i163 =>
                  bindK (F_wattleref01_Disk   [D.agg [D.int IntKind.i64 i150, D.int IntKind.i64 i151, D.int IntKind.i64 i152], D.int IntKind.i64 i149,     D.int IntKind.i64 i159]) fun r164 =>
                  asI IntKind.i64 r164 fun i165 =>
                  brK (i165 == i156)
                    (letN (IntKind.wrap IntKind.i64 (i159 + (1 : Int))) fun n166 =>
                    sif (List.length l154 = List.length l154) <|
                    sif (List.length l155 = List.length l155) <|
                    sif (List.length l157 = List.length l157) <|
                    again148 (((i149, (i150, i151, i152, PUnit.unit), x153, l154, l155, i156, l157, i158, n166, PUnit.unit), U160, U161, PUnit.unit)))
                    (sif ((0 : Int) ≤ i165) <|
                    sif (Int.toNat i165 < List.length l154) <|
                    getK l154 ((0 : Nat) + Int.toNat i165) fun d167 =>
                    asB d167 fun b168 =>
                    brK (!b168)
                      (letN (IntKind.wrap IntKind.i64 (i159 + (1 : Int))) fun n169 =>
                      sif (List.length l154 = List.length l154) <|
                      sif (List.length l155 = List.length l155) <|
                      sif (List.length l157 = List.length l157) <|
                      again148 (((i149, (i150, i151, i152, PUnit.unit), x153, l154, l155, i156, l157, i158, n169, PUnit.unit), U160, U161, PUnit.unit)))
                      (sif ((0 : Nat) + List.length l154 ≤ List.length l154) <|
                      bindK (F_stripe_One   [x153, D.sl Tag.lent (cut (0 : Nat) (List.length l154) l154),     D.agg [D.int IntKind.i64 i150, D.int IntKind.i64 i151, D.int IntKind.i64 i152], D.int IntKind.i64 i163]   [U160, U161]) fun r170 =>
                      nilK r170.outs <|
                      nilK r170.tbs <|
                      asTup r170.r fun ts171 =>
                      getCells ([Lf.any, Lf.any]) ts171 fun c172 =>
                      asSl c172.fst fun t173 l174 =>
                      sif (okData (D.sl t173 l174) = true) <|
                      asI IntKind.i64 c172.snd.fst fun i175 =>
                      brK (i175 != (0 : Int))
                        (some (D.bool false))
                        (sif ((0 : Int) ≤ i159) <|
                        sif (Int.toNat i159 < List.length l155) <|
                        getK l155 ((0 : Nat) + Int.toNat i159) fun d176 =>
                        asSl d176 fun t177 l178 =>
                        bindK (F_wattlekeep_Same_byte [D.sl t173 l174, D.sl t177 l178]) fun r179 =>
                        asB r179 fun b180 =>
                        brK (!b180)
                          (some (D.bool false))
                          (letN (IntKind.wrap IntKind.i64 (i159 + (1 : Int))) fun n181 =>
                          sif (List.length l154 = List.length l154) <|
                          sif (List.length l155 = List.length l155) <|
                          sif (List.length l157 = List.length l157) <|
                          again148 (((i149, (i150, i151, i152, PUnit.unit), x153, l154, l155, i156, l157, i158, n181, PUnit.unit), U160, U161, PUnit.unit)))))))
                  (bindK (F_wattlelaw14_wakes []) fun r182 =>
                  asB r182 fun b183 =>
                  some (D.bool b183)))
                (((i110, (i112, i113, i114, PUnit.unit), x115, l116, l117, i138, l118, (↑(List.length l118) : Int), (0 : Int),     PUnit.unit),   U121, c145, PUnit.unit))))
            (((i101, a4, (c3.fst, c3.snd.fst, c3.snd.snd.fst, PUnit.unit), r4.r, l11, l105, l108, (↑(List.length l108) : Int),     (0 : Int), PUnit.unit),   c5, c7, PUnit.unit))))))
theorem G_wattlelaw14_StripeOnes (F_wattleplay_Good : List D → Option D) (F_wattlelaw14_Filled : List D → List Tb → Option Ans) (F_wattleplay_Live : List D → Option D) (F_wattlekeep_Within : List D → Option D) (F_stripe_Read : List D → List Tb → Option Ans) (F_wattleref01_Numbers : List D → Option D) (F_stripe_One : List D → List Tb → Option Ans) (F_wattlekeep_Same_byte : List D → Option D) (F_wattleplay_Sector : List D → Option D) (F_bench_Bench_Damage : List D → List Tb → Option Ans) (F_wattleref01_Disk : List D → Option D) (F_wattlelaw14_wakes : List D → Option D) (tga1 : Tag) (a0 : Int) (a1 : List D) (a2 : Int) (a3 : Int) (a4 : Int) : denT Try.prog (penv' [(ID.wattleplay_Good, (.pure [0] F_wattleplay_Good)), (ID.wattlelaw14_Filled, (.st [] [0] [(5312, true), (6561, true)] F_wattlelaw14_Filled)), (ID.wattleplay_Live, (.pure [1] F_wattleplay_Live)), (ID.wattlekeep_Within, (.pure [0] F_wattlekeep_Within)), (ID.stripe_Read, (.st [] [1, 0] [(5312, false), (6561, false)] F_stripe_Read)), (ID.wattleref01_Numbers, (.pure [1] F_wattleref01_Numbers)), (ID.stripe_One, (.st [] [0, 0] [(5312, false), (6561, false)] F_stripe_One)), (ID.wattlekeep_Same_byte, (.pure [0] F_wattlekeep_Same_byte)), (ID.wattleplay_Sector, (.pure [1] F_wattleplay_Sector)), (ID.bench_Bench_Damage, (.st [] [0] [(5312, false), (6561, true)] F_bench_Bench_Damage)), (ID.wattleref01_Disk, (.pure [0] F_wattleref01_Disk)), (ID.wattlelaw14_wakes, (.pure [0] F_wattlelaw14_wakes))]) ann_wattlelaw14_StripeOnes [0] ID.wattlelaw14_StripeOnes [.int .i64 a0, .sl tga1 a1, .int .i64 a2, .int .i64 a3, .int .i64 a4] = sif (D.nohL [.int .i64 a0, .sl tga1 a1, .int .i64 a2, .int .i64 a3, .int .i64 a4] = true) (g_wattlelaw14_StripeOnes F_wattleplay_Good F_wattlelaw14_Filled F_wattleplay_Live F_wattlekeep_Within F_stripe_Read F_wattleref01_Numbers F_stripe_One F_wattlekeep_Same_byte F_wattleplay_Sector F_bench_Bench_Damage F_wattleref01_Disk F_wattlelaw14_wakes a0 (D.lentL a1) a2 a3 a4) := by kernel_rfl
theorem F_wattlelaw14_StripeOnes_eq (tga1 : Tag) (a0 : Int) (a1 : List D) (a2 : Int) (a3 : Int) (a4 : Int) : F_wattlelaw14_StripeOnes [.int .i64 a0, .sl tga1 a1, .int .i64 a2, .int .i64 a3, .int .i64 a4] = sif (D.nohL [.int .i64 a0, .sl tga1 a1, .int .i64 a2, .int .i64 a3, .int .i64 a4] = true) (g_wattlelaw14_StripeOnes F_wattleplay_Good F_wattlelaw14_Filled F_wattleplay_Live F_wattlekeep_Within F_stripe_Read F_wattleref01_Numbers F_stripe_One F_wattlekeep_Same_byte F_wattleplay_Sector F_bench_Bench_Damage F_wattleref01_Disk F_wattlelaw14_wakes a0 (D.lentL a1) a2 a3 a4) := G_wattlelaw14_StripeOnes F_wattleplay_Good F_wattlelaw14_Filled F_wattleplay_Live F_wattlekeep_Within F_stripe_Read F_wattleref01_Numbers F_stripe_One F_wattlekeep_Same_byte F_wattleplay_Sector F_bench_Bench_Damage F_wattleref01_Disk F_wattlelaw14_wakes tga1 a0 a1 a2 a3 a4
end Wf

/-
  The law, plainly.
-/
namespace Wf
open Go Go.RowKit Go.Proofs
set_option linter.unusedSimpArgs false
set_option linter.unusedVariables false

/-- What comes behind the choice of the lost disk. -/
noncomputable def onesTail (n : Nat) (lv : List D) (gl gd gc : Int) (xb : D) (U V : Tb) (a3 a4 : Int) : Option D :=
  bindK (F_wattlekeep_Within [D.int IntKind.i64 a3, D.int IntKind.i64 (16 : Int)]) fun r16 =>
      asI IntKind.i64 r16 fun i17 =>
      sif ((0 : Nat) + n ≤ List.length lv) <|
      bindK (F_stripe_Read   [xb, D.sl Tag.lent (cut (0 : Nat) n lv),     D.agg [D.int IntKind.i64 gl, D.int IntKind.i64 gd, D.int IntKind.i64 gc],     D.int IntKind.i64 i17]   [U, V]) fun r18 =>
      nilK r18.outs <|
      nilK r18.tbs <|
      asTup r18.r fun ts19 =>
      getCells ([Lf.any, Lf.any]) ts19 fun c20 =>
      asOwn c20.fst fun l21 =>
      asI IntKind.i64 c20.snd.fst fun i22 =>
      bindK (F_wattleref01_Numbers   [D.agg [D.int IntKind.i64 gl, D.int IntKind.i64 gd, D.int IntKind.i64 gc],     D.int IntKind.i64 i17]) fun r23 =>
      asOwn r23 fun l24 =>
      brK (i22 != (0 : Int))
        (some (D.bool false))
        (sif ((0 : Nat) + List.length l21 ≤ List.length l21) <|
        sif ((0 : Nat) + List.length l24 ≤ List.length l24) <|
        brK ((↑(List.length l21) : Int) != (↑(List.length l24) : Int))
          (some (D.bool false))
          (sif ((0 : Nat) + List.length l24 ≤ List.length l24) <|
          sif (n = List.length lv) <|
          sif (List.length l21 = List.length l21) <|
          sif (List.length l24 = List.length l24) <|
          sif (List.length l24 = List.length l24) <|
          loopN (α := (Int × Int × (Int × Int × Int × PUnit) × D × List D × List D × List D × Int × Int × PUnit) ×   List (List D) × List (List D) × PUnit) (fun again25 ((i26, (i27, ((i28, (i29, (i30, _))), (x31, (l32, (l33, (l34, (i35, (i36, _))))))))), (U37, (U38, _))) =>
            brK (decide (i36 < i35))
              (sif ((0 : Int) ≤ i36) <|
              sif (Int.toNat i36 < List.length l34) <|
              getK l34 ((0 : Nat) + Int.toNat i36) fun d39 =>
              asI IntKind.i64 d39 fun i40 =>
              sif ((0 : Nat) + List.length l32 ≤ List.length l32) <|
              bindK (F_stripe_One   [x31, D.sl Tag.lent (cut (0 : Nat) (List.length l32) l32),     D.agg [D.int IntKind.i64 i28, D.int IntKind.i64 i29, D.int IntKind.i64 i30], D.int IntKind.i64 i40]   [U37, U38]) fun r41 =>
              nilK r41.outs <|
              nilK r41.tbs <|
              asTup r41.r fun ts42 =>
              getCells ([Lf.any, Lf.any]) ts42 fun c43 =>
              asSl c43.fst fun t44 l45 =>
              sif (okData (D.sl t44 l45) = true) <|
              asI IntKind.i64 c43.snd.fst fun i46 =>
              brK (i46 != (0 : Int))
                (some (D.bool false))
                (sif ((0 : Int) ≤ i36) <|
                sif (Int.toNat i36 < List.length l33) <|
                getK l33 ((0 : Nat) + Int.toNat i36) fun d47 =>
                asSl d47 fun t48 l49 =>
                bindK (F_wattlekeep_Same_byte [D.sl t44 l45, D.sl t48 l49]) fun r50 =>
                asB r50 fun b51 =>
                brK (!b51)
                  (some (D.bool false))
                  (letN (IntKind.wrap IntKind.i64 (i36 + (1 : Int))) fun n52 =>
                  sif (List.length l32 = List.length l32) <|
                  sif (List.length l33 = List.length l33) <|
                  sif (List.length l34 = List.length l34) <|
                  sif (List.length l34 = List.length l34) <|
                  again25 (((i26, i27, (i28, i29, i30, PUnit.unit), x31, l32, l33, l34, i35, n52, PUnit.unit), U37, U38, PUnit.unit)))))
              (bindK (F_wattlekeep_Within [D.int IntKind.i64 i27, D.int IntKind.i64 i29]) fun r53 =>
              asI IntKind.i64 r53 fun i54 =>
              letN (IntKind.wrap IntKind.i64 ((36 : Int) + i26)) fun n55 =>
              letN (IntKind.wrap IntKind.i64 (i27 * (5 : Int))) fun n56 =>
              letN (IntKind.wrap IntKind.i64 (n56 + (2 : Int))) fun n57 =>
              bindK (F_wattleplay_Sector [D.int IntKind.i64 n57]) fun r58 =>
              asOwn r58 fun l59 =>
              sif ((0 : Nat) + List.length l59 ≤ List.length l59) <|
              bindK (F_bench_Bench_Damage   [x31, D.int IntKind.i64 i54, D.int IntKind.i64 n55, D.sl Tag.lent (cut (0 : Nat) (List.length l59) l59)] [U37, U38]) fun r60 =>
              nilK r60.outs <|
              consK r60.tbs fun c61 q62 =>
              nilK q62 <|
              asI IntKind.i64 r60.r fun i63 =>
              sif ((0 : Nat) + List.length l34 ≤ List.length l34) <|
              sif (List.length l32 = List.length l32) <|
              sif (List.length l33 = List.length l33) <|
              sif (List.length l34 = List.length l34) <|
              loopN (α := (Int × (Int × Int × Int × PUnit) × D × List D × List D × Int × List D × Int × Int × PUnit) ×   List (List D) × List (List D) × PUnit) (fun again64 ((i65, ((i66, (i67, (i68, _))), (x69, (l70, (l71, (i72, (l73, (i74, (i75, _))))))))), (U76, (U77, _))) =>
                brK (decide (i75 < i74))
                  (sif ((0 : Int) ≤ i75) <|
                  sif (Int.toNat i75 < List.length l73) <|
                  getK l73 ((0 : Nat) + Int.toNat i75) fun d78 =>
                  asI IntKind.i64 d78 fun i79 =>
                  bindK (F_wattleref01_Disk   [D.agg [D.int IntKind.i64 i66, D.int IntKind.i64 i67, D.int IntKind.i64 i68], D.int IntKind.i64 i65,     D.int IntKind.i64 i75]) fun r80 =>
                  asI IntKind.i64 r80 fun i81 =>
                  brK (i81 == i72)
                    (letN (IntKind.wrap IntKind.i64 (i75 + (1 : Int))) fun n82 =>
                    sif (List.length l70 = List.length l70) <|
                    sif (List.length l71 = List.length l71) <|
                    sif (List.length l73 = List.length l73) <|
                    again64 (((i65, (i66, i67, i68, PUnit.unit), x69, l70, l71, i72, l73, i74, n82, PUnit.unit), U76, U77, PUnit.unit)))
                    (sif ((0 : Int) ≤ i81) <|
                    sif (Int.toNat i81 < List.length l70) <|
                    getK l70 ((0 : Nat) + Int.toNat i81) fun d83 =>
                    asB d83 fun b84 =>
                    brK (!b84)
                      (letN (IntKind.wrap IntKind.i64 (i75 + (1 : Int))) fun n85 =>
                      sif (List.length l70 = List.length l70) <|
                      sif (List.length l71 = List.length l71) <|
                      sif (List.length l73 = List.length l73) <|
                      again64 (((i65, (i66, i67, i68, PUnit.unit), x69, l70, l71, i72, l73, i74, n85, PUnit.unit), U76, U77, PUnit.unit)))
                      (sif ((0 : Nat) + List.length l70 ≤ List.length l70) <|
                      bindK (F_stripe_One   [x69, D.sl Tag.lent (cut (0 : Nat) (List.length l70) l70),     D.agg [D.int IntKind.i64 i66, D.int IntKind.i64 i67, D.int IntKind.i64 i68], D.int IntKind.i64 i79]   [U76, U77]) fun r86 =>
                      nilK r86.outs <|
                      nilK r86.tbs <|
                      asTup r86.r fun ts87 =>
                      getCells ([Lf.any, Lf.any]) ts87 fun c88 =>
                      asSl c88.fst fun t89 l90 =>
                      sif (okData (D.sl t89 l90) = true) <|
                      asI IntKind.i64 c88.snd.fst fun i91 =>
                      brK (i91 != (0 : Int))
                        (some (D.bool false))
                        (sif ((0 : Int) ≤ i75) <|
                        sif (Int.toNat i75 < List.length l71) <|
                        getK l71 ((0 : Nat) + Int.toNat i75) fun d92 =>
                        asSl d92 fun t93 l94 =>
                        bindK (F_wattlekeep_Same_byte [D.sl t89 l90, D.sl t93 l94]) fun r95 =>
                        asB r95 fun b96 =>
                        brK (!b96)
                          (some (D.bool false))
                          (letN (IntKind.wrap IntKind.i64 (i75 + (1 : Int))) fun n97 =>
                          sif (List.length l70 = List.length l70) <|
                          sif (List.length l71 = List.length l71) <|
                          sif (List.length l73 = List.length l73) <|
                          again64 (((i65, (i66, i67, i68, PUnit.unit), x69, l70, l71, i72, l73, i74, n97, PUnit.unit), U76, U77, PUnit.unit)))))))
                  (bindK (F_wattlelaw14_wakes []) fun r98 =>
                  asB r98 fun b99 =>
                  some (D.bool b99)))
                (((i26, (i28, i29, i30, PUnit.unit), x31, l32, l33, i54, l34, (↑(List.length l34) : Int), (0 : Int), PUnit.unit), U37,   c61, PUnit.unit))))
            (((i17, a4, (gl, gd, gc, PUnit.unit), xb,     lv, l21, l24, (↑(List.length l24) : Int), (0 : Int),     PUnit.unit),   U, V, PUnit.unit))))
theorem len_lv (l : List Bool) : (l.map D.bool).length = l.length := by simp
section
variable {U V : Tb} {b : Nat} {B : Ben} {idx : List Nat} {g : Geo} {live : List Bool}
theorem ones_tail (h : At U V b B idx) (hB : B.Clean g.d.toNat) (hok : g.ok = true) (hlv : One1 g live) (a3 a4 : Int) :
    onesTail g.d.toNat (live.map D.bool) g.l g.d g.c (.h 5312 b 0) U V a3 a4 = some (.bool true) := by
  unfold onesTail
  have hdd := ok_d hok
  have hw := width_ok hok
  have hlen : (live.map D.bool).length = g.d.toNat := by rw [len_lv, hlv.len]
  rw [within' a3 16 (by omega) (by omega), bindK_some_eq, asI_int]
  generalize hrr : a3 % 16 = r
  have hr : fineP g r = true := fine_iff.2 ⟨hok, by omega, by omega⟩
  obtain ⟨_, r0, r1⟩ := fine_iff.1 hr
  have hb0 : ((0 : Int) != 0) = false := rfl
  have hnums : F_wattleref01_Numbers [.agg [.int .i64 g.l, .int .i64 g.d, .int .i64 g.c], .int .i64 r] = some (.sl .own (numsD g r)) := nums_ref g r
  have hnd : numsD g r = numD g r g.width.toNat := by unfold numsD; rw [if_pos hr]
  have hol := out_len h hB hr hlv
  have hb1 : (((pL (fP (outP B g live r))).length : Int) != ((numD g r g.width.toNat).length : Int)) = false := by simp [numD_len]; omega
  rw [sif_pos (by omega), cut_all hlen, read_one h hB hr hlv .lent, bindK_some_eq, nilK_nil, nilK_nil, asTup_tup, getCells_any, getCells_any, getCells_nil]
  dsimp only
  rw [asOwn_own, asI_int, hnums, hnd, bindK_some_eq, asOwn_own, hb0, brK_false, sif_pos (by omega), sif_pos (by omega), hb1, brK_false, sif_pos (by omega), sif_pos (by omega), sif_pos (by rfl), sif_pos (by rfl), sif_pos (by rfl), numD_len]
  let st : Nat → (Int × Int × (Int × Int × Int × PUnit) × D × List D × List D × List D × Int × Int × PUnit) × List (List D) × List (List D) × PUnit := fun k =>
    ((r, a4, (g.l, g.d, g.c, PUnit.unit), .h 5312 b 0, live.map D.bool, pL (fP (outP B g live r)), numD g r g.width.toNat, ((g.width.toNat : Nat) : Int), (k : Int), PUnit.unit), U, V, PUnit.unit)
  show loopN _ (st 0) = _
  refine count_loop st g.width.toNat (by omega) ?_ ?_
  · intro again k hk
    dsimp only [st]
    have hd : decide ((k : Int) < ((g.width.toNat : Nat) : Int)) = true := by simp; omega
    obtain ⟨x, x1, x2, x3⟩ := one_read h hB hr hlv (k := k) (by omega) .lent
    have hlt := lt_of_get x1
    have hsame := same_byte .fresh .fresh x x (by omega)
    have hdec : decide (x = x) = true := by simp
    rw [hd, brK_true, sif_pos (by omega), sif_pos (by rw [numD_len]; omega), Nat.zero_add, show Int.toNat (k : Int) = k from rfl, getK_of (numD_get g r g.width.toNat (i := k) hk)]
    show asI IntKind.i64 (.int .i64 (numP g r (k : Int))) _ = _
    rw [asI_int, sif_pos (by omega), cut_whole, x3, bindK_some_eq, nilK_nil, nilK_nil, asTup_tup, getCells_any, getCells_any, getCells_nil]
    dsimp only
    rw [asSl_sl, sif_pos (by rfl), asI_int, hb0, brK_false, sif_pos (by omega), sif_pos (by rw [pL_len, fP_len]; omega), getK_of (pL_get (fP_get x1)), asSl_sl, hsame, hdec, bindK_some_eq, asB_bool, Bool.not_true, brK_false, letN_eq, wrap_fit (by omega) (by omega), sif_pos (by rfl), sif_pos (by rfl), sif_pos (by rfl), sif_pos (by rfl)]
    rfl
  · intro again
    dsimp only [st]
    have hd : decide (((g.width.toNat : Nat) : Int) < ((g.width.toNat : Nat) : Int)) = false := by simp
    rw [hd, brK_false, within' a4 g.d (by omega) (by omega), bindK_some_eq, asI_int, letN_eq, wrap_fit (n := 36 + r) (by omega) (by omega), letN_eq, letN_eq, sector_play, bindK_some_eq, asOwn_own, sif_pos (by omega), cut_whole]
    generalize hds : a4 % g.d = ds
    have ds0 : 0 ≤ ds ∧ ds < g.d := by rw [← hds]; exact mod_d hok a4
    generalize hsx : secN (IntKind.i64.wrap (IntKind.i64.wrap (a4 * 5) + 2)) = sx
    have hsec : Sec sx := by rw [← hsx]; exact secN_sec _
    obtain ⟨V2, e1, e2⟩ := b_damage h ds (a := 36 + r) (fun s hs w hw => by rw [(hB.ds s hs).2.1] at hw; cases hw) .lent (x := sx) (.inl hsec)
    have hB2 := clean_damage hB ds (36 + r) (x := sx) (.inl hsec)
    rw [e1, bindK_some_eq, nilK_nil, consK_cons, nilK_nil, asI_int, sif_pos (by omega), sif_pos (by rfl), sif_pos (by rfl), sif_pos (by rfl), numD_len]
    have hkeep : ∀ d : Int, 0 ≤ d → d < g.d → d ≠ ds → (B.damage ds (36 + r) sx).2.secAt d (36 + r) = B.secAt d (36 + r) := by
      intro d d0 d1 hne
      unfold Ben.damage
      split
      · split
        · unfold Ben.secAt
          dsimp only
          rw [List.getElem?_set, if_neg (by omega)]
        · rfl
      · rfl
    let s2 : Nat → (Int × (Int × Int × Int × PUnit) × D × List D × List D × Int × List D × Int × Int × PUnit) × List (List D) × List (List D) × PUnit := fun k =>
      ((r, (g.l, g.d, g.c, PUnit.unit), .h 5312 b 0, live.map D.bool, pL (fP (outP B g live r)), ds, numD g r g.width.toNat, ((g.width.toNat : Nat) : Int), (k : Int), PUnit.unit), U, V2, PUnit.unit)
    show loopN _ (s2 0) = _
    refine count_loop s2 g.width.toNat (by omega) ?_ ?_
    · intro again2 k hk
      dsimp only [s2]
      have hd : decide ((k : Int) < ((g.width.toNat : Nat) : Int)) = true := by simp; omega
      have hdi := disk_in hr (k := (k : Int)) (by omega) (by omega)
      rw [hd, brK_true, sif_pos (by omega), sif_pos (by rw [numD_len]; omega), Nat.zero_add, show Int.toNat (k : Int) = k from rfl, getK_of (numD_get g r g.width.toNat (i := k) hk)]
      show asI IntKind.i64 (.int .i64 (numP g r (k : Int))) _ = _
      rw [asI_int, disk_ref2, bindK_some_eq, asI_int, letN_eq, wrap_fit (n := (k : Int) + 1) (by omega) (by omega)]
      by_cases hown : diskP g r (k : Int) = ds
      · have hbo : (diskP g r (k : Int) == ds) = true := by simp [hown]
        rw [hbo, brK_true, sif_pos (by rfl), sif_pos (by rfl), sif_pos (by rfl)]
        rfl
      · have hbo : (diskP g r (k : Int) == ds) = false := by simp [hown]
        have hll := hlv.len
        obtain ⟨lb, hlb⟩ : ∃ v, live[(diskP g r (k : Int)).toNat]? = some v := ⟨_, List.getElem?_eq_getElem (by omega)⟩
        have hlb2 : (live.map D.bool)[(diskP g r (k : Int)).toNat]? = some (.bool lb) := by simp [hlb]
        rw [hbo, brK_false, sif_pos hdi.1, sif_pos (by rw [hlen]; omega), Nat.zero_add, getK_of hlb2, asB_bool]
        cases lb
        · rw [Bool.not_false, brK_true, sif_pos (by rfl), sif_pos (by rfl), sif_pos (by rfl)]
          rfl
        · have hu1 : B.up live (diskP g r (k : Int)) = true := by rw [up_live hB hok hdi.1 hdi.2, hlb]; rfl
          have hu2 : (B.damage ds (36 + r) sx).2.up live (diskP g r (k : Int)) = true := by rw [up_live hB2 hok hdi.1 hdi.2, hlb]; rfl
          have hone := one_up e2 hB2.up (of_num hr (by omega) (by omega)) hdi.1 r0 r1 .lent live hu2
          rw [hkeep _ hdi.1 hdi.2 hown] at hone
          obtain ⟨x, x1, x2, x3⟩ := out_get h hB hr hlv (k := k) (by omega)
          have hxe := x3 hu1
          rw [← hxe] at hone
          have hlt := lt_of_get x1
          have hsame := same_byte .fresh .fresh x x (by omega)
          have hdec : decide (x = x) = true := by simp
          rw [Bool.not_true, brK_false, sif_pos (by omega), cut_whole, hone, bindK_some_eq, nilK_nil, nilK_nil, asTup_tup, getCells_any, getCells_any, getCells_nil]
          dsimp only
          rw [asSl_sl, sif_pos (by rfl), asI_int, hb0, brK_false, sif_pos (by omega), sif_pos (by rw [pL_len, fP_len]; omega), getK_of (pL_get (fP_get x1)), asSl_sl, hsame, hdec, bindK_some_eq, asB_bool, Bool.not_true, brK_false, sif_pos (by rfl), sif_pos (by rfl), sif_pos (by rfl)]
          rfl
    · intro again2
      dsimp only [s2]
      have hd : decide (((g.width.toNat : Nat) : Int) < ((g.width.toNat : Nat) : Int)) = false := by simp
      rw [hd, brK_false, wakes14, bindK_some_eq, asB_bool]
theorem ones_tail' (h : At U V b B idx) (hB : B.Clean g.d.toNat) (hok : g.ok = true) (hlv : One1 g live) (a3 a4 : Int) {n : Nat} (hn : n = g.d.toNat) :
    onesTail n (live.map D.bool) g.l g.d g.c (.h 5312 b 0) U V a3 a4 = some (.bool true) := by subst hn; exact ones_tail h hB hok hlv a3 a4
end
theorem stripe_ones (a0 : Int) (l : List Int) (a2 a3 a4 : Int) (tg : Tag) : F_wattlelaw14_StripeOnes [.int .i64 a0, .sl tg (intL l), .int .i64 a2, .int .i64 a3, .int .i64 a4] = some (.bool true) := by
  rw [F_wattlelaw14_StripeOnes_eq, intL_lent]
  rw [sif_pos (by simp [D.nohL, D.noh, intL_noh])]
  unfold g_wattlelaw14_StripeOnes
  rw [good_play]
  generalize hgg : goodOf a0 = g
  have hok : g.ok = true := by rw [← hgg]; exact good_valid a0
  have hdd := ok_d hok
  have hgD : g.D = .agg [.int .i64 g.l, .int .i64 g.d, .int .i64 g.c] := rfl
  have hdn : g.d = ((g.d.toNat : Nat) : Int) := by omega
  rw [bindK_some_eq, hgD, asAgg_agg, getCells_int, getCells_int, getCells_int, getCells_nil]
  dsimp only
  obtain ⟨T0', T1', e1, hA⟩ := filled hok (n := g.d.toNat) (by omega) (by omega) .lent l [] []
  rw [← hdn] at e1
  have hB := fills_clean g l g.d.toNat 16
  generalize Ben.fills g l g.d.toNat 16 = B at *
  generalize ((List.range g.d.toNat).map fun j => ([] : Tb).length + j) = idx at *
  have hlive := live_all (d := g.d.toNat) (by omega) (by omega)
  rw [← hdn] at hlive
  rw [e1, bindK_some_eq, nilK_nil, consK_cons, consK_cons, nilK_nil, sif_pos (by rfl), asNil_h, brK_false, hlive, bindK_some_eq, asOwn_own, letN_eq, wrap_fit (n := 2 * g.d) (by omega) (by omega), within' a2 (2 * g.d) (by omega) (by omega), bindK_some_eq, asI_int]
  generalize hii : a2 % (2 * g.d) = i
  have i0 : 0 ≤ i := by rw [← hii]; exact Int.emod_nonneg _ (by omega)
  have hll : ((List.replicate g.d.toNat true).map D.bool).length = g.d.toNat := by simp
  by_cases hi : i < g.d
  · have hd : decide (i < g.d) = true := by simp [hi]
    have hg : ((List.replicate g.d.toNat true).map D.bool)[0 + i.toNat]? = some (.bool true) := by
      rw [Nat.zero_add, List.getElem?_map, List.getElem?_replicate, if_pos (by omega)]; rfl
    rw [hd, brK_true, sif_pos i0, sif_pos (by rw [hll]; omega), getK_of hg, sif_pos (by rfl), hll]
    have hset : ((List.replicate g.d.toNat true).map D.bool).set (0 + i.toNat) (.bool false) = ((List.replicate g.d.toNat true).set i.toNat false).map D.bool := by rw [Nat.zero_add, List.map_set]
    rw [hset]
    refine ones_tail (live := (List.replicate g.d.toNat true).set i.toNat false) hA hB hok ⟨by simp, fun j k hj hk => ?_⟩ a3 a4
    have key : ∀ j : Nat, ((List.replicate g.d.toNat true).set i.toNat false)[j]? = some false → j = i.toNat := by
      intro j hj
      refine Classical.byContradiction fun hne => ?_
      rw [List.getElem?_set, if_neg (by omega), List.getElem?_replicate] at hj
      split at hj
      · injection hj with hj; cases hj
      · cases hj
    rw [key j hj, key k hk]
  · have hd : decide (i < g.d) = false := by simp; omega
    rw [hd, brK_false]
    refine ones_tail' (live := List.replicate g.d.toNat true) hA hB hok ⟨by simp, fun j k hj hk => ?_⟩ a3 a4 hll
    have := List.mem_of_getElem? hj
    rw [List.mem_replicate] at this
    exact absurd this.2 (by decide)
end Wf

