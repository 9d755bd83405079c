/-
  A law's function, read off.
-/
import Derived.Test.YtpdhbdacbiamdaaX
import Derived.Test.YtpdhbdacbiamdaaY7
set_option linter.unusedVariables false
set_option linter.unusedSimpArgs false
set_option linter.unnecessarySimpa false
namespace Wf
open Go Go.RowKit Go.Proofs
def ann_wattlelaw08_PlaceRows : Ann := [(0, [.dead, .dead, .dead, .box true [(.int .i64), (.int .i64), (.int .i64)], .val (.cell (.int .i64)), .val (.cell (.int .i64))]), (4, [.dead, .dead, .dead, .box true [(.int .i64), (.int .i64), (.int .i64)], .val (.cell (.int .i64)), .val (.cell (.int .i64)), .map .i64, .dead, .dead, .own 1, .val (.cell (.int .i64))])]
noncomputable def F_wattlelaw08_PlaceRows : List D → Option D := denP Try.prog (penv' [(ID.wattleplay_Good, [0], F_wattleplay_Good), (ID.place_Parity, [0, 0], F_place_Parity), (ID.place_Numbers, [1], F_place_Numbers), (ID.place_Disk, [0], F_place_Disk), (ID.place_Of, [0, 0, 0], F_place_Of), (ID.place_Back, [0, 0, 0], F_place_Back), (ID.wattlelaw08_wakes, [0], F_wattlelaw08_wakes)]) ann_wattlelaw08_PlaceRows [0] ID.wattlelaw08_PlaceRows
theorem sound_wattlelaw08_PlaceRows : SoundP Try.prog ID.wattlelaw08_PlaceRows [0] F_wattlelaw08_PlaceRows := denP_sound (penv_ok [fact_wattleplay_Good, fact_place_Parity, fact_place_Numbers, fact_place_Disk, fact_place_Of, fact_place_Back, fact_wattlelaw08_wakes]) mixed ⟨Try.f15, by kernel_rfl, by kernel_rfl, by kernel_rfl⟩
noncomputable def fact_wattlelaw08_PlaceRows : Fact Try.prog := ⟨ID.wattlelaw08_PlaceRows, [0], F_wattlelaw08_PlaceRows, sound_wattlelaw08_PlaceRows⟩
noncomputable def g_wattlelaw08_PlaceRows (F_wattleplay_Good : List D → Option D) (F_place_Parity : List D → Option D) (F_place_Numbers : List D → Option D) (F_place_Disk : List D → Option D) (F_place_Of : List D → Option D) (F_place_Back : List D → Option D) (F_wattlelaw08_wakes : List D → Option D) (a0 : Int) : Option D :=
  bindK (F_wattleplay_Good [D.int IntKind.i64 a0]) fun r1 =>
  asAgg r1 fun cs2 =>
  getCells ([Lf.int IntKind.i64, Lf.int IntKind.i64, Lf.int IntKind.i64]) cs2 fun c3 =>
  letN (IntKind.wrap IntKind.i64 (c3.snd.fst - c3.fst)) fun n4 =>
  letN (IntKind.wrap IntKind.i64 (n4 + (4 : Int))) fun n5 =>
  loopN (α := ((Int × Int × Int × PUnit) × Int × Int × PUnit) × PUnit) (fun again6 (((i7, (i8, (i9, _))), (i10, (i11, _))), _) =>
    brK (decide (i11 < (16 : Int)))
      (bindK (F_place_Parity [D.agg [D.int IntKind.i64 i7, D.int IntKind.i64 i8, D.int IntKind.i64 i9], D.int IntKind.i64 i11]) fun r12 =>
      asTup r12 fun ts13 =>
      getCells ([Lf.any, Lf.any]) ts13 fun c14 =>
      asI IntKind.i64 c14.fst fun i15 =>
      asI IntKind.i64 c14.snd.fst fun i16 =>
      brK (i7 == (6 : Int))
        (bindK (F_place_Numbers [D.agg [D.int IntKind.i64 i7, D.int IntKind.i64 i8, D.int IntKind.i64 i9], D.int IntKind.i64 i11]) fun r17 =>
        asOwn r17 fun l18 =>
        sif ((0 : Nat) + List.length l18 ≤ List.length l18) <|
        brK ((↑(List.length l18) : Int) != i10)
          (some (D.bool false))
          (sif (List.length l18 = List.length l18) <|
          loopN (α := ((Int × Int × Int × PUnit) × Int × Int × List (Int × D) × List D × Int × PUnit) × PUnit) (fun again19 (((i20, (i21, (i22, _))), (i23, (i24, (l25, (l26, (i27, _)))))), _) =>
            brK (decide (i27 < i23))
              (bindK (F_place_Disk   [D.agg [D.int IntKind.i64 i20, D.int IntKind.i64 i21, D.int IntKind.i64 i22], D.int IntKind.i64 i24,     D.int IntKind.i64 i27]) fun r28 =>
              asI IntKind.i64 r28 fun i29 =>
              brK (decide (i29 < (0 : Int)))
                (some (D.bool false))
                (brK (decide (i29 ≥ i21))
                  (some (D.bool false))
                  (asB (lookD i29 (D.bool false) l25) fun b30 =>
                  brK b30
                    (some (D.bool false))
                    (sif ((0 : Int) ≤ i27) <|
                    sif (Int.toNat i27 < List.length l26) <|
                    getK l26 ((0 : Nat) + Int.toNat i27) fun d31 =>
                    asI IntKind.i64 d31 fun i32 =>
                    bindK (F_place_Of [D.agg [D.int IntKind.i64 i20, D.int IntKind.i64 i21, D.int IntKind.i64 i22], D.int IntKind.i64 i32]) fun r33 =>
                    asTup r33 fun ts34 =>
                    getCells ([Lf.any, Lf.any, Lf.any]) ts34 fun c35 =>
                    asI IntKind.i64 c35.fst fun i36 =>
                    asI IntKind.i64 c35.snd.fst fun i37 =>
                    asB c35.snd.snd.fst fun b38 =>
                    brK (!b38)
                      (some (D.bool false))
                      (brK (i36 != i29)
                        (some (D.bool false))
                        (brK (i37 != i24)
                          (some (D.bool false))
                          (bindK (F_place_Back   [D.agg [D.int IntKind.i64 i20, D.int IntKind.i64 i21, D.int IntKind.i64 i22], D.int IntKind.i64 i29,     D.int IntKind.i64 i24]) fun r39 =>
                          asTup r39 fun ts40 =>
                          getCells ([Lf.any, Lf.any, Lf.any]) ts40 fun c41 =>
                          asI IntKind.i64 c41.fst fun i42 =>
                          asI IntKind.i64 c41.snd.fst fun i43 =>
                          asB c41.snd.snd.fst fun b44 =>
                          brK (!b44)
                            (some (D.bool false))
                            (brK (i42 != (0 : Int))
                              (some (D.bool false))
                              (sif ((0 : Int) ≤ i27) <|
                              sif (Int.toNat i27 < List.length l26) <|
                              getK l26 ((0 : Nat) + Int.toNat i27) fun d45 =>
                              asI IntKind.i64 d45 fun i46 =>
                              brK (i43 != i46)
                                (some (D.bool false))
                                (letN (IntKind.wrap IntKind.i64 (i27 + (1 : Int))) fun n47 =>
                                sif (List.length l26 = List.length l26) <|
                                again19 ((((i20, i21, i22, PUnit.unit), i23, i24, setD i29 (D.bool true) l25, l26, n47, PUnit.unit), PUnit.unit))))))))))))
              (brK ((↑(List.length l25) : Int) != i21)
                (some (D.bool false))
                (bindK (F_place_Disk   [D.agg [D.int IntKind.i64 i20, D.int IntKind.i64 i21, D.int IntKind.i64 i22], D.int IntKind.i64 i24,     D.int IntKind.i64 i23]) fun r48 =>
                asI IntKind.i64 r48 fun i49 =>
                brK (i49 != (-1 : Int))
                  (some (D.bool false))
                  (letN (IntKind.wrap IntKind.i64 (i24 + (1 : Int))) fun n50 =>
                  again6 ((((i20, i21, i22, PUnit.unit), i23, n50, PUnit.unit), PUnit.unit))))))
            ((((i7, i8, i9, PUnit.unit), i10, i11, setD i16 (D.bool true) (setD i15 (D.bool true) []), l18, (0 : Int), PUnit.unit),   PUnit.unit))))
        (bindK (F_place_Numbers [D.agg [D.int IntKind.i64 i7, D.int IntKind.i64 i8, D.int IntKind.i64 i9], D.int IntKind.i64 i11]) fun r51 =>
        asOwn r51 fun l52 =>
        sif ((0 : Nat) + List.length l52 ≤ List.length l52) <|
        brK ((↑(List.length l52) : Int) != i10)
          (some (D.bool false))
          (sif (List.length l52 = List.length l52) <|
          loopN (α := ((Int × Int × Int × PUnit) × Int × Int × List (Int × D) × List D × Int × PUnit) × PUnit) (fun again53 (((i54, (i55, (i56, _))), (i57, (i58, (l59, (l60, (i61, _)))))), _) =>
            brK (decide (i61 < i57))
              (bindK (F_place_Disk   [D.agg [D.int IntKind.i64 i54, D.int IntKind.i64 i55, D.int IntKind.i64 i56], D.int IntKind.i64 i58,     D.int IntKind.i64 i61]) fun r62 =>
              asI IntKind.i64 r62 fun i63 =>
              brK (decide (i63 < (0 : Int)))
                (some (D.bool false))
                (brK (decide (i63 ≥ i55))
                  (some (D.bool false))
                  (asB (lookD i63 (D.bool false) l59) fun b64 =>
                  brK b64
                    (some (D.bool false))
                    (sif ((0 : Int) ≤ i61) <|
                    sif (Int.toNat i61 < List.length l60) <|
                    getK l60 ((0 : Nat) + Int.toNat i61) fun d65 =>
                    asI IntKind.i64 d65 fun i66 =>
                    bindK (F_place_Of [D.agg [D.int IntKind.i64 i54, D.int IntKind.i64 i55, D.int IntKind.i64 i56], D.int IntKind.i64 i66]) fun r67 =>
                    asTup r67 fun ts68 =>
                    getCells ([Lf.any, Lf.any, Lf.any]) ts68 fun c69 =>
                    asI IntKind.i64 c69.fst fun i70 =>
                    asI IntKind.i64 c69.snd.fst fun i71 =>
                    asB c69.snd.snd.fst fun b72 =>
                    brK (!b72)
                      (some (D.bool false))
                      (brK (i70 != i63)
                        (some (D.bool false))
                        (brK (i71 != i58)
                          (some (D.bool false))
                          (bindK (F_place_Back   [D.agg [D.int IntKind.i64 i54, D.int IntKind.i64 i55, D.int IntKind.i64 i56], D.int IntKind.i64 i63,     D.int IntKind.i64 i58]) fun r73 =>
                          asTup r73 fun ts74 =>
                          getCells ([Lf.any, Lf.any, Lf.any]) ts74 fun c75 =>
                          asI IntKind.i64 c75.fst fun i76 =>
                          asI IntKind.i64 c75.snd.fst fun i77 =>
                          asB c75.snd.snd.fst fun b78 =>
                          brK (!b78)
                            (some (D.bool false))
                            (brK (i76 != (0 : Int))
                              (some (D.bool false))
                              (sif ((0 : Int) ≤ i61) <|
                              sif (Int.toNat i61 < List.length l60) <|
                              getK l60 ((0 : Nat) + Int.toNat i61) fun d79 =>
                              asI IntKind.i64 d79 fun i80 =>
                              brK (i77 != i80)
                                (some (D.bool false))
                                (letN (IntKind.wrap IntKind.i64 (i61 + (1 : Int))) fun n81 =>
                                sif (List.length l60 = List.length l60) <|
                                again53 ((((i54, i55, i56, PUnit.unit), i57, i58, setD i63 (D.bool true) l59, l60, n81, PUnit.unit), PUnit.unit))))))))))))
              (brK ((↑(List.length l59) : Int) != i55)
                (some (D.bool false))
                (bindK (F_place_Disk   [D.agg [D.int IntKind.i64 i54, D.int IntKind.i64 i55, D.int IntKind.i64 i56], D.int IntKind.i64 i58,     D.int IntKind.i64 i57]) fun r82 =>
                asI IntKind.i64 r82 fun i83 =>
                brK (i83 != (-1 : Int))
                  (some (D.bool false))
                  (letN (IntKind.wrap IntKind.i64 (i58 + (1 : Int))) fun n84 =>
                  again6 ((((i54, i55, i56, PUnit.unit), i57, n84, PUnit.unit), PUnit.unit))))))
            ((((i7, i8, i9, PUnit.unit), i10, i11, setD i15 (D.bool true) [], l52, (0 : Int), PUnit.unit), PUnit.unit)))))
      (bindK (F_wattlelaw08_wakes []) fun r85 =>
      asB r85 fun b86 =>
      some (D.bool b86)))
    ((((c3.fst, c3.snd.fst, c3.snd.snd.fst, PUnit.unit), n5, (0 : Int), PUnit.unit), PUnit.unit))
theorem G_wattlelaw08_PlaceRows (F_wattleplay_Good : List D → Option D) (F_place_Parity : List D → Option D) (F_place_Numbers : List D → Option D) (F_place_Disk : List D → Option D) (F_place_Of : List D → Option D) (F_place_Back : List D → Option D) (F_wattlelaw08_wakes : List D → Option D) (a0 : Int) : denP Try.prog (penv' [(ID.wattleplay_Good, [0], F_wattleplay_Good), (ID.place_Parity, [0, 0], F_place_Parity), (ID.place_Numbers, [1], F_place_Numbers), (ID.place_Disk, [0], F_place_Disk), (ID.place_Of, [0, 0, 0], F_place_Of), (ID.place_Back, [0, 0, 0], F_place_Back), (ID.wattlelaw08_wakes, [0], F_wattlelaw08_wakes)]) ann_wattlelaw08_PlaceRows [0] ID.wattlelaw08_PlaceRows [.int .i64 a0] = g_wattlelaw08_PlaceRows F_wattleplay_Good F_place_Parity F_place_Numbers F_place_Disk F_place_Of F_place_Back F_wattlelaw08_wakes a0 := by kernel_rfl
theorem F_wattlelaw08_PlaceRows_eq (a0 : Int) : F_wattlelaw08_PlaceRows [.int .i64 a0] = g_wattlelaw08_PlaceRows F_wattleplay_Good F_place_Parity F_place_Numbers F_place_Disk F_place_Of F_place_Back F_wattlelaw08_wakes a0 := G_wattlelaw08_PlaceRows F_wattleplay_Good F_place_Parity F_place_Numbers F_place_Disk F_place_Of F_place_Back F_wattlelaw08_wakes a0
end Wf

/-
  Each row has all disks, each once.
-/
namespace Wf
open Go Go.RowKit Go.Proofs
set_option linter.unusedSimpArgs false
set_option linter.unusedVariables false

/-- What a row's map of disks is behind `k` data chunks. -/
def HadP (g : Geo) (row : Int) (k : Nat) (es : List (Int × D)) : Prop :=
  (es.length : Int) = g.l - 4 + k ∧ ∀ m, m ≠ (parP g row).1 → m ≠ (parP g row).2 → (∀ j : Nat, j < k → m ≠ diskP g row j) → findD m es = none
theorem HadP.step {g : Geo} {row : Int} {k : Nat} {es : List (Int × D)} (h : HadP g row k es) : HadP g row (k + 1) (es ++ [(diskP g row k, D.bool true)]) := by
  refine ⟨by have := h.1; simp; omega, fun m m1 m2 m3 => ?_⟩
  rw [findD_append, h.2 m m1 m2 (fun j hj => m3 j (by omega)), if_neg (m3 k (by omega))]
  simp
theorem par_two {g : Geo} {row : Int} (h : fineP g row = true) (h6 : g.l = 6) : (parP g row).1 ≠ (parP g row).2 := by
  have hk := (fine_iff.1 h).1
  have hp := par_in hk row
  have hl := ok_iff.1 hk
  unfold parP
  rw [if_pos h]
  simp only [h6]
  simp
  generalize parA g row = p at *
  have hdc : g.d = 3 ∨ g.d = 4 ∨ g.d = 5 ∨ g.d = 6 ∨ g.d = 7 ∨ g.d = 8 := by omega
  generalize g.d = d at *
  rcases hdc with rfl | rfl | rfl | rfl | rfl | rfl <;> omega
theorem had5 {g : Geo} {row : Int} (h5 : g.l = 5) : HadP g row 0 (setD (parP g row).1 (D.bool true) []) :=
  ⟨by simp [setD, h5], fun m m1 _ _ => by simp [setD, findD, m1]⟩
theorem had6 {g : Geo} {row : Int} (h : fineP g row = true) (h6 : g.l = 6) : HadP g row 0 (setD (parP g row).2 (D.bool true) (setD (parP g row).1 (D.bool true) [])) := by
  have := par_two h h6
  exact ⟨by simp [setD, h6, this.symm], fun m m1 m2 _ => by simp [setD, findD, m1, m2, this.symm]⟩

set_option maxHeartbeats 4000000 in
theorem placeRows (n : Int) : F_wattlelaw08_PlaceRows [.int .i64 n] = some (.bool true) := by
  rw [F_wattlelaw08_PlaceRows_eq]
  unfold g_wattlelaw08_PlaceRows
  have hk := good_valid n
  rw [good_play]
  generalize goodOf n = g at *
  have hpar := fun row => par_place g row
  have hdk := fun row k => disk_place g row k
  have hnm := fun row => nums_place g row
  have hofs := fun a => of_place g a
  have hback := fun disk row => back_place g disk row
  unfold Geo.D at *
  have hl := ok_iff.1 hk
  have hw := width_ok hk
  have hwd := width_of hk
  have w1 : IntKind.i64.wrap (g.d - g.l) = g.d - g.l := wrap_fit (by omega) (by omega)
  have w2 : IntKind.i64.wrap (g.d - g.l + 4) = g.width := by rw [wrap_fit (by omega) (by omega)]; omega
  simp only [bindK_some_eq, asAgg_agg, getCells_int, getCells_nil, letN_eq', w1, w2]
  refine loopN_spec (fun a => (16 - a.1.2.2.1).toNat) (fun _ => some (D.bool true)) (fun a => ∃ row : Int, 0 ≤ row ∧ row ≤ 16 ∧
    a = (((g.l, g.d, g.c, PUnit.unit), g.width, row, PUnit.unit), PUnit.unit)) ?_ ⟨0, by omega, by omega, rfl⟩ ?_
  rotate_left
  · simp
  rintro again _ ⟨row, r0, r1, rfl⟩ ih
  dsimp only
  by_cases hr : row < 16
  · have ihr := ih _ ⟨row + 1, by omega, by omega, rfl⟩ (by dsimp only; omega)
    have wrow : IntKind.i64.wrap (row + 1) = row + 1 := wrap_fit (by omega) (by omega)
    have hf : fineP g row = true := fine_iff.2 ⟨hk, r0, hr⟩
    have hns : numsD g row = numD g row g.width.toNat := by unfold numsD; rw [if_pos hf]
    have hend : diskP g row g.width = -1 := by unfold diskP; rw [if_neg (by omega)]
    have hwn : ((g.width.toNat : Nat) : Int) = g.width := by omega
    have hl5 : g.l = 5 ∨ g.l = 6 := by omega
    simp only [hr, decide_true, brK_eq, if_true, hpar, hnm, hns, bindK_some_eq, iD, asTup_tup, getCells_any, getCells_nil, asI_int, asOwn_own, numD_len, hwn, bne_self_eq_false, Bool.false_eq_true, if_false]
    rcases hl5 with h5 | h6
    · simp only [show (g.l == (6 : Int)) = false by simp [h5], Bool.false_eq_true, if_false]
      rw [sif_pos (by omega)]
      refine loopN_spec (fun a => (g.width - a.1.2.2.2.2.2.1).toNat) (fun _ => some (D.bool true)) (fun a => ∃ (k : Nat) (es : List (Int × D)), (k : Int) ≤ g.width ∧ HadP g row k es ∧
        a = (((g.l, g.d, g.c, PUnit.unit), g.width, row, es, numD g row g.width.toNat, (k : Int), PUnit.unit), PUnit.unit)) ?_ ⟨0, _, by omega, had5 h5, rfl⟩ ?_
      rotate_left
      · simp; omega
      rintro again2 _ ⟨k, es, k1, hes, rfl⟩ ih2
      dsimp only
      by_cases hkw : (k : Int) < g.width
      · have wk : IntKind.i64.wrap ((k : Int) + 1) = (k : Int) + 1 := wrap_fit (by omega) (by omega)
        have hdi := disk_in hf (show 0 ≤ (k : Int) by omega) hkw
        have hdp := disk_par hf (show 0 ≤ (k : Int) by omega) hkw
        have hnew : findD (diskP g row k) es = none := hes.2 _ hdp.1 hdp.2 (fun j hj e => by have := disk_once hf (by omega) hkw (by omega) (by omega) e; omega)
        have hlook : lookD (diskP g row k) (D.bool false) es = D.bool false := by unfold lookD; rw [hnew]; rfl
        have hof := of_num hf (show 0 ≤ (k : Int) by omega) hkw
        have hbk := back_num hf (show 0 ≤ (k : Int) by omega) hkw
        have hget := numD_get g row g.width.toNat (i := k) (by omega)
        have := ih2 _ ⟨k + 1, es ++ [(diskP g row k, D.bool true)], by omega, hes.step, rfl⟩ (by dsimp only; omega)
        simp only [hkw, decide_true, brK_eq, if_true, hdk, bindK_some_eq, iD, asI_int, show ¬ diskP g row k < 0 by omega, show ¬ diskP g row k ≥ g.d by omega, decide_false, Bool.false_eq_true, if_false, hlook, asB_bool, Int.toNat_natCast, Nat.zero_add, numD_len]
        rw [sif_pos (by omega), sif_pos (by omega), getK_of hget]
        simp only [iD, asI_int, hofs, hof, ofD, bindK_some_eq, asTup_tup, getCells_any, getCells_nil, asB_bool, Bool.not_true, Bool.false_eq_true, if_false, bne_self_eq_false, hback, hbk, letN_eq', wk, setD_new hnew]
        rw [sif_pos (by omega), sif_pos (by omega), getK_of hget]
        simp only [iD, asI_int, bne_self_eq_false, Bool.false_eq_true, if_false, letN_eq', wk]
        rw [sif_pos trivial]
        exact this
      · have hlen : ((es.length : Nat) : Int) = g.d := by have := hes.1; rw [width_of hk] at *; omega
        simp only [hkw, decide_false, brK_eq, Bool.false_eq_true, if_false, hlen, bne_self_eq_false, hdk, hend, bindK_some_eq, iD, asI_int, letN_eq', wrow]
        exact ihr
    · simp only [show (g.l == (6 : Int)) = true by simp [h6], if_true]
      rw [sif_pos (by omega)]
      refine loopN_spec (fun a => (g.width - a.1.2.2.2.2.2.1).toNat) (fun _ => some (D.bool true)) (fun a => ∃ (k : Nat) (es : List (Int × D)), (k : Int) ≤ g.width ∧ HadP g row k es ∧
        a = (((g.l, g.d, g.c, PUnit.unit), g.width, row, es, numD g row g.width.toNat, (k : Int), PUnit.unit), PUnit.unit)) ?_ ⟨0, _, by omega, had6 hf h6, rfl⟩ ?_
      rotate_left
      · simp; omega
      rintro again2 _ ⟨k, es, k1, hes, rfl⟩ ih2
      dsimp only
      by_cases hkw : (k : Int) < g.width
      · have wk : IntKind.i64.wrap ((k : Int) + 1) = (k : Int) + 1 := wrap_fit (by omega) (by omega)
        have hdi := disk_in hf (show 0 ≤ (k : Int) by omega) hkw
        have hdp := disk_par hf (show 0 ≤ (k : Int) by omega) hkw
        have hnew : findD (diskP g row k) es = none := hes.2 _ hdp.1 hdp.2 (fun j hj e => by have := disk_once hf (by omega) hkw (by omega) (by omega) e; omega)
        have hlook : lookD (diskP g row k) (D.bool false) es = D.bool false := by unfold lookD; rw [hnew]; rfl
        have hof := of_num hf (show 0 ≤ (k : Int) by omega) hkw
        have hbk := back_num hf (show 0 ≤ (k : Int) by omega) hkw
        have hget := numD_get g row g.width.toNat (i := k) (by omega)
        have := ih2 _ ⟨k + 1, es ++ [(diskP g row k, D.bool true)], by omega, hes.step, rfl⟩ (by dsimp only; omega)
        simp only [hkw, decide_true, brK_eq, if_true, hdk, bindK_some_eq, iD, asI_int, show ¬ diskP g row k < 0 by omega, show ¬ diskP g row k ≥ g.d by omega, decide_false, Bool.false_eq_true, if_false, hlook, asB_bool, Int.toNat_natCast, Nat.zero_add, numD_len]
        rw [sif_pos (by omega), sif_pos (by omega), getK_of hget]
        simp only [iD, asI_int, hofs, hof, ofD, bindK_some_eq, asTup_tup, getCells_any, getCells_nil, asB_bool, Bool.not_true, Bool.false_eq_true, if_false, bne_self_eq_false, hback, hbk, letN_eq', wk, setD_new hnew]
        rw [sif_pos (by omega), sif_pos (by omega), getK_of hget]
        simp only [iD, asI_int, bne_self_eq_false, Bool.false_eq_true, if_false, letN_eq', wk]
        rw [sif_pos trivial]
        exact this
      · have hlen : ((es.length : Nat) : Int) = g.d := by have := hes.1; rw [width_of hk] at *; omega
        simp only [hkw, decide_false, brK_eq, Bool.false_eq_true, if_false, hlen, bne_self_eq_false, hdk, hend, bindK_some_eq, iD, asI_int, letN_eq', wrow]
        exact ihr
  · simp [hr, wakes08]
end Wf

