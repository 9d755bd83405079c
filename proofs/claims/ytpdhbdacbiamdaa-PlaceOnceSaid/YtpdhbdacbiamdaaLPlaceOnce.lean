/-
  A law's function, read off.
-/
import Derived.Test.YtpdhbdacbiamdaaX
import Derived.Test.YtpdhbdacbiamdaaY8
set_option linter.unusedVariables false
set_option linter.unusedSimpArgs false
set_option linter.unnecessarySimpa false
namespace Wf
open Go Go.RowKit Go.Proofs
def ann_wattlelaw08_PlaceOnce : Ann := [(0, [.dead, .dead, .dead, .box true [(.int .i64), (.int .i64), (.int .i64)], .map .pair, .val (.cell (.int .i64)), .val (.cell (.int .i64))]), (4, [.dead, .dead, .dead, .box true [(.int .i64), (.int .i64), (.int .i64)], .map .pair, .val (.cell (.int .i64)), .dead, .dead, .dead, .dead, .dead, .dead, .val (.cell (.int .i64))])]
noncomputable def F_wattlelaw08_PlaceOnce : List D → Option D := denP Try.prog (penv' [(ID.wattleplay_Good, [0], F_wattleplay_Good), (ID.place_Of, [0, 0, 0], F_place_Of), (ID.place_Back, [0, 0, 0], F_place_Back), (ID.place_Parity, [0, 0], F_place_Parity), (ID.wattlelaw08_wakes, [0], F_wattlelaw08_wakes)]) ann_wattlelaw08_PlaceOnce [0] ID.wattlelaw08_PlaceOnce
theorem sound_wattlelaw08_PlaceOnce : SoundP Try.prog ID.wattlelaw08_PlaceOnce [0] F_wattlelaw08_PlaceOnce := denP_sound (penv_ok [fact_wattleplay_Good, fact_place_Of, fact_place_Back, fact_place_Parity, fact_wattlelaw08_wakes]) mixed ⟨Try.f12, by kernel_rfl, by kernel_rfl, by kernel_rfl⟩
noncomputable def fact_wattlelaw08_PlaceOnce : Fact Try.prog := ⟨ID.wattlelaw08_PlaceOnce, [0], F_wattlelaw08_PlaceOnce, sound_wattlelaw08_PlaceOnce⟩
noncomputable def g_wattlelaw08_PlaceOnce (F_wattleplay_Good : List D → Option D) (F_place_Of : List D → Option D) (F_place_Back : List D → Option D) (F_place_Parity : List D → Option D) (F_wattlelaw08_wakes : List D → Option D) (a0 : Int) : Option D :=
  bindK (F_wattleplay_Good [D.int IntKind.i64 a0]) fun r1 =>
  asAgg r1 fun cs2 =>
  getCells ([Lf.int IntKind.i64, Lf.int IntKind.i64, Lf.int IntKind.i64]) cs2 fun c3 =>
  letN (IntKind.wrap IntKind.i64 (c3.snd.fst - c3.fst)) fun n4 =>
  letN (IntKind.wrap IntKind.i64 (n4 + (4 : Int))) fun n5 =>
  letN (IntKind.wrap IntKind.i64 (n5 * (16 : Int))) fun n6 =>
  loopN (α := ((Int × Int × Int × PUnit) × List (Int × D) × Int × Int × PUnit) × PUnit) (fun again7 (((i8, (i9, (i10, _))), (l11, (i12, (i13, _)))), _) =>
    brK (decide (i13 < i12))
      (bindK (F_place_Of [D.agg [D.int IntKind.i64 i8, D.int IntKind.i64 i9, D.int IntKind.i64 i10], D.int IntKind.i64 i13]) fun r14 =>
      asTup r14 fun ts15 =>
      getCells ([Lf.any, Lf.any, Lf.any]) ts15 fun c16 =>
      asI IntKind.i64 c16.fst fun i17 =>
      asI IntKind.i64 c16.snd.fst fun i18 =>
      asB c16.snd.snd.fst fun b19 =>
      brK (!b19)
        (some (D.bool false))
        (brK (decide (i17 < (0 : Int)))
          (some (D.bool false))
          (brK (decide (i17 ≥ i9))
            (some (D.bool false))
            (brK (decide (i18 < (0 : Int)))
              (some (D.bool false))
              (brK (decide (i18 ≥ (16 : Int)))
                (some (D.bool false))
                (asB (lookD (pairKey i17 i18) (D.bool false) l11) fun b20 =>
                brK b20
                  (some (D.bool false))
                  (bindK (F_place_Back   [D.agg [D.int IntKind.i64 i8, D.int IntKind.i64 i9, D.int IntKind.i64 i10], D.int IntKind.i64 i17,     D.int IntKind.i64 i18]) fun r21 =>
                  asTup r21 fun ts22 =>
                  getCells ([Lf.any, Lf.any, Lf.any]) ts22 fun c23 =>
                  asI IntKind.i64 c23.fst fun i24 =>
                  asI IntKind.i64 c23.snd.fst fun i25 =>
                  asB c23.snd.snd.fst fun b26 =>
                  brK (!b26)
                    (some (D.bool false))
                    (brK (i24 != (0 : Int))
                      (some (D.bool false))
                      (brK (i25 != i13)
                        (some (D.bool false))
                        (letN (IntKind.wrap IntKind.i64 (i13 + (1 : Int))) fun n27 =>
                        again7 ((((i8, i9, i10, PUnit.unit), setD (pairKey i17 i18) (D.bool true) l11, i12, n27, PUnit.unit), PUnit.unit))))))))))))
      (loopN (α := ((Int × Int × Int × PUnit) × List (Int × D) × Int × Int × PUnit) × PUnit) (fun again28 (((i29, (i30, (i31, _))), (l32, (i33, (i34, _)))), _) =>
        brK (decide (i34 < (16 : Int)))
          (bindK (F_place_Parity [D.agg [D.int IntKind.i64 i29, D.int IntKind.i64 i30, D.int IntKind.i64 i31], D.int IntKind.i64 i34]) fun r35 =>
          asTup r35 fun ts36 =>
          getCells ([Lf.any, Lf.any]) ts36 fun c37 =>
          asI IntKind.i64 c37.fst fun i38 =>
          asI IntKind.i64 c37.snd.fst fun i39 =>
          brK (decide (i38 < (0 : Int)))
            (some (D.bool false))
            (brK (decide (i38 ≥ i30))
              (some (D.bool false))
              (asB (lookD (pairKey i38 i34) (D.bool false) l32) fun b40 =>
              brK b40
                (some (D.bool false))
                (brK (i29 == (5 : Int))
                  (brK (i39 != (-1 : Int))
                    (some (D.bool false))
                    (brK (i29 == (6 : Int))
                      (brK (decide (i39 < (0 : Int)))
                        (some (D.bool false))
                        (brK (decide (i39 ≥ i30))
                          (some (D.bool false))
                          (brK (i39 == i38)
                            (some (D.bool false))
                            (asB (lookD (pairKey i39 i34) (D.bool false) l32) fun b41 =>
                            brK b41
                              (some (D.bool false))
                              (bindK (F_place_Back   [D.agg [D.int IntKind.i64 i29, D.int IntKind.i64 i30, D.int IntKind.i64 i31], D.int IntKind.i64 i38,     D.int IntKind.i64 i34]) fun r42 =>
                              asTup r42 fun ts43 =>
                              getCells ([Lf.any, Lf.any, Lf.any]) ts43 fun c44 =>
                              asI IntKind.i64 c44.fst fun i45 =>
                              asI IntKind.i64 c44.snd.fst fun i46 =>
                              asB c44.snd.snd.fst fun b47 =>
                              brK (!b47)
                                (some (D.bool false))
                                (brK (i45 != (1 : Int))
                                  (some (D.bool false))
                                  (letN (IntKind.wrap IntKind.i64 (i34 + (1 : Int))) fun n48 =>
                                  again28 ((((i29, i30, i31, PUnit.unit), l32, i33, n48, PUnit.unit), PUnit.unit)))))))))
                      (bindK (F_place_Back   [D.agg [D.int IntKind.i64 i29, D.int IntKind.i64 i30, D.int IntKind.i64 i31], D.int IntKind.i64 i38,     D.int IntKind.i64 i34]) fun r49 =>
                      asTup r49 fun ts50 =>
                      getCells ([Lf.any, Lf.any, Lf.any]) ts50 fun c51 =>
                      asI IntKind.i64 c51.fst fun i52 =>
                      asI IntKind.i64 c51.snd.fst fun i53 =>
                      asB c51.snd.snd.fst fun b54 =>
                      brK (!b54)
                        (some (D.bool false))
                        (brK (i52 != (1 : Int))
                          (some (D.bool false))
                          (letN (IntKind.wrap IntKind.i64 (i34 + (1 : Int))) fun n55 =>
                          again28 ((((i29, i30, i31, PUnit.unit), l32, i33, n55, PUnit.unit), PUnit.unit)))))))
                  (brK (i29 == (6 : Int))
                    (brK (decide (i39 < (0 : Int)))
                      (some (D.bool false))
                      (brK (decide (i39 ≥ i30))
                        (some (D.bool false))
                        (brK (i39 == i38)
                          (some (D.bool false))
                          (asB (lookD (pairKey i39 i34) (D.bool false) l32) fun b56 =>
                          brK b56
                            (some (D.bool false))
                            (bindK (F_place_Back   [D.agg [D.int IntKind.i64 i29, D.int IntKind.i64 i30, D.int IntKind.i64 i31], D.int IntKind.i64 i38,     D.int IntKind.i64 i34]) fun r57 =>
                            asTup r57 fun ts58 =>
                            getCells ([Lf.any, Lf.any, Lf.any]) ts58 fun c59 =>
                            asI IntKind.i64 c59.fst fun i60 =>
                            asI IntKind.i64 c59.snd.fst fun i61 =>
                            asB c59.snd.snd.fst fun b62 =>
                            brK (!b62)
                              (some (D.bool false))
                              (brK (i60 != (1 : Int))
                                (some (D.bool false))
                                (letN (IntKind.wrap IntKind.i64 (i34 + (1 : Int))) fun n63 =>
                                again28 ((((i29, i30, i31, PUnit.unit), l32, i33, n63, PUnit.unit), PUnit.unit)))))))))
                    (bindK (F_place_Back   [D.agg [D.int IntKind.i64 i29, D.int IntKind.i64 i30, D.int IntKind.i64 i31], D.int IntKind.i64 i38,     D.int IntKind.i64 i34]) fun r64 =>
                    asTup r64 fun ts65 =>
                    getCells ([Lf.any, Lf.any, Lf.any]) ts65 fun c66 =>
                    asI IntKind.i64 c66.fst fun i67 =>
                    asI IntKind.i64 c66.snd.fst fun i68 =>
                    asB c66.snd.snd.fst fun b69 =>
                    brK (!b69)
                      (some (D.bool false))
                      (brK (i67 != (1 : Int))
                        (some (D.bool false))
                        (letN (IntKind.wrap IntKind.i64 (i34 + (1 : Int))) fun n70 =>
                        again28 ((((i29, i30, i31, PUnit.unit), l32, i33, n70, PUnit.unit), PUnit.unit))))))))))
          (bindK (F_place_Of [D.agg [D.int IntKind.i64 i29, D.int IntKind.i64 i30, D.int IntKind.i64 i31], D.int IntKind.i64 i33]) fun r71 =>
          asTup r71 fun ts72 =>
          getCells ([Lf.any, Lf.any, Lf.any]) ts72 fun c73 =>
          asI IntKind.i64 c73.fst fun i74 =>
          asI IntKind.i64 c73.snd.fst fun i75 =>
          asB c73.snd.snd.fst fun b76 =>
          brK (!b76)
            (bindK (F_wattlelaw08_wakes []) fun r77 =>
            asB r77 fun b78 =>
            some (D.bool b78))
            (some (D.bool false))))
        ((((i8, i9, i10, PUnit.unit), l11, i12, (0 : Int), PUnit.unit), PUnit.unit))))
    ((((c3.fst, c3.snd.fst, c3.snd.snd.fst, PUnit.unit), [], n6, (0 : Int), PUnit.unit), PUnit.unit))
theorem G_wattlelaw08_PlaceOnce (F_wattleplay_Good : List D → Option D) (F_place_Of : List D → Option D) (F_place_Back : List D → Option D) (F_place_Parity : List D → Option D) (F_wattlelaw08_wakes : List D → Option D) (a0 : Int) : denP Try.prog (penv' [(ID.wattleplay_Good, [0], F_wattleplay_Good), (ID.place_Of, [0, 0, 0], F_place_Of), (ID.place_Back, [0, 0, 0], F_place_Back), (ID.place_Parity, [0, 0], F_place_Parity), (ID.wattlelaw08_wakes, [0], F_wattlelaw08_wakes)]) ann_wattlelaw08_PlaceOnce [0] ID.wattlelaw08_PlaceOnce [.int .i64 a0] = g_wattlelaw08_PlaceOnce F_wattleplay_Good F_place_Of F_place_Back F_place_Parity F_wattlelaw08_wakes a0 := by kernel_rfl
theorem F_wattlelaw08_PlaceOnce_eq (a0 : Int) : F_wattlelaw08_PlaceOnce [.int .i64 a0] = g_wattlelaw08_PlaceOnce F_wattleplay_Good F_place_Of F_place_Back F_place_Parity F_wattlelaw08_wakes a0 := G_wattlelaw08_PlaceOnce F_wattleplay_Good F_place_Of F_place_Back F_place_Parity F_wattlelaw08_wakes a0
end Wf

/-
  Each sector has one place, each place of data one sector.
-/
namespace Wf
open Go Go.RowKit Go.Proofs
set_option linter.unusedSimpArgs false
set_option linter.unusedVariables false

/-- What the map of places is behind the first `i` sectors. -/
def OnceP (g : Geo) (i : Int) (es : List (Int × D)) : Prop :=
  ∀ d row : Int, (∀ j, 0 ≤ j → j < i → ¬ (d = diskP g (rowOf g j) (colOf g j) ∧ row = rowOf g j)) → findD (pairKey d row) es = none
theorem OnceP.step {g : Geo} {i : Int} {es : List (Int × D)} (h0 : 0 ≤ i) (h : OnceP g i es) : OnceP g (i + 1) (es ++ [(pairKey (diskP g (rowOf g i) (colOf g i)) (rowOf g i), D.bool true)]) := by
  intro d row hj
  rw [findD_append, h d row (fun j j0 j1 => hj j j0 (by omega)), if_neg (by simp), if_neg]
  intro e
  exact hj i h0 (by omega) ((pairKey_inj ..).1 e)
theorem back_par {g : Geo} {row : Int} (h : fineP g row = true) : backP g (parA g row) row = (1, 0, true) := by
  have hk := (fine_iff.1 h).1
  have hp := par_in hk row
  unfold backP parP
  rw [if_pos ⟨h, hp.1, hp.2⟩, if_pos h, if_pos rfl]
theorem par_two {g : Geo} {row : Int} (hk : g.ok = true) (h6 : g.l = 6) : 0 ≤ (parA g row + 1) % g.d ∧ (parA g row + 1) % g.d < g.d ∧ (parA g row + 1) % g.d ≠ parA g row := by
  have hp := par_in hk row
  have hl := ok_iff.1 hk
  have hm := mod_d hk (parA g row + 1)
  refine ⟨hm.1, hm.2, ?_⟩
  generalize parA g row = p at *
  have hdc : g.d = 3 ∨ g.d = 4 ∨ g.d = 5 ∨ g.d = 6 ∨ g.d = 7 ∨ g.d = 8 := by omega
  generalize g.d = d at *
  rcases hdc with rfl | rfl | rfl | rfl | rfl | rfl <;> omega

set_option maxHeartbeats 4000000 in
theorem placeOnce (n : Int) : F_wattlelaw08_PlaceOnce [.int .i64 n] = some (.bool true) := by
  rw [F_wattlelaw08_PlaceOnce_eq]
  unfold g_wattlelaw08_PlaceOnce
  have hk := good_valid n
  rw [good_play]
  generalize goodOf n = g at *
  have hpar := fun row => par_place g row
  have hofs := fun a => of_place g a
  have hback := fun disk row => back_place g disk row
  unfold Geo.D at *
  have hl := ok_iff.1 hk
  have hw := width_ok hk
  have hwd := width_of hk
  have hcap : g.cap = g.width * 16 := rfl
  have w1 : IntKind.i64.wrap (g.d - g.l) = g.d - g.l := wrap_fit (by omega) (by omega)
  have w2 : IntKind.i64.wrap (g.d - g.l + 4) = g.width := by rw [wrap_fit (by omega) (by omega)]; omega
  have w3 : IntKind.i64.wrap (g.width * 16) = g.cap := wrap_fit (by omega) (by omega)
  simp only [bindK_some_eq, asAgg_agg, getCells_int, getCells_nil, letN_eq', w1, w2, w3]
  refine loopN_spec (fun a => (200 - a.1.2.2.2.1).toNat) (fun _ => some (D.bool true)) (fun a => ∃ (i : Int) (es : List (Int × D)), 0 ≤ i ∧ i ≤ g.cap ∧ OnceP g i es ∧
    a = (((g.l, g.d, g.c, PUnit.unit), es, g.cap, i, PUnit.unit), PUnit.unit)) ?_ ⟨0, [], by omega, by omega, fun _ _ _ => rfl, rfl⟩ ?_
  rotate_left
  · simp
  rintro again _ ⟨i, es, i0, i1, hes, rfl⟩ ih
  dsimp only
  by_cases hi : i < g.cap
  · obtain ⟨hf, c0, c1, hn⟩ := num_place i0 hi
    obtain ⟨d0, d1⟩ := disk_in hf c0 c1
    have hr := row_fine i0 hi
    have hof : ofP g i = (diskP g (rowOf g i) (colOf g i), rowOf g i, true) := by unfold ofP; rw [if_pos ⟨i0, hi⟩]
    have hbk : backP g (diskP g (rowOf g i) (colOf g i)) (rowOf g i) = (0, i, true) := by rw [back_num hf c0 c1, hn]
    have hnew : findD (pairKey (diskP g (rowOf g i) (colOf g i)) (rowOf g i)) es = none := hes _ _ (fun j j0 j1 e => by
      have := place_once i0 hi j0 (by omega) e.2 e.1; omega)
    have hlook : lookD (pairKey (diskP g (rowOf g i) (colOf g i)) (rowOf g i)) (D.bool false) es = D.bool false := by unfold lookD; rw [hnew]; rfl
    have wi : IntKind.i64.wrap (i + 1) = i + 1 := wrap_fit (by omega) (by omega)
    have := ih _ ⟨i + 1, _, by omega, by omega, hes.step i0, rfl⟩ (by dsimp only; omega)
    simp only [hi, decide_true, brK_eq, if_true, hofs, hof, ofD, bindK_some_eq, iD, asTup_tup, getCells_any, getCells_nil, asI_int, asB_bool, Bool.not_true, Bool.false_eq_true, if_false, show ¬ diskP g (rowOf g i) (colOf g i) < 0 by omega, show ¬ diskP g (rowOf g i) (colOf g i) ≥ g.d by omega, show ¬ rowOf g i < 0 by omega, show ¬ rowOf g i ≥ 16 by omega, decide_false, hlook, hback, hbk, bne_self_eq_false, letN_eq', wi, setD_new hnew]
    exact this
  · have hic : i = g.cap := by omega
    simp only [hi, decide_false, brK_eq, Bool.false_eq_true, if_false]
    refine loopN_spec (fun a => (16 - a.1.2.2.2.1).toNat) (fun _ => some (D.bool true)) (fun a => ∃ row : Int, 0 ≤ row ∧ row ≤ 16 ∧
      a = (((g.l, g.d, g.c, PUnit.unit), es, g.cap, row, PUnit.unit), PUnit.unit)) ?_ ⟨0, by omega, by omega, rfl⟩ ?_
    rotate_left
    · simp
    rintro again2 _ ⟨row, r0, r1, rfl⟩ ih2
    dsimp only
    by_cases hr : row < 16
    · have hf : fineP g row = true := fine_iff.2 ⟨hk, r0, hr⟩
      have hp := par_in hk row
      have hfree : ∀ d, (d = (parP g row).1 ∨ d = (parP g row).2) → findD (pairKey d row) es = none := fun d hd => hes _ _ (fun j j0 j1 e => by
        obtain ⟨f1, f2, f3, _⟩ := num_place j0 (show j < g.cap by omega)
        have := disk_par f1 f2 f3
        rw [← e.2] at this
        rw [← e.2] at e
        rcases hd with h | h
        · exact this.1 (e.1.symm.trans h)
        · exact this.2 (e.1.symm.trans h))
      have hbk := back_par hf
      have wr : IntKind.i64.wrap (row + 1) = row + 1 := wrap_fit (by omega) (by omega)
      have := ih2 _ ⟨row + 1, by omega, by omega, rfl⟩ (by dsimp only; omega)
      have hl5 : g.l = 5 ∨ g.l = 6 := by omega
      rcases hl5 with h5 | h6
      · have hpp : parP g row = (parA g row, -1) := by unfold parP; rw [if_pos hf, if_pos h5]
        have l1 : lookD (pairKey (parA g row) row) (D.bool false) es = D.bool false := by unfold lookD; rw [hfree _ (by rw [hpp]; exact .inl rfl)]; rfl
        simp only [hr, decide_true, if_true, hpar, hpp, bindK_some_eq, iD, asTup_tup, getCells_any, getCells_nil, asI_int, show ¬ parA g row < 0 by omega, show ¬ parA g row ≥ g.d by omega, decide_false, Bool.false_eq_true, if_false, l1, asB_bool,
          show (g.l == (5 : Int)) = true by simp [h5], show (g.l == (6 : Int)) = false by simp [h5], bne_self_eq_false, hback, hbk, ofD, Bool.not_true, letN_eq', wr]
        exact this
      · obtain ⟨q0, q1, q2⟩ := par_two (row := row) hk h6
        have hpp : parP g row = (parA g row, (parA g row + 1) % g.d) := by unfold parP; rw [if_pos hf, if_neg (by omega)]
        have l1 : lookD (pairKey (parA g row) row) (D.bool false) es = D.bool false := by unfold lookD; rw [hfree _ (by rw [hpp]; exact .inl rfl)]; rfl
        have l2 : lookD (pairKey ((parA g row + 1) % g.d) row) (D.bool false) es = D.bool false := by unfold lookD; rw [hfree _ (by rw [hpp]; exact .inr rfl)]; rfl
        simp only [hr, decide_true, if_true, hpar, hpp, bindK_some_eq, iD, asTup_tup, getCells_any, getCells_nil, asI_int, show ¬ parA g row < 0 by omega, show ¬ parA g row ≥ g.d by omega, decide_false, Bool.false_eq_true, if_false, l1, l2, asB_bool,
          show (g.l == (5 : Int)) = false by simp [h6], show (g.l == (6 : Int)) = true by simp [h6], show ¬ (parA g row + 1) % g.d < 0 by omega, show ¬ (parA g row + 1) % g.d ≥ g.d by omega, show ((parA g row + 1) % g.d == parA g row) = false by simp [q2], bne_self_eq_false, hback, hbk, ofD, Bool.not_true, letN_eq', wr]
        exact this
    · have ho : ofP g g.cap = (0, 0, false) := by unfold ofP; rw [if_neg (by omega)]
      simp [hr, hofs, ho, ofD, wakes08]
end Wf

