/-
  A law's function, read off.
-/
import Derived.Test.YtpdhbdacbiamdaaX
import Derived.Test.YtpdhbdacbiamdaaY4
set_option linter.unusedVariables false
set_option linter.unusedSimpArgs false
set_option linter.unnecessarySimpa false
namespace Wf
open Go Go.RowKit Go.Proofs
def ann_wattlelaw18_PlanCovers : Ann := [(0, [.dead, .dead, .dead, .dead, .dead, .box true [(.int .i64), (.int .i64), (.int .i64)], .box true [(.int .i64), (.int .i64), (.int .i64)], .val (.cell (.int .i64)), .val (.cell (.int .i64))]), (2, [.dead, .dead, .dead, .dead, .dead, .box true [(.int .i64), (.int .i64), (.int .i64)], .box true [(.int .i64), (.int .i64), (.int .i64)], .val (.cell (.int .i64)), .val (.cell (.int .i64)), .val (.cell (.int .i64)), .val (.cell (.int .i64))])]
noncomputable def F_wattlelaw18_PlanCovers : List D → Option D := denP Try.prog (penv' [(ID.wattleplay_Pair, [0, 0], F_wattleplay_Pair), (ID.plan_Rows, [0], F_plan_Rows), (ID.plan_Windows, [0], F_plan_Windows), (ID.plan_Cursor, [0], F_plan_Cursor), (ID.wattleref01_Capacity, [0], F_wattleref01_Capacity), (ID.wattleref01_Of, [0, 0, 0], F_wattleref01_Of), (ID.wattlelaw18_wakes, [0], F_wattlelaw18_wakes)]) ann_wattlelaw18_PlanCovers [0] ID.wattlelaw18_PlanCovers
theorem sound_wattlelaw18_PlanCovers : SoundP Try.prog ID.wattlelaw18_PlanCovers [0] F_wattlelaw18_PlanCovers := denP_sound (penv_ok [fact_wattleplay_Pair, fact_plan_Rows, fact_plan_Windows, fact_plan_Cursor, fact_wattleref01_Capacity, fact_wattleref01_Of, fact_wattlelaw18_wakes]) mixed ⟨Try.f6, by kernel_rfl, by kernel_rfl, by kernel_rfl⟩
noncomputable def fact_wattlelaw18_PlanCovers : Fact Try.prog := ⟨ID.wattlelaw18_PlanCovers, [0], F_wattlelaw18_PlanCovers, sound_wattlelaw18_PlanCovers⟩
noncomputable def g_wattlelaw18_PlanCovers (F_wattleplay_Pair : List D → Option D) (F_plan_Rows : List D → Option D) (F_plan_Windows : List D → Option D) (F_plan_Cursor : List D → Option D) (F_wattleref01_Capacity : List D → Option D) (F_wattleref01_Of : List D → Option D) (F_wattlelaw18_wakes : List D → Option D) (a0 : Int) (a1 : Int) : Option D :=
  bindK (F_wattleplay_Pair [D.int IntKind.i64 a0, D.int IntKind.i64 a1]) fun r1 =>
  asTup r1 fun ts2 =>
  getCells ([Lf.any, Lf.any]) ts2 fun c3 =>
  asAgg c3.fst fun cs4 =>
  getCells ([Lf.int IntKind.i64, Lf.int IntKind.i64, Lf.int IntKind.i64]) cs4 fun c5 =>
  asAgg c3.snd.fst fun cs6 =>
  getCells ([Lf.int IntKind.i64, Lf.int IntKind.i64, Lf.int IntKind.i64]) cs6 fun c7 =>
  bindK (F_plan_Rows   [D.agg [D.int IntKind.i64 c5.fst, D.int IntKind.i64 c5.snd.fst, D.int IntKind.i64 c5.snd.snd.fst],     D.agg [D.int IntKind.i64 c7.fst, D.int IntKind.i64 c7.snd.fst, D.int IntKind.i64 c7.snd.snd.fst]]) fun r8 =>
  asI IntKind.i64 r8 fun i9 =>
  loopN (α := ((Int × Int × Int × PUnit) × (Int × Int × Int × PUnit) × Int × Int × PUnit) × PUnit) (fun again10 (((i11, (i12, (i13, _))), ((i14, (i15, (i16, _))), (i17, (i18, _)))), _) =>
    bindK (F_plan_Windows   [D.agg [D.int IntKind.i64 i11, D.int IntKind.i64 i12, D.int IntKind.i64 i13],     D.agg [D.int IntKind.i64 i14, D.int IntKind.i64 i15, D.int IntKind.i64 i16]]) fun r19 =>
    asI IntKind.i64 r19 fun i20 =>
    brK (decide (i18 ≤ i20))
      (bindK (F_plan_Cursor   [D.agg [D.int IntKind.i64 i11, D.int IntKind.i64 i12, D.int IntKind.i64 i13],     D.agg [D.int IntKind.i64 i14, D.int IntKind.i64 i15, D.int IntKind.i64 i16], D.int IntKind.i64 i18]) fun r21 =>
      asI IntKind.i64 r21 fun i22 =>
      loopN (α := ((Int × Int × Int × PUnit) × (Int × Int × Int × PUnit) × Int × Int × Int × Int × PUnit) × PUnit) (fun again23 (((i24, (i25, (i26, _))), ((i27, (i28, (i29, _))), (i30, (i31, (i32, (i33, _)))))), _) =>
        bindK (F_wattleref01_Capacity [D.agg [D.int IntKind.i64 i24, D.int IntKind.i64 i25, D.int IntKind.i64 i26]]) fun r34 =>
        asI IntKind.i64 r34 fun i35 =>
        brK (decide (i33 < i35))
          (bindK (F_wattleref01_Of [D.agg [D.int IntKind.i64 i24, D.int IntKind.i64 i25, D.int IntKind.i64 i26], D.int IntKind.i64 i33]) fun r36 =>
          asTup r36 fun ts37 =>
          getCells ([Lf.any, Lf.any, Lf.any]) ts37 fun c38 =>
          asI IntKind.i64 c38.fst fun i39 =>
          asI IntKind.i64 c38.snd.fst fun i40 =>
          asB c38.snd.snd.fst fun b41 =>
          bindK (F_wattleref01_Of [D.agg [D.int IntKind.i64 i27, D.int IntKind.i64 i28, D.int IntKind.i64 i29], D.int IntKind.i64 i33]) fun r42 =>
          asTup r42 fun ts43 =>
          getCells ([Lf.any, Lf.any, Lf.any]) ts43 fun c44 =>
          asI IntKind.i64 c44.fst fun i45 =>
          asI IntKind.i64 c44.snd.fst fun i46 =>
          asB c44.snd.snd.fst fun b47 =>
          brK (!b41)
            (some (D.bool false))
            (brK (!b47)
              (some (D.bool false))
              (brK (decide (i33 < i32))
                (letN (IntKind.wrap IntKind.i64 (i31 * i30)) fun n48 =>
                brK (decide (i46 ≥ n48))
                  (some (D.bool false))
                  (brK (decide (i33 ≥ i32))
                    (letN (IntKind.wrap IntKind.i64 (i31 * i30)) fun n49 =>
                    brK (decide (i40 < n49))
                      (some (D.bool false))
                      (letN (IntKind.wrap IntKind.i64 (i33 + (1 : Int))) fun n50 =>
                      again23 ((((i24, i25, i26, PUnit.unit), (i27, i28, i29, PUnit.unit), i30, i31, i32, n50, PUnit.unit), PUnit.unit))))
                    (letN (IntKind.wrap IntKind.i64 (i33 + (1 : Int))) fun n51 =>
                    again23 ((((i24, i25, i26, PUnit.unit), (i27, i28, i29, PUnit.unit), i30, i31, i32, n51, PUnit.unit), PUnit.unit)))))
                (brK (decide (i33 ≥ i32))
                  (letN (IntKind.wrap IntKind.i64 (i31 * i30)) fun n52 =>
                  brK (decide (i40 < n52))
                    (some (D.bool false))
                    (letN (IntKind.wrap IntKind.i64 (i33 + (1 : Int))) fun n53 =>
                    again23 ((((i24, i25, i26, PUnit.unit), (i27, i28, i29, PUnit.unit), i30, i31, i32, n53, PUnit.unit), PUnit.unit))))
                  (letN (IntKind.wrap IntKind.i64 (i33 + (1 : Int))) fun n54 =>
                  again23 ((((i24, i25, i26, PUnit.unit), (i27, i28, i29, PUnit.unit), i30, i31, i32, n54, PUnit.unit), PUnit.unit)))))))
          (letN (IntKind.wrap IntKind.i64 (i31 + (1 : Int))) fun n55 =>
          again10 ((((i24, i25, i26, PUnit.unit), (i27, i28, i29, PUnit.unit), i30, n55, PUnit.unit), PUnit.unit))))
        ((((i11, i12, i13, PUnit.unit), (i14, i15, i16, PUnit.unit), i17, i18, i22, (0 : Int), PUnit.unit), PUnit.unit)))
      (brK (decide (i17 ≤ (16 : Int)))
        (bindK (F_wattlelaw18_wakes []) fun r56 =>
        asB r56 fun b57 =>
        some (D.bool b57))
        (some (D.bool false))))
    ((((c5.fst, c5.snd.fst, c5.snd.snd.fst, PUnit.unit), (c7.fst, c7.snd.fst, c7.snd.snd.fst, PUnit.unit), i9, (0 : Int),     PUnit.unit),   PUnit.unit))
theorem G_wattlelaw18_PlanCovers (F_wattleplay_Pair : List D → Option D) (F_plan_Rows : List D → Option D) (F_plan_Windows : List D → Option D) (F_plan_Cursor : List D → Option D) (F_wattleref01_Capacity : List D → Option D) (F_wattleref01_Of : List D → Option D) (F_wattlelaw18_wakes : List D → Option D) (a0 : Int) (a1 : Int) : denP Try.prog (penv' [(ID.wattleplay_Pair, [0, 0], F_wattleplay_Pair), (ID.plan_Rows, [0], F_plan_Rows), (ID.plan_Windows, [0], F_plan_Windows), (ID.plan_Cursor, [0], F_plan_Cursor), (ID.wattleref01_Capacity, [0], F_wattleref01_Capacity), (ID.wattleref01_Of, [0, 0, 0], F_wattleref01_Of), (ID.wattlelaw18_wakes, [0], F_wattlelaw18_wakes)]) ann_wattlelaw18_PlanCovers [0] ID.wattlelaw18_PlanCovers [.int .i64 a0, .int .i64 a1] = g_wattlelaw18_PlanCovers F_wattleplay_Pair F_plan_Rows F_plan_Windows F_plan_Cursor F_wattleref01_Capacity F_wattleref01_Of F_wattlelaw18_wakes a0 a1 := by kernel_rfl
theorem F_wattlelaw18_PlanCovers_eq (a0 : Int) (a1 : Int) : F_wattlelaw18_PlanCovers [.int .i64 a0, .int .i64 a1] = g_wattlelaw18_PlanCovers F_wattleplay_Pair F_plan_Rows F_plan_Windows F_plan_Cursor F_wattleref01_Capacity F_wattleref01_Of F_wattlelaw18_wakes a0 a1 := G_wattlelaw18_PlanCovers F_wattleplay_Pair F_plan_Rows F_plan_Windows F_plan_Cursor F_wattleref01_Capacity F_wattleref01_Of F_wattlelaw18_wakes a0 a1
end Wf

/-
  The cursor covers what is done.
-/
namespace Wf
open Go Go.RowKit Go.Proofs
set_option linter.unusedSimpArgs false
set_option linter.unusedVariables false

theorem row_low {c r w k a : Int} (hc : c = 1 ∨ c = 2 ∨ c = 4) (hr : r = 1 ∨ r = 2 ∨ r = 4) (hcr : c ≤ r) (hw : 2 ≤ w ∧ w ≤ 7) (h0 : 0 ≤ a) (h : a < k * r * w) : a / c / w * c + a % c < k * r := by
  have hw : w = 2 ∨ w = 3 ∨ w = 4 ∨ w = 5 ∨ w = 6 ∨ w = 7 := by omega
  rcases hc with rfl | rfl | rfl <;> rcases hr with rfl | rfl | rfl <;> first | (exfalso; omega) | (rcases hw with rfl | rfl | rfl | rfl | rfl | rfl <;> omega)
theorem row_high {c r w k a : Int} (hc : c = 1 ∨ c = 2 ∨ c = 4) (hr : r = 1 ∨ r = 2 ∨ r = 4) (hcr : c ≤ r) (hw : 2 ≤ w ∧ w ≤ 7) (h0 : 0 ≤ a) (h : k * r * w ≤ a) : k * r ≤ a / c / w * c + a % c := by
  have hw : w = 2 ∨ w = 3 ∨ w = 4 ∨ w = 5 ∨ w = 6 ∨ w = 7 := by omega
  rcases hc with rfl | rfl | rfl <;> rcases hr with rfl | rfl | rfl <;> first | (exfalso; omega) | (rcases hw with rfl | rfl | rfl | rfl | rfl | rfl <;> omega)
theorem cursor_at {x y : Geo} {k : Int} (h0 : 0 ≤ k) (h1 : k ≤ winP x y) : cursorP x y k = min (k * rowsP x y * y.width) x.cap := by
  unfold cursorP; rw [if_neg (by omega)]

set_option maxHeartbeats 2000000 in
theorem planCovers (m n : Int) : F_wattlelaw18_PlanCovers [.int .i64 m, .int .i64 n] = some (.bool true) := by
  rw [F_wattlelaw18_PlanCovers_eq]
  unfold g_wattlelaw18_PlanCovers
  obtain ⟨⟨p1, p2, p3⟩, ⟨q1, q2, q3⟩, hp, hc, _, _⟩ := pair_play m n
  rw [hp]
  have hok := can_iff.1 hc
  have hx := ok_iff.1 hok.1
  have hy := ok_iff.1 hok.2.1
  have hwy2 := width_ok hok.2.1
  have hwx2 := width_ok hok.1
  have hcx : Geo.cap ⟨p1, p2, p3⟩ = Geo.width ⟨p1, p2, p3⟩ * 16 := rfl
  have hcy : Geo.cap ⟨q1, q2, q3⟩ = Geo.width ⟨q1, q2, q3⟩ * 16 := rfl
  have hle : Geo.width ⟨p1, p2, p3⟩ ≤ Geo.width ⟨q1, q2, q3⟩ := hok.2.2.2.2.2
  obtain ⟨hr0, hr⟩ := rows_of hc
  obtain ⟨_, hw, hrw⟩ := win_of hc
  simp only at hr0 hx hy
  have hlow : ∀ k a : Int, 0 ≤ k → k ≤ winP ⟨p1, p2, p3⟩ ⟨q1, q2, q3⟩ → 0 ≤ a → a < cursorP ⟨p1, p2, p3⟩ ⟨q1, q2, q3⟩ k → rowOf ⟨q1, q2, q3⟩ a < k * rowsP ⟨p1, p2, p3⟩ ⟨q1, q2, q3⟩ := by
    intro k a h0 h1 h2 h3
    rw [cursor_at h0 h1] at h3
    exact row_low hy.2.2 hr (by simp only; omega) hwy2 h2 (by omega)
  have hhigh : ∀ k a : Int, 0 ≤ k → k ≤ winP ⟨p1, p2, p3⟩ ⟨q1, q2, q3⟩ → 0 ≤ a → a < Geo.cap ⟨p1, p2, p3⟩ → cursorP ⟨p1, p2, p3⟩ ⟨q1, q2, q3⟩ k ≤ a → k * rowsP ⟨p1, p2, p3⟩ ⟨q1, q2, q3⟩ ≤ rowOf ⟨p1, p2, p3⟩ a := by
    intro k a h0 h1 h2 h3 h4
    rw [cursor_at h0 h1] at h4
    refine row_high hx.2.2 hr (by simp only; omega) hwx2 h2 ?_
    have : k * rowsP ⟨p1, p2, p3⟩ ⟨q1, q2, q3⟩ * Geo.width ⟨p1, p2, p3⟩ ≤ k * rowsP ⟨p1, p2, p3⟩ ⟨q1, q2, q3⟩ * Geo.width ⟨q1, q2, q3⟩ := Int.mul_le_mul_of_nonneg_left hle (Int.mul_nonneg h0 (by omega))
    omega
  have hfit := fun k h0 h1 => (@span_fit ⟨p1, p2, p3⟩ ⟨q1, q2, q3⟩ k hc h0 h1).2.2.2.2.1
  have hox : ∀ a : Int, 0 ≤ a → a < Geo.cap ⟨p1, p2, p3⟩ → (ofP ⟨p1, p2, p3⟩ a).2.2 = true ∧ (ofP ⟨p1, p2, p3⟩ a).2.1 = rowOf ⟨p1, p2, p3⟩ a := by
    intro a h0 h1; unfold ofP; rw [if_pos ⟨h0, h1⟩]; exact ⟨rfl, rfl⟩
  have hoy : ∀ a : Int, 0 ≤ a → a < Geo.cap ⟨p1, p2, p3⟩ → (ofP ⟨q1, q2, q3⟩ a).2.2 = true ∧ (ofP ⟨q1, q2, q3⟩ a).2.1 = rowOf ⟨q1, q2, q3⟩ a := by
    intro a h0 h1; unfold ofP; rw [if_pos ⟨h0, by omega⟩]; exact ⟨rfl, rfl⟩
  simp only [bindK_some_eq, Geo.D, asAgg_agg, asTup_tup, getCells_int, getCells_any, getCells_nil, plan_rows', iD, asI_int]
  refine loopN_spec (fun a => (17 - a.1.2.2.2.1).toNat) (fun _ => some (D.bool true)) (fun a => ∃ k : Int, 0 ≤ k ∧ k ≤ 17 ∧
    a = (((p1, p2, p3, PUnit.unit), (q1, q2, q3, PUnit.unit), rowsP ⟨p1, p2, p3⟩ ⟨q1, q2, q3⟩, k, PUnit.unit), PUnit.unit)) ?_ ⟨0, by omega, by omega, rfl⟩ ?_
  rotate_left
  · simp
  rintro again _ ⟨k, h0, h1, rfl⟩ ih
  dsimp only
  simp only [plan_windows', bindK_some_eq, iD, asI_int]
  by_cases hk : k ≤ winP ⟨p1, p2, p3⟩ ⟨q1, q2, q3⟩
  · have ihk := ih _ ⟨k + 1, by omega, by omega, rfl⟩ (by dsimp only; omega)
    have w1 : IntKind.i64.wrap (k + 1) = k + 1 := wrap_fit (by omega) (by omega)
    have wk := hfit k h0 hk
    simp only [hk, decide_true, brK_eq, if_true, plan_cursor', bindK_some_eq, iD, asI_int]
    refine loopN_spec (fun a => (200 - a.1.2.2.2.2.2.1).toNat) (fun _ => some (D.bool true)) (fun a => ∃ i : Int, 0 ≤ i ∧ i ≤ 200 ∧
      a = (((p1, p2, p3, PUnit.unit), (q1, q2, q3, PUnit.unit), rowsP ⟨p1, p2, p3⟩ ⟨q1, q2, q3⟩, k, cursorP ⟨p1, p2, p3⟩ ⟨q1, q2, q3⟩ k, i, PUnit.unit), PUnit.unit)) ?_ ⟨0, by omega, by omega, rfl⟩ ?_
    rotate_left
    · simp
    rintro again2 _ ⟨i, i0, i1, rfl⟩ ih2
    dsimp only
    simp only [cap_ref', bindK_some_eq, iD, asI_int]
    by_cases hi : i < Geo.cap ⟨p1, p2, p3⟩
    · have ihi := ih2 _ ⟨i + 1, by omega, by omega, rfl⟩ (by dsimp only; omega)
      have wi : IntKind.i64.wrap (i + 1) = i + 1 := wrap_fit (by omega) (by omega)
      obtain ⟨a1, a2⟩ := hox i i0 hi
      obtain ⟨b1, b2⟩ := hoy i i0 hi
      have l1 := hlow k i h0 hk i0
      have l2 := hhigh k i h0 hk i0 hi
      by_cases hcu : i < cursorP ⟨p1, p2, p3⟩ ⟨q1, q2, q3⟩ k
      · have := l1 hcu
        simp [hi, of_ref', a1, a2, b1, b2, hcu, brK_eq, wk, wi, show ¬ k * rowsP ⟨p1, p2, p3⟩ ⟨q1, q2, q3⟩ ≤ rowOf ⟨q1, q2, q3⟩ i by omega, show ¬ cursorP ⟨p1, p2, p3⟩ ⟨q1, q2, q3⟩ k ≤ i by omega]
        exact ihi
      · have := l2 (by omega)
        simp [hi, of_ref', a1, a2, b1, b2, hcu, brK_eq, wk, wi, this, show cursorP ⟨p1, p2, p3⟩ ⟨q1, q2, q3⟩ k ≤ i by omega, show ¬ rowOf ⟨p1, p2, p3⟩ i < k * rowsP ⟨p1, p2, p3⟩ ⟨q1, q2, q3⟩ by omega]
        exact ihi
    · simp [hi, w1]
      exact ihk
  · simp [hk, wakes18, show rowsP ⟨p1, p2, p3⟩ ⟨q1, q2, q3⟩ ≤ 16 by omega]
end Wf

