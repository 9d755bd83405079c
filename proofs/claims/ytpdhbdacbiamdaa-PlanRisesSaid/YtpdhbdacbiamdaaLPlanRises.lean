/-
  A law's function, read off.
-/
import Derived.Test.YtpdhbdacbiamdaaX
import Derived.Test.YtpdhbdacbiamdaaY3
set_option linter.unusedVariables false
set_option linter.unusedSimpArgs false
set_option linter.unnecessarySimpa false
namespace Wf
open Go Go.RowKit Go.Proofs
def ann_wattlelaw18_PlanRises : Ann := [(0, [.dead, .dead, .dead, .dead, .dead, .box true [(.int .i64), (.int .i64), (.int .i64)], .box true [(.int .i64), (.int .i64), (.int .i64)], .val (.cell (.int .i64)), .val (.cell (.int .i64)), .val (.cell (.int .i64)), .val (.cell (.int .i64))])]
noncomputable def F_wattlelaw18_PlanRises : List D → Option D := denP Try.prog (penv' [(ID.wattleplay_Pair, [0, 0], F_wattleplay_Pair), (ID.plan_Windows, [0], F_plan_Windows), (ID.plan_Cursor, [0], F_plan_Cursor), (ID.plan_Span, [0, 0], F_plan_Span), (ID.wattlelaw18_wakes, [0], F_wattlelaw18_wakes)]) ann_wattlelaw18_PlanRises [0] ID.wattlelaw18_PlanRises
theorem sound_wattlelaw18_PlanRises : SoundP Try.prog ID.wattlelaw18_PlanRises [0] F_wattlelaw18_PlanRises := denP_sound (penv_ok [fact_wattleplay_Pair, fact_plan_Windows, fact_plan_Cursor, fact_plan_Span, fact_wattlelaw18_wakes]) mixed ⟨Try.f9, by kernel_rfl, by kernel_rfl, by kernel_rfl⟩
noncomputable def fact_wattlelaw18_PlanRises : Fact Try.prog := ⟨ID.wattlelaw18_PlanRises, [0], F_wattlelaw18_PlanRises, sound_wattlelaw18_PlanRises⟩
noncomputable def g_wattlelaw18_PlanRises (F_wattleplay_Pair : List D → Option D) (F_plan_Windows : List D → Option D) (F_plan_Cursor : List D → Option D) (F_plan_Span : List D → Option D) (F_wattlelaw18_wakes : List D → Option D) (a0 : Int) (a1 : Int) : Option D :=
  bindK (F_wattleplay_Pair [D.int IntKind.i64 a0, D.int IntKind.i64 a1]) fun r1 =>
  asTup r1 fun ts2 =>
  getCells ([Lf.any, Lf.any]) ts2 fun c3 =>
  asAgg c3.fst fun cs4 =>
  getCells ([Lf.int IntKind.i64, Lf.int IntKind.i64, Lf.int IntKind.i64]) cs4 fun c5 =>
  asAgg c3.snd.fst fun cs6 =>
  getCells ([Lf.int IntKind.i64, Lf.int IntKind.i64, Lf.int IntKind.i64]) cs6 fun c7 =>
  bindK (F_plan_Windows   [D.agg [D.int IntKind.i64 c5.fst, D.int IntKind.i64 c5.snd.fst, D.int IntKind.i64 c5.snd.snd.fst],     D.agg [D.int IntKind.i64 c7.fst, D.int IntKind.i64 c7.snd.fst, D.int IntKind.i64 c7.snd.snd.fst]]) fun r8 =>
  asI IntKind.i64 r8 fun i9 =>
  loopN (α := ((Int × Int × Int × PUnit) × (Int × Int × Int × PUnit) × Int × Int × Int × Int × PUnit) × PUnit) (fun again10 (((i11, (i12, (i13, _))), ((i14, (i15, (i16, _))), (i17, (i18, (i19, (i20, _)))))), _) =>
    brK (decide (i20 ≤ i17))
      (bindK (F_plan_Cursor   [D.agg [D.int IntKind.i64 i11, D.int IntKind.i64 i12, D.int IntKind.i64 i13],     D.agg [D.int IntKind.i64 i14, D.int IntKind.i64 i15, D.int IntKind.i64 i16], D.int IntKind.i64 i20]) fun r21 =>
      asI IntKind.i64 r21 fun i22 =>
      brK (decide (i22 < i18))
        (some (D.bool false))
        (brK (i20 == (0 : Int))
          (brK (i22 != (0 : Int))
            (some (D.bool false))
            (brK (decide (i20 < i17))
              (bindK (F_plan_Span   [D.agg [D.int IntKind.i64 i11, D.int IntKind.i64 i12, D.int IntKind.i64 i13],     D.agg [D.int IntKind.i64 i14, D.int IntKind.i64 i15, D.int IntKind.i64 i16], D.int IntKind.i64 i20]) fun r23 =>
              asTup r23 fun ts24 =>
              getCells ([Lf.any, Lf.any]) ts24 fun c25 =>
              asI IntKind.i64 c25.fst fun i26 =>
              asI IntKind.i64 c25.snd.fst fun i27 =>
              brK (decide (i20 > (0 : Int)))
                (letN (IntKind.wrap IntKind.i64 (i27 - i26)) fun n28 =>
                brK (n28 != i19)
                  (some (D.bool false))
                  (letN (IntKind.wrap IntKind.i64 (i27 - i26)) fun n29 =>
                  letN (IntKind.wrap IntKind.i64 (i20 + (1 : Int))) fun n30 =>
                  again10 ((((i11, i12, i13, PUnit.unit), (i14, i15, i16, PUnit.unit), i17, i22, n29, n30, PUnit.unit), PUnit.unit))))
                (letN (IntKind.wrap IntKind.i64 (i27 - i26)) fun n31 =>
                letN (IntKind.wrap IntKind.i64 (i20 + (1 : Int))) fun n32 =>
                again10 ((((i11, i12, i13, PUnit.unit), (i14, i15, i16, PUnit.unit), i17, i22, n31, n32, PUnit.unit), PUnit.unit))))
              (letN (IntKind.wrap IntKind.i64 (i20 + (1 : Int))) fun n33 =>
              again10 ((((i11, i12, i13, PUnit.unit), (i14, i15, i16, PUnit.unit), i17, i22, i19, n33, PUnit.unit), PUnit.unit)))))
          (brK (decide (i20 < i17))
            (bindK (F_plan_Span   [D.agg [D.int IntKind.i64 i11, D.int IntKind.i64 i12, D.int IntKind.i64 i13],     D.agg [D.int IntKind.i64 i14, D.int IntKind.i64 i15, D.int IntKind.i64 i16], D.int IntKind.i64 i20]) fun r34 =>
            asTup r34 fun ts35 =>
            getCells ([Lf.any, Lf.any]) ts35 fun c36 =>
            asI IntKind.i64 c36.fst fun i37 =>
            asI IntKind.i64 c36.snd.fst fun i38 =>
            brK (decide (i20 > (0 : Int)))
              (letN (IntKind.wrap IntKind.i64 (i38 - i37)) fun n39 =>
              brK (n39 != i19)
                (some (D.bool false))
                (letN (IntKind.wrap IntKind.i64 (i38 - i37)) fun n40 =>
                letN (IntKind.wrap IntKind.i64 (i20 + (1 : Int))) fun n41 =>
                again10 ((((i11, i12, i13, PUnit.unit), (i14, i15, i16, PUnit.unit), i17, i22, n40, n41, PUnit.unit), PUnit.unit))))
              (letN (IntKind.wrap IntKind.i64 (i38 - i37)) fun n42 =>
              letN (IntKind.wrap IntKind.i64 (i20 + (1 : Int))) fun n43 =>
              again10 ((((i11, i12, i13, PUnit.unit), (i14, i15, i16, PUnit.unit), i17, i22, n42, n43, PUnit.unit), PUnit.unit))))
            (letN (IntKind.wrap IntKind.i64 (i20 + (1 : Int))) fun n44 =>
            again10 ((((i11, i12, i13, PUnit.unit), (i14, i15, i16, PUnit.unit), i17, i22, i19, n44, PUnit.unit), PUnit.unit))))))
      (letN (IntKind.wrap IntKind.i64 (i12 - i11)) fun n45 =>
      letN (IntKind.wrap IntKind.i64 (n45 + (4 : Int))) fun n46 =>
      letN (IntKind.wrap IntKind.i64 (n46 * (16 : Int))) fun n47 =>
      brK (i18 == n47)
        (letN (IntKind.wrap IntKind.i64 (i19 * i17)) fun n48 =>
        letN (IntKind.wrap IntKind.i64 (i15 - i14)) fun n49 =>
        letN (IntKind.wrap IntKind.i64 (n49 + (4 : Int))) fun n50 =>
        letN (IntKind.wrap IntKind.i64 (n50 * (16 : Int))) fun n51 =>
        brK (n48 == n51)
          (bindK (F_wattlelaw18_wakes []) fun r52 =>
          asB r52 fun b53 =>
          some (D.bool b53))
          (some (D.bool false)))
        (some (D.bool false))))
    ((((c5.fst, c5.snd.fst, c5.snd.snd.fst, PUnit.unit), (c7.fst, c7.snd.fst, c7.snd.snd.fst, PUnit.unit), i9, (0 : Int),     (0 : Int), (0 : Int), PUnit.unit),   PUnit.unit))
theorem G_wattlelaw18_PlanRises (F_wattleplay_Pair : List D → Option D) (F_plan_Windows : List D → Option D) (F_plan_Cursor : List D → Option D) (F_plan_Span : List D → Option D) (F_wattlelaw18_wakes : List D → Option D) (a0 : Int) (a1 : Int) : denP Try.prog (penv' [(ID.wattleplay_Pair, [0, 0], F_wattleplay_Pair), (ID.plan_Windows, [0], F_plan_Windows), (ID.plan_Cursor, [0], F_plan_Cursor), (ID.plan_Span, [0, 0], F_plan_Span), (ID.wattlelaw18_wakes, [0], F_wattlelaw18_wakes)]) ann_wattlelaw18_PlanRises [0] ID.wattlelaw18_PlanRises [.int .i64 a0, .int .i64 a1] = g_wattlelaw18_PlanRises F_wattleplay_Pair F_plan_Windows F_plan_Cursor F_plan_Span F_wattlelaw18_wakes a0 a1 := by kernel_rfl
theorem F_wattlelaw18_PlanRises_eq (a0 : Int) (a1 : Int) : F_wattlelaw18_PlanRises [.int .i64 a0, .int .i64 a1] = g_wattlelaw18_PlanRises F_wattleplay_Pair F_plan_Windows F_plan_Cursor F_plan_Span F_wattlelaw18_wakes a0 a1 := G_wattlelaw18_PlanRises F_wattleplay_Pair F_plan_Windows F_plan_Cursor F_plan_Span F_wattlelaw18_wakes a0 a1
end Wf

/-
  The cursor never falls.
-/
namespace Wf
open Go Go.RowKit Go.Proofs
set_option linter.unusedSimpArgs false
set_option linter.unusedVariables false

theorem cursor_at {x y : Geo} {k : Int} (h0 : 0 ≤ k) (h1 : k ≤ winP x y) : cursorP x y k = min (k * rowsP x y * y.width) x.cap := by
  unfold cursorP; rw [if_neg (by omega)]
theorem span_at {x y : Geo} {k : Int} (h0 : 0 ≤ k) (h1 : k < winP x y) : spanP x y k = (k * (rowsP x y * y.width), (k + 1) * (rowsP x y * y.width)) := by
  unfold spanP; rw [if_neg (by omega)]

set_option maxHeartbeats 2000000 in
theorem planRises (m n : Int) : F_wattlelaw18_PlanRises [.int .i64 m, .int .i64 n] = some (.bool true) := by
  rw [F_wattlelaw18_PlanRises_eq]
  unfold g_wattlelaw18_PlanRises
  obtain ⟨⟨p1, p2, p3⟩, ⟨q1, q2, q3⟩, hp, hc, _, _⟩ := pair_play m n
  rw [hp]
  have hok := can_iff.1 hc
  have hx := ok_iff.1 hok.1
  have hy := ok_iff.1 hok.2.1
  have hwx := width_of hok.1
  have hwy := width_of hok.2.1
  have hwy2 := width_ok hok.2.1
  have hwx2 := width_ok hok.1
  have hcap : Geo.cap ⟨p1, p2, p3⟩ = Geo.width ⟨p1, p2, p3⟩ * 16 := rfl
  have hle : Geo.width ⟨p1, p2, p3⟩ ≤ Geo.width ⟨q1, q2, q3⟩ := hok.2.2.2.2.2
  obtain ⟨_, hr⟩ := rows_of hc
  obtain ⟨_, hw, hrw⟩ := win_of hc
  have hcur := fun k => @cursor_at ⟨p1, p2, p3⟩ ⟨q1, q2, q3⟩ k
  have hspan := fun k => @span_at ⟨p1, p2, p3⟩ ⟨q1, q2, q3⟩ k
  simp only [bindK_some_eq, Geo.D, asAgg_agg, asTup_tup, getCells_int, getCells_any, getCells_nil, plan_windows', iD, asI_int]
  simp only at hwx hwy hx hy
  generalize winP ⟨p1, p2, p3⟩ ⟨q1, q2, q3⟩ = w at *
  generalize rowsP ⟨p1, p2, p3⟩ ⟨q1, q2, q3⟩ = r at *
  generalize Geo.width ⟨p1, p2, p3⟩ = wx at *
  generalize Geo.width ⟨q1, q2, q3⟩ = wy at *
  generalize Geo.cap ⟨p1, p2, p3⟩ = cx at *
  refine loopN_spec (fun a => (17 - a.1.2.2.2.2.2.1).toNat) (fun _ => some (D.bool true)) (fun a => ∃ k last size : Int, 0 ≤ k ∧ k ≤ w + 1 ∧ last = (if k = 0 then 0 else min ((k - 1) * r * wy) cx) ∧ size = (if k = 0 then 0 else r * wy) ∧
    a = (((p1, p2, p3, PUnit.unit), (q1, q2, q3, PUnit.unit), w, last, size, k, PUnit.unit), PUnit.unit)) ?_ ⟨0, 0, 0, by omega, by omega, by simp, by simp, rfl⟩ ?_
  rotate_left
  · simp
  rintro again _ ⟨k, last, size, h0, h1, hl, hs, rfl⟩ ih
  dsimp only
  by_cases hk : k ≤ w
  · have e1 := hcur k h0 hk
    have w1 : IntKind.i64.wrap (k + 1) = k + 1 := wrap_fit (by omega) (by omega)
    by_cases hz : k = 0
    · subst hz
      have e2 := hspan 0 (by omega) (by omega)
      have w2 : IntKind.i64.wrap (r * wy) = r * wy := by
        rcases hr with rfl | rfl | rfl <;> exact wrap_fit (by omega) (by omega)
      have := ih _ ⟨1, min 0 cx, r * wy, by omega, by omega, by simp, by simp, rfl⟩ (by dsimp only; omega)
      have hmin : min 0 cx = 0 := by omega
      rw [hmin] at this
      simp at hl hs
      subst hl; subst hs
      simp [hk, plan_cursor', plan_span', e1, e2, brK_eq, show 0 < w by omega, w2, hmin, show IntKind.i64.wrap 1 = 1 from rfl]
      exact this
    · have hge : ¬ min (k * r * wy) cx < last := by
        rw [hl, if_neg hz]
        rcases hr with rfl | rfl | rfl <;> (have hwc : wy = 2 ∨ wy = 3 ∨ wy = 4 ∨ wy = 5 ∨ wy = 6 ∨ wy = 7 := by omega) <;> rcases hwc with rfl | rfl | rfl | rfl | rfl | rfl <;> omega
      rw [if_neg hz] at hs
      by_cases hkw : k < w
      · have e2 := hspan k h0 hkw
        have w2 : IntKind.i64.wrap ((k + 1) * (r * wy) - k * (r * wy)) = r * wy := by
          rw [show (k + 1) * (r * wy) - k * (r * wy) = r * wy from by rw [Int.add_mul]; omega]
          rcases hr with rfl | rfl | rfl <;> exact wrap_fit (by omega) (by omega)
        have := ih _ ⟨k + 1, min (k * r * wy) cx, r * wy, by omega, by omega, by rw [if_neg (by omega), show k + 1 - 1 = k from by omega], by rw [if_neg (by omega)], rfl⟩ (by dsimp only; omega)
        subst hs
        simp [hk, plan_cursor', plan_span', e1, e2, brK_eq, hz, hkw, w1, w2, hge, show 0 < k by omega]
        exact this
      · have := ih _ ⟨k + 1, min (k * r * wy) cx, size, by omega, by omega, by rw [if_neg (by omega), show k + 1 - 1 = k from by omega], by rw [if_neg (by omega)]; exact hs, rfl⟩ (by dsimp only; omega)
        simp [hk, plan_cursor', plan_span', e1, brK_eq, hz, hkw, w1, hge]
        exact this
  · have hk2 : k = w + 1 := by omega
    rw [if_neg (by omega)] at hl hs
    have f1 : last = wx * 16 := by
      rw [hl, hk2, show w + 1 - 1 = w from by omega, hcap]
      rw [show w * r * wy = 16 * wy from by rw [hrw]]
      omega
    have f2 : size * w = wy * 16 := by
      rw [hs, show r * wy * w = (w * r) * wy from by rw [Int.mul_comm (r * wy) w, Int.mul_assoc], hrw]; omega
    have w1 : IntKind.i64.wrap (p2 - p1) = p2 - p1 := wrap_fit (by omega) (by omega)
    have w2 : IntKind.i64.wrap (p2 - p1 + 4) = wx := by rw [wrap_fit (by omega) (by omega)]; omega
    have w3 : IntKind.i64.wrap (wx * 16) = wx * 16 := wrap_fit (by omega) (by omega)
    have w4 : IntKind.i64.wrap (q2 - q1) = q2 - q1 := wrap_fit (by omega) (by omega)
    have w5 : IntKind.i64.wrap (q2 - q1 + 4) = wy := by rw [wrap_fit (by omega) (by omega)]; omega
    have w6 : IntKind.i64.wrap (wy * 16) = wy * 16 := wrap_fit (by omega) (by omega)
    simp [hk, w1, w2, w3, w4, w5, w6, f1, f2, wakes18]
end Wf

