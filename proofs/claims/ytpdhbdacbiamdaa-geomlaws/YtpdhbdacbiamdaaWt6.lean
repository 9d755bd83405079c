/-
  Geometry: a law.
-/
import Derived.Test.YtpdhbdacbiamdaaWt5
set_option linter.unusedVariables false
set_option linter.unusedSimpArgs false
set_option linter.unnecessarySimpa false
namespace Wf
open Go Go.RowKit Go.Proofs
set_option maxRecDepth 10000
theorem can_good {l d c x y z : Int} (h1 : validG l d c = true) (h2 : validG x y z = true) : canG l d c x y z = (!(l == x && (d == y && c == z)) && decide (d ≤ y) && decide (l ≤ x) && decide (d - (l - 4) ≤ y - (x - 4))) := by
  simp only [canG, h1, h2, widthG, if_true, Bool.true_and]
set_option maxHeartbeats 4000000 in
theorem s5 {Γ : PEnv} (hΓ : Γ.Ok Try.prog) (h28 : Γ 28 = some ([1], F28)) (h17 : Γ 17 = some ([1], F17)) (h18 : Γ 18 = some ([1], F18)) (h19 : Γ 19 = some ([1], F19)) (h20 : Γ 20 = some ([1], F20)) (h21 : Γ 21 = some ([1], F21)) : SoundP Try.prog 5 [1] F5 := by
  refine soundP_of hΓ mixed Try.func5 (by kernel_rfl) rfl (fun γ0 ds r hF => ?_)
  unfold F5 at hF
  split at hF
  rotate_left
  · cases hF
  rename_i a b c
  injection hF with hF; subst hF
  obtain ⟨⟨l1, d1, c1⟩, hg1'⟩ : ∃ g, goodOf a = g := ⟨_, rfl⟩
  have hv1 : validG l1 d1 c1 = true := by have := good_valid a; rw [hg1'] at this; exact this
  have wl1 : IntKind.i64.wrap (l1 - 4) = budgetG l1 d1 c1 := wrap_bud hv1
  have wb1 : IntKind.i64.wrap (widthG l1 d1 c1 + budgetG l1 d1 c1) = d1 := by
    have k := valid_iff.1 hv1
    unfold widthG budgetG; rw [if_pos hv1, if_pos hv1, wrap_fit (by omega) (by omega)]; omega
  have eb1 : budgetG l1 d1 c1 = l1 - 4 := by unfold budgetG; rw [if_pos hv1]
  have ew1 : widthG l1 d1 c1 = d1 - (l1 - 4) := by unfold widthG; rw [if_pos hv1]
  obtain ⟨⟨l2, d2, c2⟩, hg2'⟩ : ∃ g, goodOf b = g := ⟨_, rfl⟩
  have hv2 : validG l2 d2 c2 = true := by have := good_valid b; rw [hg2'] at this; exact this
  have wl2 : IntKind.i64.wrap (l2 - 4) = budgetG l2 d2 c2 := wrap_bud hv2
  have wb2 : IntKind.i64.wrap (widthG l2 d2 c2 + budgetG l2 d2 c2) = d2 := by
    have k := valid_iff.1 hv2
    unfold widthG budgetG; rw [if_pos hv2, if_pos hv2, wrap_fit (by omega) (by omega)]; omega
  have eb2 : budgetG l2 d2 c2 = l2 - 4 := by unfold budgetG; rw [if_pos hv2]
  have ew2 : widthG l2 d2 c2 = d2 - (l2 - 4) := by unfold widthG; rw [if_pos hv2]
  obtain ⟨⟨l3, d3, c3⟩, hg3'⟩ : ∃ g, goodOf c = g := ⟨_, rfl⟩
  have hv3 : validG l3 d3 c3 = true := by have := good_valid c; rw [hg3'] at this; exact this
  have wl3 : IntKind.i64.wrap (l3 - 4) = budgetG l3 d3 c3 := wrap_bud hv3
  have wb3 : IntKind.i64.wrap (widthG l3 d3 c3 + budgetG l3 d3 c3) = d3 := by
    have k := valid_iff.1 hv3
    unfold widthG budgetG; rw [if_pos hv3, if_pos hv3, wrap_fit (by omega) (by omega)]; omega
  have eb3 : budgetG l3 d3 c3 = l3 - 4 := by unfold budgetG; rw [if_pos hv3]
  have ew3 : widthG l3 d3 c3 = d3 - (l3 - 4) := by unfold widthG; rw [if_pos hv3]
  have hself : canG l1 d1 c1 l1 d1 c1 = false := by simp [canG]
  have hc12' := can_good hv1 hv2
  have hc21' := can_good hv2 hv1
  have hc23' := can_good hv2 hv3
  have hc13' := can_good hv1 hv3
  rw [show Try.f5.ntmps = 93 from rfl, show Try.f5.results.toList = [.tmp 6] from rfl]
  all_goals refine awp_seq (awp_region ?_)
  all_goals refine runs_cons (by conv => lhs; simp [h28, F28, gD, hg1', hg2', hg3', h17, F17, h18, F18, h19, F19, h20, F20, G1, G2, h21, F21, wl1, wb1, hself]) ?_
  all_goals refine runs_nil (then_normal (awp_seq (awp_region ?_)))
  all_goals refine runs_cons (by conv => lhs; simp [h28, F28, gD, hg1', hg2', hg3', h17, F17, h18, F18, h19, F19, h20, F20, G1, G2, h21, F21, wl1, wb1, hself]) ?_
  all_goals refine runs_cons (by conv => lhs; simp [h28, F28, gD, hg1', hg2', hg3', h17, F17, h18, F18, h19, F19, h20, F20, G1, G2, h21, F21, wl1, wb1, hself]) ?_
  all_goals refine runs_cons (by conv => lhs; simp [h28, F28, gD, hg1', hg2', hg3', h17, F17, h18, F18, h19, F19, h20, F20, G1, G2, h21, F21, wl1, wb1, hself]) ?_
  all_goals refine runs_cons (by conv => lhs; simp [h28, F28, gD, hg1', hg2', hg3', h17, F17, h18, F18, h19, F19, h20, F20, G1, G2, h21, F21, wl1, wb1, hself]) ?_
  all_goals refine runs_cons (by conv => lhs; simp [h28, F28, gD, hg1', hg2', hg3', h17, F17, h18, F18, h19, F19, h20, F20, G1, G2, h21, F21, wl1, wb1, hself]) ?_
  all_goals refine runs_cons (by conv => lhs; simp [h28, F28, gD, hg1', hg2', hg3', h17, F17, h18, F18, h19, F19, h20, F20, G1, G2, h21, F21, wl1, wb1, hself]) ?_
  all_goals refine runs_cons (by conv => lhs; simp [h28, F28, gD, hg1', hg2', hg3', h17, F17, h18, F18, h19, F19, h20, F20, G1, G2, h21, F21, wl1, wb1, hself]) ?_
  all_goals refine runs_cons (by conv => lhs; simp [h28, F28, gD, hg1', hg2', hg3', h17, F17, h18, F18, h19, F19, h20, F20, G1, G2, h21, F21, wl1, wb1, hself]) ?_
  all_goals refine runs_cons (by conv => lhs; simp [h28, F28, gD, hg1', hg2', hg3', h17, F17, h18, F18, h19, F19, h20, F20, G1, G2, h21, F21, wl1, wb1, hself]) ?_
  all_goals refine runs_cons (by conv => lhs; simp [h28, F28, gD, hg1', hg2', hg3', h17, F17, h18, F18, h19, F19, h20, F20, G1, G2, h21, F21, wl1, wb1, hself]) ?_
  all_goals refine runs_cons (by conv => lhs; simp [h28, F28, gD, hg1', hg2', hg3', h17, F17, h18, F18, h19, F19, h20, F20, G1, G2, h21, F21, wl1, wb1, hself]) ?_
  all_goals refine runs_cons (by conv => lhs; simp [h28, F28, gD, hg1', hg2', hg3', h17, F17, h18, F18, h19, F19, h20, F20, G1, G2, h21, F21, wl1, wb1, hself]) ?_
  all_goals refine runs_nil (then_normal (awp_seq (awp_seq (awp_drawn (by kernel_rfl) ?_))))
  all_goals refine runsD_cons (by conv => lhs; simp [h28, F28, gD, hg1', hg2', hg3', h17, F17, h18, F18, h19, F19, h20, F20, G1, G2, h21, F21, wl1, wb1, hself]) ?_
  all_goals refine runsD_cons (by conv => lhs; simp [h28, F28, gD, hg1', hg2', hg3', h17, F17, h18, F18, h19, F19, h20, F20, G1, G2, h21, F21, wl1, wb1, hself]) ?_
  all_goals refine runsD_cons (by conv => lhs; simp [h28, F28, gD, hg1', hg2', hg3', h17, F17, h18, F18, h19, F19, h20, F20, G1, G2, h21, F21, wl1, wb1, hself]) ?_
  all_goals refine runsD_cons (by conv => lhs; simp [h28, F28, gD, hg1', hg2', hg3', h17, F17, h18, F18, h19, F19, h20, F20, G1, G2, h21, F21, wl1, wb1, hself]) ?_
  all_goals first | (refine runsD_cons (by conv => lhs; simp [h28, F28, gD, hg1', hg2', hg3', h17, F17, h18, F18, h19, F19, h20, F20, G1, G2, h21, F21, wl1, wb1, hself]) ?_) | (refine runsD_guard (by conv => lhs; simp) ?_ ?_ <;> intro hg1 <;> simp only [hg1] <;> refine runsD_cons (by conv => lhs; simp [h28, F28, gD, hg1', hg2', hg3', h17, F17, h18, F18, h19, F19, h20, F20, G1, G2, h21, F21, wl1, wb1, hself]) ?_)
  all_goals first | (refine runsD_cons (by conv => lhs; simp [h28, F28, gD, hg1', hg2', hg3', h17, F17, h18, F18, h19, F19, h20, F20, G1, G2, h21, F21, wl1, wb1, hself]) ?_) | (refine runsD_guard (by conv => lhs; simp) ?_ ?_ <;> intro hg2 <;> simp only [hg2] <;> refine runsD_cons (by conv => lhs; simp [h28, F28, gD, hg1', hg2', hg3', h17, F17, h18, F18, h19, F19, h20, F20, G1, G2, h21, F21, wl1, wb1, hself]) ?_)
  all_goals first | (refine runsD_cons (by conv => lhs; simp [h28, F28, gD, hg1', hg2', hg3', h17, F17, h18, F18, h19, F19, h20, F20, G1, G2, h21, F21, wl1, wb1, hself]) ?_) | (refine runsD_guard (by conv => lhs; simp) ?_ ?_ <;> intro hg3 <;> simp only [hg3] <;> refine runsD_cons (by conv => lhs; simp [h28, F28, gD, hg1', hg2', hg3', h17, F17, h18, F18, h19, F19, h20, F20, G1, G2, h21, F21, wl1, wb1, hself]) ?_)
  all_goals first | (refine runsD_cons (by conv => lhs; simp [h28, F28, gD, hg1', hg2', hg3', h17, F17, h18, F18, h19, F19, h20, F20, G1, G2, h21, F21, wl1, wb1, hself]) ?_) | (refine runsD_guard (by conv => lhs; simp) ?_ ?_ <;> intro hg4 <;> simp only [hg4] <;> refine runsD_cons (by conv => lhs; simp [h28, F28, gD, hg1', hg2', hg3', h17, F17, h18, F18, h19, F19, h20, F20, G1, G2, h21, F21, wl1, wb1, hself]) ?_)
  all_goals first | (refine runsD_cons (by conv => lhs; simp [h28, F28, gD, hg1', hg2', hg3', h17, F17, h18, F18, h19, F19, h20, F20, G1, G2, h21, F21, wl1, wb1, hself]) ?_) | (refine runsD_guard (by conv => lhs; simp) ?_ ?_ <;> intro hg5 <;> simp only [hg5] <;> refine runsD_cons (by conv => lhs; simp [h28, F28, gD, hg1', hg2', hg3', h17, F17, h18, F18, h19, F19, h20, F20, G1, G2, h21, F21, wl1, wb1, hself]) ?_)
  all_goals first | (refine runsD_cons (by conv => lhs; simp [h28, F28, gD, hg1', hg2', hg3', h17, F17, h18, F18, h19, F19, h20, F20, G1, G2, h21, F21, wl1, wb1, hself]) ?_) | (refine runsD_guard (by conv => lhs; simp) ?_ ?_ <;> intro hg6 <;> simp only [hg6] <;> refine runsD_cons (by conv => lhs; simp [h28, F28, gD, hg1', hg2', hg3', h17, F17, h18, F18, h19, F19, h20, F20, G1, G2, h21, F21, wl1, wb1, hself]) ?_)
  all_goals first | (refine runsD_cons (by conv => lhs; simp [h28, F28, gD, hg1', hg2', hg3', h17, F17, h18, F18, h19, F19, h20, F20, G1, G2, h21, F21, wl1, wb1, hself]) ?_) | (refine runsD_guard (by conv => lhs; simp) ?_ ?_ <;> intro hg7 <;> simp only [hg7] <;> refine runsD_cons (by conv => lhs; simp [h28, F28, gD, hg1', hg2', hg3', h17, F17, h18, F18, h19, F19, h20, F20, G1, G2, h21, F21, wl1, wb1, hself]) ?_)
  all_goals first | (refine runsD_cons (by conv => lhs; simp [h28, F28, gD, hg1', hg2', hg3', h17, F17, h18, F18, h19, F19, h20, F20, G1, G2, h21, F21, wl1, wb1, hself]) ?_) | (refine runsD_guard (by conv => lhs; simp) ?_ ?_ <;> intro hg8 <;> simp only [hg8] <;> refine runsD_cons (by conv => lhs; simp [h28, F28, gD, hg1', hg2', hg3', h17, F17, h18, F18, h19, F19, h20, F20, G1, G2, h21, F21, wl1, wb1, hself]) ?_)
  all_goals refine runsD_cons (by conv => lhs; simp [h28, F28, gD, hg1', hg2', hg3', h17, F17, h18, F18, h19, F19, h20, F20, G1, G2, h21, F21, wl1, wb1, hself]) ?_
  all_goals refine runsD_cons (by conv => lhs; simp [h28, F28, gD, hg1', hg2', hg3', h17, F17, h18, F18, h19, F19, h20, F20, G1, G2, h21, F21, wl1, wb1, hself]) ?_
  all_goals first | (refine runsD_cons (by conv => lhs; simp [h28, F28, gD, hg1', hg2', hg3', h17, F17, h18, F18, h19, F19, h20, F20, G1, G2, h21, F21, wl1, wb1, hself]) ?_) | (refine runsD_guard (by conv => lhs; simp) ?_ ?_ <;> intro hg9 <;> simp only [hg9] <;> refine runsD_cons (by conv => lhs; simp [h28, F28, gD, hg1', hg2', hg3', h17, F17, h18, F18, h19, F19, h20, F20, G1, G2, h21, F21, wl1, wb1, hself]) ?_)
  all_goals first | (refine runsD_cons (by conv => lhs; simp [h28, F28, gD, hg1', hg2', hg3', h17, F17, h18, F18, h19, F19, h20, F20, G1, G2, h21, F21, wl1, wb1, hself]) ?_) | (refine runsD_guard (by conv => lhs; simp) ?_ ?_ <;> intro hg10 <;> simp only [hg10] <;> refine runsD_cons (by conv => lhs; simp [h28, F28, gD, hg1', hg2', hg3', h17, F17, h18, F18, h19, F19, h20, F20, G1, G2, h21, F21, wl1, wb1, hself]) ?_)
  all_goals first | (refine runsD_cons (by conv => lhs; simp [h28, F28, gD, hg1', hg2', hg3', h17, F17, h18, F18, h19, F19, h20, F20, G1, G2, h21, F21, wl1, wb1, hself]) ?_) | (refine runsD_guard (by conv => lhs; simp) ?_ ?_ <;> intro hg11 <;> simp only [hg11] <;> refine runsD_cons (by conv => lhs; simp [h28, F28, gD, hg1', hg2', hg3', h17, F17, h18, F18, h19, F19, h20, F20, G1, G2, h21, F21, wl1, wb1, hself]) ?_)
  all_goals first | (refine runsD_cons (by conv => lhs; simp [h28, F28, gD, hg1', hg2', hg3', h17, F17, h18, F18, h19, F19, h20, F20, G1, G2, h21, F21, wl1, wb1, hself]) ?_) | (refine runsD_guard (by conv => lhs; simp) ?_ ?_ <;> intro hg12 <;> simp only [hg12] <;> refine runsD_cons (by conv => lhs; simp [h28, F28, gD, hg1', hg2', hg3', h17, F17, h18, F18, h19, F19, h20, F20, G1, G2, h21, F21, wl1, wb1, hself]) ?_)
  all_goals first | (refine runsD_cons (by conv => lhs; simp [h28, F28, gD, hg1', hg2', hg3', h17, F17, h18, F18, h19, F19, h20, F20, G1, G2, h21, F21, wl1, wb1, hself]) ?_) | (refine runsD_guard (by conv => lhs; simp) ?_ ?_ <;> intro hg13 <;> simp only [hg13] <;> refine runsD_cons (by conv => lhs; simp [h28, F28, gD, hg1', hg2', hg3', h17, F17, h18, F18, h19, F19, h20, F20, G1, G2, h21, F21, wl1, wb1, hself]) ?_)
  all_goals first | (refine runsD_cons (by conv => lhs; simp [h28, F28, gD, hg1', hg2', hg3', h17, F17, h18, F18, h19, F19, h20, F20, G1, G2, h21, F21, wl1, wb1, hself]) ?_) | (refine runsD_guard (by conv => lhs; simp) ?_ ?_ <;> intro hg14 <;> simp only [hg14] <;> refine runsD_cons (by conv => lhs; simp [h28, F28, gD, hg1', hg2', hg3', h17, F17, h18, F18, h19, F19, h20, F20, G1, G2, h21, F21, wl1, wb1, hself]) ?_)
  all_goals refine runsD_cons (by conv => lhs; simp [h28, F28, gD, hg1', hg2', hg3', h17, F17, h18, F18, h19, F19, h20, F20, G1, G2, h21, F21, wl1, wb1, hself]) ?_
  all_goals
    refine runsD_nil (by kernel_rfl) (then_normal (awp_cond (by conv => lhs; simp) (fun hc15 => ?_) (fun hc15 => ?_)))
    · first | (cases hc15; done) | skip
      all_goals refine awp_seq (awp_region ?_)
      all_goals refine runs_cons (by conv => lhs; simp [h28, F28, gD, hg1', hg2', hg3', h17, F17, h18, F18, h19, F19, h20, F20, G1, G2, h21, F21, wl1, wb1, hself]) ?_
      all_goals refine runs_nil (then_normal (awp_ret (then_ret ?_)))
      all_goals refine ⟨.inr rfl, .inl ?_⟩
      all_goals simp [ares, ares1, sealL, sealV, D.free, D.freeL, distinct]
      all_goals simp only [hc12', hc21', hc23', hc13', capG, ew1, ew2, ew3, eb1, eb2, eb3] at *
      all_goals clear wl1 wl2 wl3 wb1 wb2 wb3 hv1 hv2 hv3 hg1' hg2' hg3' hself
      all_goals simp at *
      all_goals (first | omega | grind | (simp only [Bool.eq_iff_iff, Bool.and_eq_true, Bool.or_eq_true, Bool.not_eq_true', beq_eq_false_iff_ne, beq_iff_eq, decide_eq_true_eq, ne_eq] at *; omega) | trace_state)
    · first | (cases hc15; done) | skip
      all_goals refine awp_skip (then_normal (awp_seq (awp_seq (awp_region ?_))))
      all_goals refine runs_cons (by conv => lhs; simp [h28, F28, gD, hg1', hg2', hg3', h17, F17, h18, F18, h19, F19, h20, F20, G1, G2, h21, F21, wl1, wb1, hself]) ?_
      all_goals refine runs_cons (by conv => lhs; simp [h28, F28, gD, hg1', hg2', hg3', h17, F17, h18, F18, h19, F19, h20, F20, G1, G2, h21, F21, wl1, wb1, hself]) ?_
      all_goals refine runs_cons (by conv => lhs; simp [h28, F28, gD, hg1', hg2', hg3', h17, F17, h18, F18, h19, F19, h20, F20, G1, G2, h21, F21, wl1, wb1, hself]) ?_
      all_goals refine runs_cons (by conv => lhs; simp [h28, F28, gD, hg1', hg2', hg3', h17, F17, h18, F18, h19, F19, h20, F20, G1, G2, h21, F21, wl1, wb1, hself]) ?_
      all_goals
        refine runs_nil (then_normal (awp_cond (by conv => lhs; simp) (fun hc16 => ?_) (fun hc16 => ?_)))
        · first | (cases hc16; done) | skip
          all_goals refine awp_seq (awp_region ?_)
          all_goals refine runs_cons (by conv => lhs; simp [h28, F28, gD, hg1', hg2', hg3', h17, F17, h18, F18, h19, F19, h20, F20, G1, G2, h21, F21, wl1, wb1, hself]) ?_
          all_goals refine runs_cons (by conv => lhs; simp [h28, F28, gD, hg1', hg2', hg3', h17, F17, h18, F18, h19, F19, h20, F20, G1, G2, h21, F21, wl1, wb1, hself]) ?_
          all_goals refine runs_nil (then_normal (awp_ret (then_ret ?_)))
          all_goals refine ⟨.inr rfl, .inl ?_⟩
          all_goals simp [ares, ares1, sealL, sealV, D.free, D.freeL, distinct]
          all_goals simp only [hc12', hc21', hc23', hc13', capG, ew1, ew2, ew3, eb1, eb2, eb3] at *
          all_goals clear wl1 wl2 wl3 wb1 wb2 wb3 hv1 hv2 hv3 hg1' hg2' hg3' hself
          all_goals simp at *
          all_goals (first | omega | grind | (simp only [Bool.eq_iff_iff, Bool.and_eq_true, Bool.or_eq_true, Bool.not_eq_true', beq_eq_false_iff_ne, beq_iff_eq, decide_eq_true_eq, ne_eq] at *; omega) | trace_state)
        · first | (cases hc16; done) | skip
          all_goals refine awp_skip (then_normal (awp_seq (awp_seq (awp_drawn (by kernel_rfl) ?_))))
          all_goals refine runsD_cons (by conv => lhs; simp [h28, F28, gD, hg1', hg2', hg3', h17, F17, h18, F18, h19, F19, h20, F20, G1, G2, h21, F21, wl1, wb1, hself]) ?_
          all_goals refine runsD_cons (by conv => lhs; simp [h28, F28, gD, hg1', hg2', hg3', h17, F17, h18, F18, h19, F19, h20, F20, G1, G2, h21, F21, wl1, wb1, hself]) ?_
          all_goals refine runsD_cons (by conv => lhs; simp [h28, F28, gD, hg1', hg2', hg3', h17, F17, h18, F18, h19, F19, h20, F20, G1, G2, h21, F21, wl1, wb1, hself]) ?_
          all_goals refine runsD_cons (by conv => lhs; simp [h28, F28, gD, hg1', hg2', hg3', h17, F17, h18, F18, h19, F19, h20, F20, G1, G2, h21, F21, wl1, wb1, hself]) ?_
          all_goals refine runsD_cons (by conv => lhs; simp [h28, F28, gD, hg1', hg2', hg3', h17, F17, h18, F18, h19, F19, h20, F20, G1, G2, h21, F21, wl1, wb1, hself]) ?_
          all_goals refine runsD_cons (by conv => lhs; simp [h28, F28, gD, hg1', hg2', hg3', h17, F17, h18, F18, h19, F19, h20, F20, G1, G2, h21, F21, wl1, wb1, hself]) ?_
          all_goals first | (refine runsD_cons (by conv => lhs; simp [h28, F28, gD, hg1', hg2', hg3', h17, F17, h18, F18, h19, F19, h20, F20, G1, G2, h21, F21, wl1, wb1, hself]) ?_) | (refine runsD_guard (by conv => lhs; simp) ?_ ?_ <;> intro hg17 <;> simp only [hg17] <;> refine runsD_cons (by conv => lhs; simp [h28, F28, gD, hg1', hg2', hg3', h17, F17, h18, F18, h19, F19, h20, F20, G1, G2, h21, F21, wl1, wb1, hself]) ?_)
          all_goals first | (refine runsD_cons (by conv => lhs; simp [h28, F28, gD, hg1', hg2', hg3', h17, F17, h18, F18, h19, F19, h20, F20, G1, G2, h21, F21, wl1, wb1, hself]) ?_) | (refine runsD_guard (by conv => lhs; simp) ?_ ?_ <;> intro hg18 <;> simp only [hg18] <;> refine runsD_cons (by conv => lhs; simp [h28, F28, gD, hg1', hg2', hg3', h17, F17, h18, F18, h19, F19, h20, F20, G1, G2, h21, F21, wl1, wb1, hself]) ?_)
          all_goals first | (refine runsD_cons (by conv => lhs; simp [h28, F28, gD, hg1', hg2', hg3', h17, F17, h18, F18, h19, F19, h20, F20, G1, G2, h21, F21, wl1, wb1, hself]) ?_) | (refine runsD_guard (by conv => lhs; simp) ?_ ?_ <;> intro hg19 <;> simp only [hg19] <;> refine runsD_cons (by conv => lhs; simp [h28, F28, gD, hg1', hg2', hg3', h17, F17, h18, F18, h19, F19, h20, F20, G1, G2, h21, F21, wl1, wb1, hself]) ?_)
          all_goals first | (refine runsD_cons (by conv => lhs; simp [h28, F28, gD, hg1', hg2', hg3', h17, F17, h18, F18, h19, F19, h20, F20, G1, G2, h21, F21, wl1, wb1, hself]) ?_) | (refine runsD_guard (by conv => lhs; simp) ?_ ?_ <;> intro hg20 <;> simp only [hg20] <;> refine runsD_cons (by conv => lhs; simp [h28, F28, gD, hg1', hg2', hg3', h17, F17, h18, F18, h19, F19, h20, F20, G1, G2, h21, F21, wl1, wb1, hself]) ?_)
          all_goals first | (refine runsD_cons (by conv => lhs; simp [h28, F28, gD, hg1', hg2', hg3', h17, F17, h18, F18, h19, F19, h20, F20, G1, G2, h21, F21, wl1, wb1, hself]) ?_) | (refine runsD_guard (by conv => lhs; simp) ?_ ?_ <;> intro hg21 <;> simp only [hg21] <;> refine runsD_cons (by conv => lhs; simp [h28, F28, gD, hg1', hg2', hg3', h17, F17, h18, F18, h19, F19, h20, F20, G1, G2, h21, F21, wl1, wb1, hself]) ?_)
          all_goals refine runsD_cons (by conv => lhs; simp [h28, F28, gD, hg1', hg2', hg3', h17, F17, h18, F18, h19, F19, h20, F20, G1, G2, h21, F21, wl1, wb1, hself]) ?_
          all_goals refine runsD_cons (by conv => lhs; simp [h28, F28, gD, hg1', hg2', hg3', h17, F17, h18, F18, h19, F19, h20, F20, G1, G2, h21, F21, wl1, wb1, hself]) ?_
          all_goals first | (refine runsD_cons (by conv => lhs; simp [h28, F28, gD, hg1', hg2', hg3', h17, F17, h18, F18, h19, F19, h20, F20, G1, G2, h21, F21, wl1, wb1, hself]) ?_) | (refine runsD_guard (by conv => lhs; simp) ?_ ?_ <;> intro hg22 <;> simp only [hg22] <;> refine runsD_cons (by conv => lhs; simp [h28, F28, gD, hg1', hg2', hg3', h17, F17, h18, F18, h19, F19, h20, F20, G1, G2, h21, F21, wl1, wb1, hself]) ?_)
          all_goals first | (refine runsD_cons (by conv => lhs; simp [h28, F28, gD, hg1', hg2', hg3', h17, F17, h18, F18, h19, F19, h20, F20, G1, G2, h21, F21, wl1, wb1, hself]) ?_) | (refine runsD_guard (by conv => lhs; simp) ?_ ?_ <;> intro hg23 <;> simp only [hg23] <;> refine runsD_cons (by conv => lhs; simp [h28, F28, gD, hg1', hg2', hg3', h17, F17, h18, F18, h19, F19, h20, F20, G1, G2, h21, F21, wl1, wb1, hself]) ?_)
          all_goals first | (refine runsD_cons (by conv => lhs; simp [h28, F28, gD, hg1', hg2', hg3', h17, F17, h18, F18, h19, F19, h20, F20, G1, G2, h21, F21, wl1, wb1, hself]) ?_) | (refine runsD_guard (by conv => lhs; simp) ?_ ?_ <;> intro hg24 <;> simp only [hg24] <;> refine runsD_cons (by conv => lhs; simp [h28, F28, gD, hg1', hg2', hg3', h17, F17, h18, F18, h19, F19, h20, F20, G1, G2, h21, F21, wl1, wb1, hself]) ?_)
          all_goals first | (refine runsD_cons (by conv => lhs; simp [h28, F28, gD, hg1', hg2', hg3', h17, F17, h18, F18, h19, F19, h20, F20, G1, G2, h21, F21, wl1, wb1, hself]) ?_) | (refine runsD_guard (by conv => lhs; simp) ?_ ?_ <;> intro hg25 <;> simp only [hg25] <;> refine runsD_cons (by conv => lhs; simp [h28, F28, gD, hg1', hg2', hg3', h17, F17, h18, F18, h19, F19, h20, F20, G1, G2, h21, F21, wl1, wb1, hself]) ?_)
          all_goals first | (refine runsD_cons (by conv => lhs; simp [h28, F28, gD, hg1', hg2', hg3', h17, F17, h18, F18, h19, F19, h20, F20, G1, G2, h21, F21, wl1, wb1, hself]) ?_) | (refine runsD_guard (by conv => lhs; simp) ?_ ?_ <;> intro hg26 <;> simp only [hg26] <;> refine runsD_cons (by conv => lhs; simp [h28, F28, gD, hg1', hg2', hg3', h17, F17, h18, F18, h19, F19, h20, F20, G1, G2, h21, F21, wl1, wb1, hself]) ?_)
          all_goals refine runsD_cons (by conv => lhs; simp [h28, F28, gD, hg1', hg2', hg3', h17, F17, h18, F18, h19, F19, h20, F20, G1, G2, h21, F21, wl1, wb1, hself]) ?_
          all_goals
            refine runsD_nil (by kernel_rfl) (then_normal (awp_cond (by conv => lhs; simp) (fun hc27 => ?_) (fun hc27 => ?_)))
            · first | (cases hc27; done) | skip
              all_goals refine awp_seq (awp_region ?_)
              all_goals refine runs_cons (by conv => lhs; simp [h28, F28, gD, hg1', hg2', hg3', h17, F17, h18, F18, h19, F19, h20, F20, G1, G2, h21, F21, wl1, wb1, hself]) ?_
              all_goals refine runs_nil (then_normal (awp_ret (then_ret ?_)))
              all_goals refine ⟨.inr rfl, .inl ?_⟩
              all_goals simp [ares, ares1, sealL, sealV, D.free, D.freeL, distinct]
              all_goals simp only [hc12', hc21', hc23', hc13', capG, ew1, ew2, ew3, eb1, eb2, eb3] at *
              all_goals clear wl1 wl2 wl3 wb1 wb2 wb3 hv1 hv2 hv3 hg1' hg2' hg3' hself
              all_goals simp at *
              all_goals (first | omega | grind | (simp only [Bool.eq_iff_iff, Bool.and_eq_true, Bool.or_eq_true, Bool.not_eq_true', beq_eq_false_iff_ne, beq_iff_eq, decide_eq_true_eq, ne_eq] at *; omega) | trace_state)
            · first | (cases hc27; done) | skip
              all_goals refine awp_skip (then_normal (awp_seq (awp_seq (awp_drawn (by kernel_rfl) ?_))))
              all_goals refine runsD_cons (by conv => lhs; simp [h28, F28, gD, hg1', hg2', hg3', h17, F17, h18, F18, h19, F19, h20, F20, G1, G2, h21, F21, wl1, wb1, hself]) ?_
              all_goals refine runsD_cons (by conv => lhs; simp [h28, F28, gD, hg1', hg2', hg3', h17, F17, h18, F18, h19, F19, h20, F20, G1, G2, h21, F21, wl1, wb1, hself]) ?_
              all_goals refine runsD_cons (by conv => lhs; simp [h28, F28, gD, hg1', hg2', hg3', h17, F17, h18, F18, h19, F19, h20, F20, G1, G2, h21, F21, wl1, wb1, hself]) ?_
              all_goals refine runsD_cons (by conv => lhs; simp [h28, F28, gD, hg1', hg2', hg3', h17, F17, h18, F18, h19, F19, h20, F20, G1, G2, h21, F21, wl1, wb1, hself]) ?_
              all_goals refine runsD_cons (by conv => lhs; simp [h28, F28, gD, hg1', hg2', hg3', h17, F17, h18, F18, h19, F19, h20, F20, G1, G2, h21, F21, wl1, wb1, hself]) ?_
              all_goals refine runsD_cons (by conv => lhs; simp [h28, F28, gD, hg1', hg2', hg3', h17, F17, h18, F18, h19, F19, h20, F20, G1, G2, h21, F21, wl1, wb1, hself]) ?_
              all_goals refine runsD_cons (by conv => lhs; simp [h28, F28, gD, hg1', hg2', hg3', h17, F17, h18, F18, h19, F19, h20, F20, G1, G2, h21, F21, wl1, wb1, hself]) ?_
              all_goals refine runsD_cons (by conv => lhs; simp [h28, F28, gD, hg1', hg2', hg3', h17, F17, h18, F18, h19, F19, h20, F20, G1, G2, h21, F21, wl1, wb1, hself]) ?_
              all_goals refine runsD_cons (by conv => lhs; simp [h28, F28, gD, hg1', hg2', hg3', h17, F17, h18, F18, h19, F19, h20, F20, G1, G2, h21, F21, wl1, wb1, hself]) ?_
              all_goals first | (refine runsD_cons (by conv => lhs; simp [h28, F28, gD, hg1', hg2', hg3', h17, F17, h18, F18, h19, F19, h20, F20, G1, G2, h21, F21, wl1, wb1, hself]) ?_) | (refine runsD_guard (by conv => lhs; simp) ?_ ?_ <;> intro hg28 <;> simp only [hg28] <;> refine runsD_cons (by conv => lhs; simp [h28, F28, gD, hg1', hg2', hg3', h17, F17, h18, F18, h19, F19, h20, F20, G1, G2, h21, F21, wl1, wb1, hself]) ?_)
              all_goals first | (refine runsD_cons (by conv => lhs; simp [h28, F28, gD, hg1', hg2', hg3', h17, F17, h18, F18, h19, F19, h20, F20, G1, G2, h21, F21, wl1, wb1, hself]) ?_) | (refine runsD_guard (by conv => lhs; simp) ?_ ?_ <;> intro hg29 <;> simp only [hg29] <;> refine runsD_cons (by conv => lhs; simp [h28, F28, gD, hg1', hg2', hg3', h17, F17, h18, F18, h19, F19, h20, F20, G1, G2, h21, F21, wl1, wb1, hself]) ?_)
              all_goals first | (refine runsD_cons (by conv => lhs; simp [h28, F28, gD, hg1', hg2', hg3', h17, F17, h18, F18, h19, F19, h20, F20, G1, G2, h21, F21, wl1, wb1, hself]) ?_) | (refine runsD_guard (by conv => lhs; simp) ?_ ?_ <;> intro hg30 <;> simp only [hg30] <;> refine runsD_cons (by conv => lhs; simp [h28, F28, gD, hg1', hg2', hg3', h17, F17, h18, F18, h19, F19, h20, F20, G1, G2, h21, F21, wl1, wb1, hself]) ?_)
              all_goals first | (refine runsD_cons (by conv => lhs; simp [h28, F28, gD, hg1', hg2', hg3', h17, F17, h18, F18, h19, F19, h20, F20, G1, G2, h21, F21, wl1, wb1, hself]) ?_) | (refine runsD_guard (by conv => lhs; simp) ?_ ?_ <;> intro hg31 <;> simp only [hg31] <;> refine runsD_cons (by conv => lhs; simp [h28, F28, gD, hg1', hg2', hg3', h17, F17, h18, F18, h19, F19, h20, F20, G1, G2, h21, F21, wl1, wb1, hself]) ?_)
              all_goals first | (refine runsD_cons (by conv => lhs; simp [h28, F28, gD, hg1', hg2', hg3', h17, F17, h18, F18, h19, F19, h20, F20, G1, G2, h21, F21, wl1, wb1, hself]) ?_) | (refine runsD_guard (by conv => lhs; simp) ?_ ?_ <;> intro hg32 <;> simp only [hg32] <;> refine runsD_cons (by conv => lhs; simp [h28, F28, gD, hg1', hg2', hg3', h17, F17, h18, F18, h19, F19, h20, F20, G1, G2, h21, F21, wl1, wb1, hself]) ?_)
              all_goals refine runsD_cons (by conv => lhs; simp [h28, F28, gD, hg1', hg2', hg3', h17, F17, h18, F18, h19, F19, h20, F20, G1, G2, h21, F21, wl1, wb1, hself]) ?_
              all_goals refine runsD_cons (by conv => lhs; simp [h28, F28, gD, hg1', hg2', hg3', h17, F17, h18, F18, h19, F19, h20, F20, G1, G2, h21, F21, wl1, wb1, hself]) ?_
              all_goals
                refine runsD_nil (by kernel_rfl) (then_normal (awp_cond (by conv => lhs; simp) (fun hc33 => ?_) (fun hc33 => ?_)))
                · first | (cases hc33; done) | skip
                  all_goals refine awp_seq (awp_region ?_)
                  all_goals refine runs_cons (by conv => lhs; simp [h28, F28, gD, hg1', hg2', hg3', h17, F17, h18, F18, h19, F19, h20, F20, G1, G2, h21, F21, wl1, wb1, hself]) ?_
                  all_goals refine runs_nil (then_normal (awp_ret (then_ret ?_)))
                  all_goals refine ⟨.inr rfl, .inl ?_⟩
                  all_goals simp [ares, ares1, sealL, sealV, D.free, D.freeL, distinct]
                  all_goals simp only [hc12', hc21', hc23', hc13', capG, ew1, ew2, ew3, eb1, eb2, eb3] at *
                  all_goals clear wl1 wl2 wl3 wb1 wb2 wb3 hv1 hv2 hv3 hg1' hg2' hg3' hself
                  all_goals simp at *
                  all_goals (first | omega | grind | (simp only [Bool.eq_iff_iff, Bool.and_eq_true, Bool.or_eq_true, Bool.not_eq_true', beq_eq_false_iff_ne, beq_iff_eq, decide_eq_true_eq, ne_eq] at *; omega) | trace_state)
                · first | (cases hc33; done) | skip
                  all_goals refine awp_skip (then_normal (awp_seq (awp_drawn (by kernel_rfl) ?_)))
                  all_goals refine runsD_cons (by conv => lhs; simp [h28, F28, gD, hg1', hg2', hg3', h17, F17, h18, F18, h19, F19, h20, F20, G1, G2, h21, F21, wl1, wb1, hself]) ?_
                  all_goals refine runsD_cons (by conv => lhs; simp [h28, F28, gD, hg1', hg2', hg3', h17, F17, h18, F18, h19, F19, h20, F20, G1, G2, h21, F21, wl1, wb1, hself]) ?_
                  all_goals refine runsD_cons (by conv => lhs; simp [h28, F28, gD, hg1', hg2', hg3', h17, F17, h18, F18, h19, F19, h20, F20, G1, G2, h21, F21, wl1, wb1, hself]) ?_
                  all_goals refine runsD_cons (by conv => lhs; simp [h28, F28, gD, hg1', hg2', hg3', h17, F17, h18, F18, h19, F19, h20, F20, G1, G2, h21, F21, wl1, wb1, hself]) ?_
                  all_goals refine runsD_cons (by conv => lhs; simp [h28, F28, gD, hg1', hg2', hg3', h17, F17, h18, F18, h19, F19, h20, F20, G1, G2, h21, F21, wl1, wb1, hself]) ?_
                  all_goals first | (refine runsD_cons (by conv => lhs; simp [h28, F28, gD, hg1', hg2', hg3', h17, F17, h18, F18, h19, F19, h20, F20, G1, G2, h21, F21, wl1, wb1, hself]) ?_) | (refine runsD_guard (by conv => lhs; simp) ?_ ?_ <;> intro hg34 <;> simp only [hg34] <;> refine runsD_cons (by conv => lhs; simp [h28, F28, gD, hg1', hg2', hg3', h17, F17, h18, F18, h19, F19, h20, F20, G1, G2, h21, F21, wl1, wb1, hself]) ?_)
                  all_goals first | (refine runsD_cons (by conv => lhs; simp [h28, F28, gD, hg1', hg2', hg3', h17, F17, h18, F18, h19, F19, h20, F20, G1, G2, h21, F21, wl1, wb1, hself]) ?_) | (refine runsD_guard (by conv => lhs; simp) ?_ ?_ <;> intro hg35 <;> simp only [hg35] <;> refine runsD_cons (by conv => lhs; simp [h28, F28, gD, hg1', hg2', hg3', h17, F17, h18, F18, h19, F19, h20, F20, G1, G2, h21, F21, wl1, wb1, hself]) ?_)
                  all_goals first | (refine runsD_cons (by conv => lhs; simp [h28, F28, gD, hg1', hg2', hg3', h17, F17, h18, F18, h19, F19, h20, F20, G1, G2, h21, F21, wl1, wb1, hself]) ?_) | (refine runsD_guard (by conv => lhs; simp) ?_ ?_ <;> intro hg36 <;> simp only [hg36] <;> refine runsD_cons (by conv => lhs; simp [h28, F28, gD, hg1', hg2', hg3', h17, F17, h18, F18, h19, F19, h20, F20, G1, G2, h21, F21, wl1, wb1, hself]) ?_)
                  all_goals first | (refine runsD_cons (by conv => lhs; simp [h28, F28, gD, hg1', hg2', hg3', h17, F17, h18, F18, h19, F19, h20, F20, G1, G2, h21, F21, wl1, wb1, hself]) ?_) | (refine runsD_guard (by conv => lhs; simp) ?_ ?_ <;> intro hg37 <;> simp only [hg37] <;> refine runsD_cons (by conv => lhs; simp [h28, F28, gD, hg1', hg2', hg3', h17, F17, h18, F18, h19, F19, h20, F20, G1, G2, h21, F21, wl1, wb1, hself]) ?_)
                  all_goals first | (refine runsD_cons (by conv => lhs; simp [h28, F28, gD, hg1', hg2', hg3', h17, F17, h18, F18, h19, F19, h20, F20, G1, G2, h21, F21, wl1, wb1, hself]) ?_) | (refine runsD_guard (by conv => lhs; simp) ?_ ?_ <;> intro hg38 <;> simp only [hg38] <;> refine runsD_cons (by conv => lhs; simp [h28, F28, gD, hg1', hg2', hg3', h17, F17, h18, F18, h19, F19, h20, F20, G1, G2, h21, F21, wl1, wb1, hself]) ?_)
                  all_goals first | (refine runsD_cons (by conv => lhs; simp [h28, F28, gD, hg1', hg2', hg3', h17, F17, h18, F18, h19, F19, h20, F20, G1, G2, h21, F21, wl1, wb1, hself]) ?_) | (refine runsD_guard (by conv => lhs; simp) ?_ ?_ <;> intro hg39 <;> simp only [hg39] <;> refine runsD_cons (by conv => lhs; simp [h28, F28, gD, hg1', hg2', hg3', h17, F17, h18, F18, h19, F19, h20, F20, G1, G2, h21, F21, wl1, wb1, hself]) ?_)
                  all_goals first | (refine runsD_cons (by conv => lhs; simp [h28, F28, gD, hg1', hg2', hg3', h17, F17, h18, F18, h19, F19, h20, F20, G1, G2, h21, F21, wl1, wb1, hself]) ?_) | (refine runsD_guard (by conv => lhs; simp) ?_ ?_ <;> intro hg40 <;> simp only [hg40] <;> refine runsD_cons (by conv => lhs; simp [h28, F28, gD, hg1', hg2', hg3', h17, F17, h18, F18, h19, F19, h20, F20, G1, G2, h21, F21, wl1, wb1, hself]) ?_)
                  all_goals refine runsD_cons (by conv => lhs; simp [h28, F28, gD, hg1', hg2', hg3', h17, F17, h18, F18, h19, F19, h20, F20, G1, G2, h21, F21, wl1, wb1, hself]) ?_
                  all_goals refine runsD_cons (by conv => lhs; simp [h28, F28, gD, hg1', hg2', hg3', h17, F17, h18, F18, h19, F19, h20, F20, G1, G2, h21, F21, wl1, wb1, hself]) ?_
                  all_goals first | (refine runsD_cons (by conv => lhs; simp [h28, F28, gD, hg1', hg2', hg3', h17, F17, h18, F18, h19, F19, h20, F20, G1, G2, h21, F21, wl1, wb1, hself]) ?_) | (refine runsD_guard (by conv => lhs; simp) ?_ ?_ <;> intro hg41 <;> simp only [hg41] <;> refine runsD_cons (by conv => lhs; simp [h28, F28, gD, hg1', hg2', hg3', h17, F17, h18, F18, h19, F19, h20, F20, G1, G2, h21, F21, wl1, wb1, hself]) ?_)
                  all_goals refine runsD_cons (by conv => lhs; simp [h28, F28, gD, hg1', hg2', hg3', h17, F17, h18, F18, h19, F19, h20, F20, G1, G2, h21, F21, wl1, wb1, hself]) ?_
                  all_goals refine runsD_cons (by conv => lhs; simp [h28, F28, gD, hg1', hg2', hg3', h17, F17, h18, F18, h19, F19, h20, F20, G1, G2, h21, F21, wl1, wb1, hself]) ?_
                  all_goals refine runsD_nil (by kernel_rfl) (then_normal (awp_ret ?_))
                  all_goals refine ⟨.inr rfl, .inl ?_⟩
                  all_goals simp [ares, ares1, sealL, sealV, D.free, D.freeL, distinct]
                  all_goals simp only [hc12', hc21', hc23', hc13', capG, ew1, ew2, ew3, eb1, eb2, eb3] at *
                  all_goals clear wl1 wl2 wl3 wb1 wb2 wb3 hv1 hv2 hv3 hg1' hg2' hg3' hself
                  all_goals simp at *
                  all_goals (first | omega | grind | (simp only [Bool.eq_iff_iff, Bool.and_eq_true, Bool.or_eq_true, Bool.not_eq_true', beq_eq_false_iff_ne, beq_iff_eq, decide_eq_true_eq, ne_eq] at *; omega) | trace_state)
end Wf
