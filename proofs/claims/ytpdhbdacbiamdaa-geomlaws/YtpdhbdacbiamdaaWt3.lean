/-
  Geometry: what the functions do, and their plain twins.
-/
import Derived.Test.YtpdhbdacbiamdaaWt2
set_option linter.unusedVariables false
set_option linter.unusedSimpArgs false
set_option linter.unnecessarySimpa false
namespace Wf
open Go Go.RowKit Go.Proofs
set_option maxRecDepth 10000
theorem wrap_bud {l d c : Int} (h : validG l d c = true) : IntKind.i64.wrap (l - 4) = budgetG l d c := by
  have := valid_iff.1 h
  unfold budgetG; rw [if_pos h]; exact wrap_fit (by omega) (by omega)
theorem wrap_wid {l d c : Int} (h : validG l d c = true) : IntKind.i64.wrap (d - budgetG l d c) = widthG l d c := by
  have := valid_iff.1 h
  unfold budgetG widthG; rw [if_pos h, if_pos h]; exact wrap_fit (by omega) (by omega)
theorem wid_le (l d c : Int) : 0 ≤ widthG l d c ∧ widthG l d c ≤ 8 := by
  unfold widthG
  split
  · rename_i h; have := valid_iff.1 h; omega
  · omega
theorem wrap_cap (l d c : Int) : IntKind.i64.wrap (widthG l d c * 16) = capG l d c := by
  have := wid_le l d c
  exact wrap_fit (by omega) (by omega)
set_option maxHeartbeats 4000000 in
theorem s17 {Γ : PEnv} (hΓ : Γ.Ok Try.prog) (h16 : Γ 16 = some ([1], F16)) : SoundP Try.prog 17 [1] F17 := by
  refine soundP_of hΓ mixed Try.func17 (by kernel_rfl) rfl (fun γ0 ds r hF => ?_)
  unfold F17 G1 at hF
  split at hF
  rotate_left
  · cases hF
  rename_i l d c
  injection hF with hF; subst hF
  have e1 : validG l d c = true → IntKind.i64.wrap (l - 4) = budgetG l d c := wrap_bud
  have e0 : validG l d c = false → budgetG l d c = 0 := fun h => by simp [budgetG, h]
  rw [show Try.f17.ntmps = 9 from rfl, show Try.f17.results.toList = [.tmp 2] from rfl]
  all_goals refine awp_seq (awp_region ?_)
  all_goals refine runs_cons (by conv => lhs; simp [h16, F16, G1]) ?_
  all_goals refine runs_cons (by conv => lhs; simp [h16, F16, G1]) ?_
  all_goals refine runs_nil (then_normal (awp_seq (awp_seq (awp_region ?_))))
  all_goals refine runs_cons (by conv => lhs; simp [h16, F16, G1]) ?_
  all_goals refine runs_cons (by conv => lhs; simp [h16, F16, G1]) ?_
  all_goals refine runs_cons (by conv => lhs; simp [h16, F16, G1]) ?_
  all_goals
    refine runs_nil (then_normal (awp_cond (by conv => lhs; simp) (fun hc1 => ?_) (fun hc1 => ?_)))
    · first | (cases hc1; done) | skip
      all_goals refine awp_seq (awp_region ?_)
      all_goals refine runs_cons (by conv => lhs; simp [h16, F16, G1]) ?_
      all_goals refine runs_nil (then_normal (awp_ret (then_ret ?_)))
      all_goals refine ⟨.inr rfl, .inl ?_⟩
      all_goals simp [ares, ares1, sealL, sealV, D.free, distinct]
      all_goals simp_all
    · first | (cases hc1; done) | skip
      all_goals refine awp_skip (then_normal (awp_seq (awp_region ?_)))
      all_goals refine runs_cons (by conv => lhs; simp [h16, F16, G1]) ?_
      all_goals refine runs_cons (by conv => lhs; simp [h16, F16, G1]) ?_
      all_goals refine runs_cons (by conv => lhs; simp [h16, F16, G1]) ?_
      all_goals refine runs_cons (by conv => lhs; simp [h16, F16, G1]) ?_
      all_goals refine runs_nil (then_normal (awp_ret ?_))
      all_goals refine ⟨.inr rfl, .inl ?_⟩
      all_goals simp [ares, ares1, sealL, sealV, D.free, distinct]
      all_goals simp_all
set_option maxHeartbeats 4000000 in
theorem s18 {Γ : PEnv} (hΓ : Γ.Ok Try.prog) (h16 : Γ 16 = some ([1], F16)) (h17 : Γ 17 = some ([1], F17)) : SoundP Try.prog 18 [1] F18 := by
  refine soundP_of hΓ mixed Try.func18 (by kernel_rfl) rfl (fun γ0 ds r hF => ?_)
  unfold F18 G1 at hF
  split at hF
  rotate_left
  · cases hF
  rename_i l d c
  injection hF with hF; subst hF
  have e1 : validG l d c = true → IntKind.i64.wrap (d - budgetG l d c) = widthG l d c := wrap_wid
  have e0 : validG l d c = false → widthG l d c = 0 := fun h => by simp [widthG, h]
  rw [show Try.f18.ntmps = 11 from rfl, show Try.f18.results.toList = [.tmp 2] from rfl]
  all_goals refine awp_seq (awp_region ?_)
  all_goals refine runs_cons (by conv => lhs; simp [h16, F16, h17, F17, G1]) ?_
  all_goals refine runs_cons (by conv => lhs; simp [h16, F16, h17, F17, G1]) ?_
  all_goals refine runs_nil (then_normal (awp_seq (awp_seq (awp_region ?_))))
  all_goals refine runs_cons (by conv => lhs; simp [h16, F16, h17, F17, G1]) ?_
  all_goals refine runs_cons (by conv => lhs; simp [h16, F16, h17, F17, G1]) ?_
  all_goals refine runs_cons (by conv => lhs; simp [h16, F16, h17, F17, G1]) ?_
  all_goals
    refine runs_nil (then_normal (awp_cond (by conv => lhs; simp) (fun hc1 => ?_) (fun hc1 => ?_)))
    · first | (cases hc1; done) | skip
      all_goals refine awp_seq (awp_region ?_)
      all_goals refine runs_cons (by conv => lhs; simp [h16, F16, h17, F17, G1]) ?_
      all_goals refine runs_nil (then_normal (awp_ret (then_ret ?_)))
      all_goals refine ⟨.inr rfl, .inl ?_⟩
      all_goals simp [ares, ares1, sealL, sealV, D.free, distinct]
      all_goals simp_all
    · first | (cases hc1; done) | skip
      all_goals refine awp_skip (then_normal (awp_seq (awp_drawn (by kernel_rfl) ?_)))
      all_goals refine runsD_cons (by conv => lhs; simp [h16, F16, h17, F17, G1]) ?_
      all_goals refine runsD_cons (by conv => lhs; simp [h16, F16, h17, F17, G1]) ?_
      all_goals refine runsD_cons (by conv => lhs; simp [h16, F16, h17, F17, G1]) ?_
      all_goals refine runsD_cons (by conv => lhs; simp [h16, F16, h17, F17, G1]) ?_
      all_goals refine runsD_cons (by conv => lhs; simp [h16, F16, h17, F17, G1]) ?_
      all_goals refine runsD_cons (by conv => lhs; simp [h16, F16, h17, F17, G1]) ?_
      all_goals refine runsD_nil (by kernel_rfl) (then_normal (awp_ret ?_))
      all_goals refine ⟨.inr rfl, .inl ?_⟩
      all_goals simp [ares, ares1, sealL, sealV, D.free, distinct]
      all_goals simp_all
set_option maxHeartbeats 4000000 in
theorem s19 {Γ : PEnv} (hΓ : Γ.Ok Try.prog) (h18 : Γ 18 = some ([1], F18)) : SoundP Try.prog 19 [1] F19 := by
  refine soundP_of hΓ mixed Try.func19 (by kernel_rfl) rfl (fun γ0 ds r hF => ?_)
  unfold F19 G1 at hF
  split at hF
  rotate_left
  · cases hF
  rename_i l d c
  injection hF with hF; subst hF
  rw [show Try.f19.ntmps = 6 from rfl, show Try.f19.results.toList = [.tmp 2] from rfl]
  all_goals refine awp_seq (awp_region ?_)
  all_goals refine runs_cons (by conv => lhs; simp [h18, F18, G1, wrap_cap]) ?_
  all_goals refine runs_cons (by conv => lhs; simp [h18, F18, G1, wrap_cap]) ?_
  all_goals refine runs_nil (then_normal (awp_seq (awp_region ?_)))
  all_goals refine runs_cons (by conv => lhs; simp [h18, F18, G1, wrap_cap]) ?_
  all_goals refine runs_cons (by conv => lhs; simp [h18, F18, G1, wrap_cap]) ?_
  all_goals refine runs_cons (by conv => lhs; simp [h18, F18, G1, wrap_cap]) ?_
  all_goals refine runs_cons (by conv => lhs; simp [h18, F18, G1, wrap_cap]) ?_
  all_goals refine runs_nil (then_normal (awp_ret ?_))
  all_goals refine ⟨.inr rfl, .inl ?_⟩
  all_goals simp [ares, ares1, sealL, sealV, D.free, distinct]
set_option maxHeartbeats 4000000 in
theorem s20 {Γ : PEnv} (hΓ : Γ.Ok Try.prog) (h16 : Γ 16 = some ([1], F16)) (h18 : Γ 18 = some ([1], F18)) : SoundP Try.prog 20 [1] F20 := by
  refine soundP_of hΓ mixed Try.func20 (by kernel_rfl) rfl (fun γ0 ds r hF => ?_)
  unfold F20 G2 at hF
  split at hF
  rotate_left
  · cases hF
  rename_i l d c x y z
  injection hF with hF; subst hF
  rw [show Try.f20.ntmps = 39 from rfl, show Try.f20.results.toList = [.tmp 4] from rfl]
  all_goals refine awp_seq (awp_region ?_)
  all_goals refine runs_cons (by conv => lhs; simp [h16, F16, h18, F18, G1]) ?_
  all_goals refine runs_cons (by conv => lhs; simp [h16, F16, h18, F18, G1]) ?_
  all_goals refine runs_cons (by conv => lhs; simp [h16, F16, h18, F18, G1]) ?_
  all_goals refine runs_nil (then_normal (awp_seq (awp_drawn (by kernel_rfl) ?_)))
  all_goals refine runsD_cons (by conv => lhs; simp [h16, F16, h18, F18, G1]) ?_
  all_goals refine runsD_cons (by conv => lhs; simp [h16, F16, h18, F18, G1]) ?_
  all_goals refine runsD_cons (by conv => lhs; simp [h16, F16, h18, F18, G1]) ?_
  all_goals refine runsD_cons (by conv => lhs; simp [h16, F16, h18, F18, G1]) ?_
  all_goals first | (refine runsD_cons (by conv => lhs; simp [h16, F16, h18, F18, G1]) ?_) | (refine runsD_guard (by conv => lhs; simp) ?_ ?_ <;> intro hg1 <;> simp only [hg1] <;> refine runsD_cons (by conv => lhs; simp [h16, F16, h18, F18, G1]) ?_)
  all_goals first | (refine runsD_cons (by conv => lhs; simp [h16, F16, h18, F18, G1]) ?_) | (refine runsD_guard (by conv => lhs; simp) ?_ ?_ <;> intro hg2 <;> simp only [hg2] <;> refine runsD_cons (by conv => lhs; simp [h16, F16, h18, F18, G1]) ?_)
  all_goals first | (refine runsD_cons (by conv => lhs; simp [h16, F16, h18, F18, G1]) ?_) | (refine runsD_guard (by conv => lhs; simp) ?_ ?_ <;> intro hg3 <;> simp only [hg3] <;> refine runsD_cons (by conv => lhs; simp [h16, F16, h18, F18, G1]) ?_)
  all_goals refine runsD_cons (by conv => lhs; simp [h16, F16, h18, F18, G1]) ?_
  all_goals refine runsD_cons (by conv => lhs; simp [h16, F16, h18, F18, G1]) ?_
  all_goals first | (refine runsD_cons (by conv => lhs; simp [h16, F16, h18, F18, G1]) ?_) | (refine runsD_guard (by conv => lhs; simp) ?_ ?_ <;> intro hg4 <;> simp only [hg4] <;> refine runsD_cons (by conv => lhs; simp [h16, F16, h18, F18, G1]) ?_)
  all_goals first | (refine runsD_cons (by conv => lhs; simp [h16, F16, h18, F18, G1]) ?_) | (refine runsD_guard (by conv => lhs; simp) ?_ ?_ <;> intro hg5 <;> simp only [hg5] <;> refine runsD_cons (by conv => lhs; simp [h16, F16, h18, F18, G1]) ?_)
  all_goals first | (refine runsD_cons (by conv => lhs; simp [h16, F16, h18, F18, G1]) ?_) | (refine runsD_guard (by conv => lhs; simp) ?_ ?_ <;> intro hg6 <;> simp only [hg6] <;> refine runsD_cons (by conv => lhs; simp [h16, F16, h18, F18, G1]) ?_)
  all_goals refine runsD_cons (by conv => lhs; simp [h16, F16, h18, F18, G1]) ?_
  all_goals refine runsD_cons (by conv => lhs; simp [h16, F16, h18, F18, G1]) ?_
  all_goals first | (refine runsD_cons (by conv => lhs; simp [h16, F16, h18, F18, G1]) ?_) | (refine runsD_guard (by conv => lhs; simp) ?_ ?_ <;> intro hg7 <;> simp only [hg7] <;> refine runsD_cons (by conv => lhs; simp [h16, F16, h18, F18, G1]) ?_)
  all_goals first | (refine runsD_cons (by conv => lhs; simp [h16, F16, h18, F18, G1]) ?_) | (refine runsD_guard (by conv => lhs; simp) ?_ ?_ <;> intro hg8 <;> simp only [hg8] <;> refine runsD_cons (by conv => lhs; simp [h16, F16, h18, F18, G1]) ?_)
  all_goals first | (refine runsD_cons (by conv => lhs; simp [h16, F16, h18, F18, G1]) ?_) | (refine runsD_guard (by conv => lhs; simp) ?_ ?_ <;> intro hg9 <;> simp only [hg9] <;> refine runsD_cons (by conv => lhs; simp [h16, F16, h18, F18, G1]) ?_)
  all_goals first | (refine runsD_cons (by conv => lhs; simp [h16, F16, h18, F18, G1]) ?_) | (refine runsD_guard (by conv => lhs; simp) ?_ ?_ <;> intro hg10 <;> simp only [hg10] <;> refine runsD_cons (by conv => lhs; simp [h16, F16, h18, F18, G1]) ?_)
  all_goals first | (refine runsD_cons (by conv => lhs; simp [h16, F16, h18, F18, G1]) ?_) | (refine runsD_guard (by conv => lhs; simp) ?_ ?_ <;> intro hg11 <;> simp only [hg11] <;> refine runsD_cons (by conv => lhs; simp [h16, F16, h18, F18, G1]) ?_)
  all_goals refine runsD_cons (by conv => lhs; simp [h16, F16, h18, F18, G1]) ?_
  all_goals refine runsD_cons (by conv => lhs; simp [h16, F16, h18, F18, G1]) ?_
  all_goals first | (refine runsD_cons (by conv => lhs; simp [h16, F16, h18, F18, G1]) ?_) | (refine runsD_guard (by conv => lhs; simp) ?_ ?_ <;> intro hg12 <;> simp only [hg12] <;> refine runsD_cons (by conv => lhs; simp [h16, F16, h18, F18, G1]) ?_)
  all_goals first | (refine runsD_cons (by conv => lhs; simp [h16, F16, h18, F18, G1]) ?_) | (refine runsD_guard (by conv => lhs; simp) ?_ ?_ <;> intro hg13 <;> simp only [hg13] <;> refine runsD_cons (by conv => lhs; simp [h16, F16, h18, F18, G1]) ?_)
  all_goals first | (refine runsD_cons (by conv => lhs; simp [h16, F16, h18, F18, G1]) ?_) | (refine runsD_guard (by conv => lhs; simp) ?_ ?_ <;> intro hg14 <;> simp only [hg14] <;> refine runsD_cons (by conv => lhs; simp [h16, F16, h18, F18, G1]) ?_)
  all_goals first | (refine runsD_cons (by conv => lhs; simp [h16, F16, h18, F18, G1]) ?_) | (refine runsD_guard (by conv => lhs; simp) ?_ ?_ <;> intro hg15 <;> simp only [hg15] <;> refine runsD_cons (by conv => lhs; simp [h16, F16, h18, F18, G1]) ?_)
  all_goals first | (refine runsD_cons (by conv => lhs; simp [h16, F16, h18, F18, G1]) ?_) | (refine runsD_guard (by conv => lhs; simp) ?_ ?_ <;> intro hg16 <;> simp only [hg16] <;> refine runsD_cons (by conv => lhs; simp [h16, F16, h18, F18, G1]) ?_)
  all_goals refine runsD_cons (by conv => lhs; simp [h16, F16, h18, F18, G1]) ?_
  all_goals refine runsD_cons (by conv => lhs; simp [h16, F16, h18, F18, G1]) ?_
  all_goals first | (refine runsD_cons (by conv => lhs; simp [h16, F16, h18, F18, G1]) ?_) | (refine runsD_guard (by conv => lhs; simp) ?_ ?_ <;> intro hg17 <;> simp only [hg17] <;> refine runsD_cons (by conv => lhs; simp [h16, F16, h18, F18, G1]) ?_)
  all_goals first | (refine runsD_cons (by conv => lhs; simp [h16, F16, h18, F18, G1]) ?_) | (refine runsD_guard (by conv => lhs; simp) ?_ ?_ <;> intro hg18 <;> simp only [hg18] <;> refine runsD_cons (by conv => lhs; simp [h16, F16, h18, F18, G1]) ?_)
  all_goals first | (refine runsD_cons (by conv => lhs; simp [h16, F16, h18, F18, G1]) ?_) | (refine runsD_guard (by conv => lhs; simp) ?_ ?_ <;> intro hg19 <;> simp only [hg19] <;> refine runsD_cons (by conv => lhs; simp [h16, F16, h18, F18, G1]) ?_)
  all_goals first | (refine runsD_cons (by conv => lhs; simp [h16, F16, h18, F18, G1]) ?_) | (refine runsD_guard (by conv => lhs; simp) ?_ ?_ <;> intro hg20 <;> simp only [hg20] <;> refine runsD_cons (by conv => lhs; simp [h16, F16, h18, F18, G1]) ?_)
  all_goals first | (refine runsD_cons (by conv => lhs; simp [h16, F16, h18, F18, G1]) ?_) | (refine runsD_guard (by conv => lhs; simp) ?_ ?_ <;> intro hg21 <;> simp only [hg21] <;> refine runsD_cons (by conv => lhs; simp [h16, F16, h18, F18, G1]) ?_)
  all_goals refine runsD_cons (by conv => lhs; simp [h16, F16, h18, F18, G1]) ?_
  all_goals refine runsD_cons (by conv => lhs; simp [h16, F16, h18, F18, G1]) ?_
  all_goals refine runsD_nil (by kernel_rfl) (then_normal (awp_ret ?_))
  all_goals refine ⟨.inr rfl, .inl ?_⟩
  all_goals simp [ares, ares1, sealL, sealV, D.free, distinct]
  all_goals simp_all [canG]
  all_goals (intros; omega)
set_option maxHeartbeats 4000000 in
theorem s23 {Γ : PEnv} (hΓ : Γ.Ok Try.prog) : SoundP Try.prog 23 [1] F23 := by
  refine soundP_of hΓ mixed Try.func23 (by kernel_rfl) rfl (fun γ0 ds r hF => ?_)
  unfold F23 G1 at hF
  split at hF
  rotate_left
  · cases hF
  rename_i l d c
  injection hF with hF; subst hF
  rw [show Try.f23.ntmps = 41 from rfl, show Try.f23.results.toList = [.tmp 2] from rfl]
  all_goals refine awp_seq (awp_region ?_)
  all_goals refine runs_cons (by conv => lhs; simp) ?_
  all_goals refine runs_cons (by conv => lhs; simp) ?_
  all_goals refine runs_nil (then_normal (awp_seq (awp_region ?_)))
  all_goals refine runs_cons (by conv => lhs; simp) ?_
  all_goals refine runs_nil (then_normal (awp_seq (awp_seq (awp_region ?_))))
  all_goals refine runs_cons (by conv => lhs; simp) ?_
  all_goals refine runs_cons (by conv => lhs; simp) ?_
  all_goals refine runs_cons (by conv => lhs; simp) ?_
  all_goals
    refine runs_nil (then_normal (awp_cond (by conv => lhs; simp) (fun hc1 => ?ca1) (fun hc1 => ?cb1)))
    case' ca1 =>
      first | (cases hc1; done) | skip
      all_goals refine awp_region ?_
      all_goals refine runs_cons (by conv => lhs; simp) ?_
      all_goals refine runs_nil ?_
    case' cb1 =>
      first | (cases hc1; done) | skip
      all_goals refine awp_skip ?_
  all_goals refine then_normal (awp_seq (awp_region ?_))
  all_goals refine runs_cons (by conv => lhs; simp) ?_
  all_goals refine runs_cons (by conv => lhs; simp) ?_
  all_goals refine runs_cons (by conv => lhs; simp) ?_
  all_goals refine runs_cons (by conv => lhs; simp) ?_
  all_goals first | (refine runs_cons (by conv => lhs; simp) ?_) | (refine runs_guard (by conv => lhs; simp) ?_ ?_ <;> intro hg2 <;> simp only [hg2] <;> refine runs_cons (by conv => lhs; simp) ?_)
  all_goals first | (refine runs_cons (by conv => lhs; simp) ?_) | (refine runs_guard (by conv => lhs; simp) ?_ ?_ <;> intro hg3 <;> simp only [hg3] <;> refine runs_cons (by conv => lhs; simp) ?_)
  all_goals first | (refine runs_cons (by conv => lhs; simp) ?_) | (refine runs_guard (by conv => lhs; simp) ?_ ?_ <;> intro hg4 <;> simp only [hg4] <;> refine runs_cons (by conv => lhs; simp) ?_)
  all_goals refine runs_cons (by conv => lhs; simp) ?_
  all_goals refine runs_cons (by conv => lhs; simp) ?_
  all_goals first | (refine runs_cons (by conv => lhs; simp) ?_) | (refine runs_guard (by conv => lhs; simp) ?_ ?_ <;> intro hg5 <;> simp only [hg5] <;> refine runs_cons (by conv => lhs; simp) ?_)
  all_goals first | (refine runs_cons (by conv => lhs; simp) ?_) | (refine runs_guard (by conv => lhs; simp) ?_ ?_ <;> intro hg6 <;> simp only [hg6] <;> refine runs_cons (by conv => lhs; simp) ?_)
  all_goals first | (refine runs_cons (by conv => lhs; simp) ?_) | (refine runs_guard (by conv => lhs; simp) ?_ ?_ <;> intro hg7 <;> simp only [hg7] <;> refine runs_cons (by conv => lhs; simp) ?_)
  all_goals first | (refine runs_cons (by conv => lhs; simp) ?_) | (refine runs_guard (by conv => lhs; simp) ?_ ?_ <;> intro hg8 <;> simp only [hg8] <;> refine runs_cons (by conv => lhs; simp) ?_)
  all_goals refine runs_cons (by conv => lhs; simp) ?_
  all_goals refine runs_cons (by conv => lhs; simp) ?_
  all_goals first | (refine runs_cons (by conv => lhs; simp) ?_) | (refine runs_guard (by conv => lhs; simp) ?_ ?_ <;> intro hg9 <;> simp only [hg9] <;> refine runs_cons (by conv => lhs; simp) ?_)
  all_goals first | (refine runs_cons (by conv => lhs; simp) ?_) | (refine runs_guard (by conv => lhs; simp) ?_ ?_ <;> intro hg10 <;> simp only [hg10] <;> refine runs_cons (by conv => lhs; simp) ?_)
  all_goals first | (refine runs_cons (by conv => lhs; simp) ?_) | (refine runs_guard (by conv => lhs; simp) ?_ ?_ <;> intro hg11 <;> simp only [hg11] <;> refine runs_cons (by conv => lhs; simp) ?_)
  all_goals refine runs_cons (by conv => lhs; simp) ?_
  all_goals refine runs_cons (by conv => lhs; simp) ?_
  all_goals first | (refine runs_cons (by conv => lhs; simp) ?_) | (refine runs_guard (by conv => lhs; simp) ?_ ?_ <;> intro hg12 <;> simp only [hg12] <;> refine runs_cons (by conv => lhs; simp) ?_)
  all_goals first | (refine runs_cons (by conv => lhs; simp) ?_) | (refine runs_guard (by conv => lhs; simp) ?_ ?_ <;> intro hg13 <;> simp only [hg13] <;> refine runs_cons (by conv => lhs; simp) ?_)
  all_goals first | (refine runs_cons (by conv => lhs; simp) ?_) | (refine runs_guard (by conv => lhs; simp) ?_ ?_ <;> intro hg14 <;> simp only [hg14] <;> refine runs_cons (by conv => lhs; simp) ?_)
  all_goals first | (refine runs_cons (by conv => lhs; simp) ?_) | (refine runs_guard (by conv => lhs; simp) ?_ ?_ <;> intro hg15 <;> simp only [hg15] <;> refine runs_cons (by conv => lhs; simp) ?_)
  all_goals first | (refine runs_cons (by conv => lhs; simp) ?_) | (refine runs_guard (by conv => lhs; simp) ?_ ?_ <;> intro hg16 <;> simp only [hg16] <;> refine runs_cons (by conv => lhs; simp) ?_)
  all_goals first | (refine runs_cons (by conv => lhs; simp) ?_) | (refine runs_guard (by conv => lhs; simp) ?_ ?_ <;> intro hg17 <;> simp only [hg17] <;> refine runs_cons (by conv => lhs; simp) ?_)
  all_goals first | (refine runs_cons (by conv => lhs; simp) ?_) | (refine runs_guard (by conv => lhs; simp) ?_ ?_ <;> intro hg18 <;> simp only [hg18] <;> refine runs_cons (by conv => lhs; simp) ?_)
  all_goals first | (refine runs_cons (by conv => lhs; simp) ?_) | (refine runs_guard (by conv => lhs; simp) ?_ ?_ <;> intro hg19 <;> simp only [hg19] <;> refine runs_cons (by conv => lhs; simp) ?_)
  all_goals first | (refine runs_cons (by conv => lhs; simp) ?_) | (refine runs_guard (by conv => lhs; simp) ?_ ?_ <;> intro hg20 <;> simp only [hg20] <;> refine runs_cons (by conv => lhs; simp) ?_)
  all_goals first | (refine runs_cons (by conv => lhs; simp) ?_) | (refine runs_guard (by conv => lhs; simp) ?_ ?_ <;> intro hg21 <;> simp only [hg21] <;> refine runs_cons (by conv => lhs; simp) ?_)
  all_goals first | (refine runs_cons (by conv => lhs; simp) ?_) | (refine runs_guard (by conv => lhs; simp) ?_ ?_ <;> intro hg22 <;> simp only [hg22] <;> refine runs_cons (by conv => lhs; simp) ?_)
  all_goals first | (refine runs_cons (by conv => lhs; simp) ?_) | (refine runs_guard (by conv => lhs; simp) ?_ ?_ <;> intro hg23 <;> simp only [hg23] <;> refine runs_cons (by conv => lhs; simp) ?_)
  all_goals first | (refine runs_cons (by conv => lhs; simp) ?_) | (refine runs_guard (by conv => lhs; simp) ?_ ?_ <;> intro hg24 <;> simp only [hg24] <;> refine runs_cons (by conv => lhs; simp) ?_)
  all_goals refine runs_cons (by conv => lhs; simp) ?_
  all_goals refine runs_cons (by conv => lhs; simp) ?_
  all_goals refine runs_nil (then_normal (awp_ret ?_))
  all_goals refine ⟨.inr rfl, .inl ?_⟩
  all_goals simp [ares, ares1, sealL, sealV, D.free, distinct]
  all_goals simp_all [validG]
  all_goals omega
set_option maxHeartbeats 4000000 in
theorem s24 {Γ : PEnv} (hΓ : Γ.Ok Try.prog) (h23 : Γ 23 = some ([1], F23)) : SoundP Try.prog 24 [1] F17 := by
  refine soundP_of hΓ mixed Try.func24 (by kernel_rfl) rfl (fun γ0 ds r hF => ?_)
  unfold F17 G1 at hF
  split at hF
  rotate_left
  · cases hF
  rename_i l d c
  injection hF with hF; subst hF
  have e1 : validG l d c = true → IntKind.i64.wrap (l - 4) = budgetG l d c := wrap_bud
  have e0 : validG l d c = false → budgetG l d c = 0 := fun h => by simp [budgetG, h]
  rw [show Try.f24.ntmps = 9 from rfl, show Try.f24.results.toList = [.tmp 2] from rfl]
  all_goals refine awp_seq (awp_region ?_)
  all_goals refine runs_cons (by conv => lhs; simp [h23, F23, G1]) ?_
  all_goals refine runs_cons (by conv => lhs; simp [h23, F23, G1]) ?_
  all_goals refine runs_nil (then_normal (awp_seq (awp_seq (awp_region ?_))))
  all_goals refine runs_cons (by conv => lhs; simp [h23, F23, G1]) ?_
  all_goals refine runs_cons (by conv => lhs; simp [h23, F23, G1]) ?_
  all_goals refine runs_cons (by conv => lhs; simp [h23, F23, G1]) ?_
  all_goals
    refine runs_nil (then_normal (awp_cond (by conv => lhs; simp) (fun hc1 => ?_) (fun hc1 => ?_)))
    · first | (cases hc1; done) | skip
      all_goals refine awp_seq (awp_region ?_)
      all_goals refine runs_cons (by conv => lhs; simp [h23, F23, G1]) ?_
      all_goals refine runs_nil (then_normal (awp_ret (then_ret ?_)))
      all_goals refine ⟨.inr rfl, .inl ?_⟩
      all_goals simp [ares, ares1, sealL, sealV, D.free, distinct]
      all_goals simp_all
    · first | (cases hc1; done) | skip
      all_goals refine awp_skip (then_normal (awp_seq (awp_region ?_)))
      all_goals refine runs_cons (by conv => lhs; simp [h23, F23, G1]) ?_
      all_goals refine runs_cons (by conv => lhs; simp [h23, F23, G1]) ?_
      all_goals refine runs_cons (by conv => lhs; simp [h23, F23, G1]) ?_
      all_goals refine runs_cons (by conv => lhs; simp [h23, F23, G1]) ?_
      all_goals refine runs_nil (then_normal (awp_ret ?_))
      all_goals refine ⟨.inr rfl, .inl ?_⟩
      all_goals simp [ares, ares1, sealL, sealV, D.free, distinct]
      all_goals simp_all
set_option maxHeartbeats 4000000 in
theorem s25 {Γ : PEnv} (hΓ : Γ.Ok Try.prog) (h23 : Γ 23 = some ([1], F23)) (h24 : Γ 24 = some ([1], F17)) : SoundP Try.prog 25 [1] F18 := by
  refine soundP_of hΓ mixed Try.func25 (by kernel_rfl) rfl (fun γ0 ds r hF => ?_)
  unfold F18 G1 at hF
  split at hF
  rotate_left
  · cases hF
  rename_i l d c
  injection hF with hF; subst hF
  have e1 : validG l d c = true → IntKind.i64.wrap (d - budgetG l d c) = widthG l d c := wrap_wid
  have e0 : validG l d c = false → widthG l d c = 0 := fun h => by simp [widthG, h]
  rw [show Try.f25.ntmps = 11 from rfl, show Try.f25.results.toList = [.tmp 2] from rfl]
  all_goals refine awp_seq (awp_region ?_)
  all_goals refine runs_cons (by conv => lhs; simp [h23, F23, h24, F17, G1]) ?_
  all_goals refine runs_cons (by conv => lhs; simp [h23, F23, h24, F17, G1]) ?_
  all_goals refine runs_nil (then_normal (awp_seq (awp_seq (awp_region ?_))))
  all_goals refine runs_cons (by conv => lhs; simp [h23, F23, h24, F17, G1]) ?_
  all_goals refine runs_cons (by conv => lhs; simp [h23, F23, h24, F17, G1]) ?_
  all_goals refine runs_cons (by conv => lhs; simp [h23, F23, h24, F17, G1]) ?_
  all_goals
    refine runs_nil (then_normal (awp_cond (by conv => lhs; simp) (fun hc1 => ?_) (fun hc1 => ?_)))
    · first | (cases hc1; done) | skip
      all_goals refine awp_seq (awp_region ?_)
      all_goals refine runs_cons (by conv => lhs; simp [h23, F23, h24, F17, G1]) ?_
      all_goals refine runs_nil (then_normal (awp_ret (then_ret ?_)))
      all_goals refine ⟨.inr rfl, .inl ?_⟩
      all_goals simp [ares, ares1, sealL, sealV, D.free, distinct]
      all_goals simp_all
    · first | (cases hc1; done) | skip
      all_goals refine awp_skip (then_normal (awp_seq (awp_drawn (by kernel_rfl) ?_)))
      all_goals refine runsD_cons (by conv => lhs; simp [h23, F23, h24, F17, G1]) ?_
      all_goals refine runsD_cons (by conv => lhs; simp [h23, F23, h24, F17, G1]) ?_
      all_goals refine runsD_cons (by conv => lhs; simp [h23, F23, h24, F17, G1]) ?_
      all_goals refine runsD_cons (by conv => lhs; simp [h23, F23, h24, F17, G1]) ?_
      all_goals refine runsD_cons (by conv => lhs; simp [h23, F23, h24, F17, G1]) ?_
      all_goals refine runsD_cons (by conv => lhs; simp [h23, F23, h24, F17, G1]) ?_
      all_goals refine runsD_nil (by kernel_rfl) (then_normal (awp_ret ?_))
      all_goals refine ⟨.inr rfl, .inl ?_⟩
      all_goals simp [ares, ares1, sealL, sealV, D.free, distinct]
      all_goals simp_all
set_option maxHeartbeats 4000000 in
theorem s26 {Γ : PEnv} (hΓ : Γ.Ok Try.prog) (h25 : Γ 25 = some ([1], F18)) : SoundP Try.prog 26 [1] F19 := by
  refine soundP_of hΓ mixed Try.func26 (by kernel_rfl) rfl (fun γ0 ds r hF => ?_)
  unfold F19 G1 at hF
  split at hF
  rotate_left
  · cases hF
  rename_i l d c
  injection hF with hF; subst hF
  rw [show Try.f26.ntmps = 6 from rfl, show Try.f26.results.toList = [.tmp 2] from rfl]
  all_goals refine awp_seq (awp_region ?_)
  all_goals refine runs_cons (by conv => lhs; simp [h25, F18, G1, wrap_cap]) ?_
  all_goals refine runs_cons (by conv => lhs; simp [h25, F18, G1, wrap_cap]) ?_
  all_goals refine runs_nil (then_normal (awp_seq (awp_region ?_)))
  all_goals refine runs_cons (by conv => lhs; simp [h25, F18, G1, wrap_cap]) ?_
  all_goals refine runs_cons (by conv => lhs; simp [h25, F18, G1, wrap_cap]) ?_
  all_goals refine runs_cons (by conv => lhs; simp [h25, F18, G1, wrap_cap]) ?_
  all_goals refine runs_cons (by conv => lhs; simp [h25, F18, G1, wrap_cap]) ?_
  all_goals refine runs_nil (then_normal (awp_ret ?_))
  all_goals refine ⟨.inr rfl, .inl ?_⟩
  all_goals simp [ares, ares1, sealL, sealV, D.free, distinct]
set_option maxHeartbeats 4000000 in
theorem s27 {Γ : PEnv} (hΓ : Γ.Ok Try.prog) (h23 : Γ 23 = some ([1], F23)) (h25 : Γ 25 = some ([1], F18)) : SoundP Try.prog 27 [1] F20 := by
  refine soundP_of hΓ mixed Try.func27 (by kernel_rfl) rfl (fun γ0 ds r hF => ?_)
  unfold F20 G2 at hF
  split at hF
  rotate_left
  · cases hF
  rename_i l d c x y z
  injection hF with hF; subst hF
  rw [show Try.f27.ntmps = 37 from rfl, show Try.f27.results.toList = [.tmp 4] from rfl]
  all_goals refine awp_seq (awp_region ?_)
  all_goals refine runs_cons (by conv => lhs; simp [h23, F23, h25, F18, G1]) ?_
  all_goals refine runs_cons (by conv => lhs; simp [h23, F23, h25, F18, G1]) ?_
  all_goals refine runs_cons (by conv => lhs; simp [h23, F23, h25, F18, G1]) ?_
  all_goals refine runs_nil (then_normal (awp_seq (awp_drawn (by kernel_rfl) ?_)))
  all_goals refine runsD_cons (by conv => lhs; simp [h23, F23, h25, F18, G1]) ?_
  all_goals refine runsD_cons (by conv => lhs; simp [h23, F23, h25, F18, G1]) ?_
  all_goals refine runsD_cons (by conv => lhs; simp [h23, F23, h25, F18, G1]) ?_
  all_goals first | (refine runsD_cons (by conv => lhs; simp [h23, F23, h25, F18, G1]) ?_) | (refine runsD_guard (by conv => lhs; simp) ?_ ?_ <;> intro hg1 <;> simp only [hg1] <;> refine runsD_cons (by conv => lhs; simp [h23, F23, h25, F18, G1]) ?_)
  all_goals first | (refine runsD_cons (by conv => lhs; simp [h23, F23, h25, F18, G1]) ?_) | (refine runsD_guard (by conv => lhs; simp) ?_ ?_ <;> intro hg2 <;> simp only [hg2] <;> refine runsD_cons (by conv => lhs; simp [h23, F23, h25, F18, G1]) ?_)
  all_goals refine runsD_cons (by conv => lhs; simp [h23, F23, h25, F18, G1]) ?_
  all_goals refine runsD_cons (by conv => lhs; simp [h23, F23, h25, F18, G1]) ?_
  all_goals first | (refine runsD_cons (by conv => lhs; simp [h23, F23, h25, F18, G1]) ?_) | (refine runsD_guard (by conv => lhs; simp) ?_ ?_ <;> intro hg3 <;> simp only [hg3] <;> refine runsD_cons (by conv => lhs; simp [h23, F23, h25, F18, G1]) ?_)
  all_goals first | (refine runsD_cons (by conv => lhs; simp [h23, F23, h25, F18, G1]) ?_) | (refine runsD_guard (by conv => lhs; simp) ?_ ?_ <;> intro hg4 <;> simp only [hg4] <;> refine runsD_cons (by conv => lhs; simp [h23, F23, h25, F18, G1]) ?_)
  all_goals first | (refine runsD_cons (by conv => lhs; simp [h23, F23, h25, F18, G1]) ?_) | (refine runsD_guard (by conv => lhs; simp) ?_ ?_ <;> intro hg5 <;> simp only [hg5] <;> refine runsD_cons (by conv => lhs; simp [h23, F23, h25, F18, G1]) ?_)
  all_goals refine runsD_cons (by conv => lhs; simp [h23, F23, h25, F18, G1]) ?_
  all_goals refine runsD_cons (by conv => lhs; simp [h23, F23, h25, F18, G1]) ?_
  all_goals first | (refine runsD_cons (by conv => lhs; simp [h23, F23, h25, F18, G1]) ?_) | (refine runsD_guard (by conv => lhs; simp) ?_ ?_ <;> intro hg6 <;> simp only [hg6] <;> refine runsD_cons (by conv => lhs; simp [h23, F23, h25, F18, G1]) ?_)
  all_goals first | (refine runsD_cons (by conv => lhs; simp [h23, F23, h25, F18, G1]) ?_) | (refine runsD_guard (by conv => lhs; simp) ?_ ?_ <;> intro hg7 <;> simp only [hg7] <;> refine runsD_cons (by conv => lhs; simp [h23, F23, h25, F18, G1]) ?_)
  all_goals first | (refine runsD_cons (by conv => lhs; simp [h23, F23, h25, F18, G1]) ?_) | (refine runsD_guard (by conv => lhs; simp) ?_ ?_ <;> intro hg8 <;> simp only [hg8] <;> refine runsD_cons (by conv => lhs; simp [h23, F23, h25, F18, G1]) ?_)
  all_goals first | (refine runsD_cons (by conv => lhs; simp [h23, F23, h25, F18, G1]) ?_) | (refine runsD_guard (by conv => lhs; simp) ?_ ?_ <;> intro hg9 <;> simp only [hg9] <;> refine runsD_cons (by conv => lhs; simp [h23, F23, h25, F18, G1]) ?_)
  all_goals first | (refine runsD_cons (by conv => lhs; simp [h23, F23, h25, F18, G1]) ?_) | (refine runsD_guard (by conv => lhs; simp) ?_ ?_ <;> intro hg10 <;> simp only [hg10] <;> refine runsD_cons (by conv => lhs; simp [h23, F23, h25, F18, G1]) ?_)
  all_goals refine runsD_cons (by conv => lhs; simp [h23, F23, h25, F18, G1]) ?_
  all_goals refine runsD_cons (by conv => lhs; simp [h23, F23, h25, F18, G1]) ?_
  all_goals first | (refine runsD_cons (by conv => lhs; simp [h23, F23, h25, F18, G1]) ?_) | (refine runsD_guard (by conv => lhs; simp) ?_ ?_ <;> intro hg11 <;> simp only [hg11] <;> refine runsD_cons (by conv => lhs; simp [h23, F23, h25, F18, G1]) ?_)
  all_goals first | (refine runsD_cons (by conv => lhs; simp [h23, F23, h25, F18, G1]) ?_) | (refine runsD_guard (by conv => lhs; simp) ?_ ?_ <;> intro hg12 <;> simp only [hg12] <;> refine runsD_cons (by conv => lhs; simp [h23, F23, h25, F18, G1]) ?_)
  all_goals first | (refine runsD_cons (by conv => lhs; simp [h23, F23, h25, F18, G1]) ?_) | (refine runsD_guard (by conv => lhs; simp) ?_ ?_ <;> intro hg13 <;> simp only [hg13] <;> refine runsD_cons (by conv => lhs; simp [h23, F23, h25, F18, G1]) ?_)
  all_goals first | (refine runsD_cons (by conv => lhs; simp [h23, F23, h25, F18, G1]) ?_) | (refine runsD_guard (by conv => lhs; simp) ?_ ?_ <;> intro hg14 <;> simp only [hg14] <;> refine runsD_cons (by conv => lhs; simp [h23, F23, h25, F18, G1]) ?_)
  all_goals first | (refine runsD_cons (by conv => lhs; simp [h23, F23, h25, F18, G1]) ?_) | (refine runsD_guard (by conv => lhs; simp) ?_ ?_ <;> intro hg15 <;> simp only [hg15] <;> refine runsD_cons (by conv => lhs; simp [h23, F23, h25, F18, G1]) ?_)
  all_goals refine runsD_cons (by conv => lhs; simp [h23, F23, h25, F18, G1]) ?_
  all_goals refine runsD_cons (by conv => lhs; simp [h23, F23, h25, F18, G1]) ?_
  all_goals first | (refine runsD_cons (by conv => lhs; simp [h23, F23, h25, F18, G1]) ?_) | (refine runsD_guard (by conv => lhs; simp) ?_ ?_ <;> intro hg16 <;> simp only [hg16] <;> refine runsD_cons (by conv => lhs; simp [h23, F23, h25, F18, G1]) ?_)
  all_goals first | (refine runsD_cons (by conv => lhs; simp [h23, F23, h25, F18, G1]) ?_) | (refine runsD_guard (by conv => lhs; simp) ?_ ?_ <;> intro hg17 <;> simp only [hg17] <;> refine runsD_cons (by conv => lhs; simp [h23, F23, h25, F18, G1]) ?_)
  all_goals first | (refine runsD_cons (by conv => lhs; simp [h23, F23, h25, F18, G1]) ?_) | (refine runsD_guard (by conv => lhs; simp) ?_ ?_ <;> intro hg18 <;> simp only [hg18] <;> refine runsD_cons (by conv => lhs; simp [h23, F23, h25, F18, G1]) ?_)
  all_goals first | (refine runsD_cons (by conv => lhs; simp [h23, F23, h25, F18, G1]) ?_) | (refine runsD_guard (by conv => lhs; simp) ?_ ?_ <;> intro hg19 <;> simp only [hg19] <;> refine runsD_cons (by conv => lhs; simp [h23, F23, h25, F18, G1]) ?_)
  all_goals first | (refine runsD_cons (by conv => lhs; simp [h23, F23, h25, F18, G1]) ?_) | (refine runsD_guard (by conv => lhs; simp) ?_ ?_ <;> intro hg20 <;> simp only [hg20] <;> refine runsD_cons (by conv => lhs; simp [h23, F23, h25, F18, G1]) ?_)
  all_goals refine runsD_cons (by conv => lhs; simp [h23, F23, h25, F18, G1]) ?_
  all_goals refine runsD_cons (by conv => lhs; simp [h23, F23, h25, F18, G1]) ?_
  all_goals refine runsD_nil (by kernel_rfl) (then_normal (awp_ret ?_))
  all_goals refine ⟨.inr rfl, .inl ?_⟩
  all_goals simp [ares, ares1, sealL, sealV, D.free, distinct]
  all_goals simp_all [canG]
  all_goals (intros; omega)
end Wf
