/-
  Geometry: the sizes that a test plays with.
-/
import Derived.Test.YtpdhbdacbiamdaaWt4
set_option linter.unusedVariables false
set_option linter.unusedSimpArgs false
set_option linter.unnecessarySimpa false
namespace Wf
open Go Go.RowKit Go.Proofs
set_option maxRecDepth 10000
set_option maxHeartbeats 4000000 in
theorem s22 {Γ : PEnv} (hΓ : Γ.Ok Try.prog) (h36 : Γ 36 = some ([1], F36)) : SoundP Try.prog 22 [1] F22 := by
  refine soundP_of hΓ mixed Try.func22 (by kernel_rfl) rfl (fun γ0 ds r hF => ?_)
  unfold F22 at hF
  split at hF
  rotate_left
  · cases hF
  rename_i n
  injection hF with hF; subst hF
  obtain ⟨q2, hq2⟩ : ∃ q, IntKind.i64.wrap (n.tdiv 2) = q := ⟨_, rfl⟩
  obtain ⟨q6, hq6⟩ : ∃ q, IntKind.i64.wrap (n.tdiv 6) = q := ⟨_, rfl⟩
  obtain ⟨q24, hq24⟩ : ∃ q, IntKind.i64.wrap (n.tdiv 24) = q := ⟨_, rfl⟩
  have w5 : IntKind.i64.wrap (5 + n % 2) = 5 + n % 2 := wrap_fit (by omega) (by omega)
  have w3 : IntKind.i64.wrap (3 + q6 % 4) = 3 + q6 % 4 := wrap_fit (by omega) (by omega)
  have w4 : IntKind.i64.wrap (4 + q6 % 4) = 4 + q6 % 4 := wrap_fit (by omega) (by omega)
  have w12 : IntKind.i64.wrap (n % 12 - 1) = n % 12 - 1 := wrap_fit (by omega) (by omega)
  have w9 : IntKind.i64.wrap (n % 9 - 1) = n % 9 - 1 := wrap_fit (by omega) (by omega)
  have h3 : q2 % 3 = 0 ∨ q2 % 3 = 1 ∨ q2 % 3 = 2 := by omega
  rcases h3 with h3 | h3 | h3
  rw [show Try.f22.ntmps = 60 from rfl, show Try.f22.results.toList = [.cell 2 25] from rfl]
  all_goals refine awp_seq (awp_region ?_)
  all_goals refine runs_cons (by conv => lhs; simp [h36, F36, hq2, hq6, hq24, w5, w3, w4, w12, w9, h3]) ?_
  all_goals refine runs_nil (then_normal (awp_seq (awp_region ?_)))
  all_goals refine runs_cons (by conv => lhs; simp [h36, F36, hq2, hq6, hq24, w5, w3, w4, w12, w9, h3]) ?_
  all_goals refine runs_nil (then_normal (awp_seq (awp_region ?_)))
  all_goals refine runs_cons (by conv => lhs; simp [h36, F36, hq2, hq6, hq24, w5, w3, w4, w12, w9, h3]) ?_
  all_goals refine runs_cons (by conv => lhs; simp [h36, F36, hq2, hq6, hq24, w5, w3, w4, w12, w9, h3]) ?_
  all_goals refine runs_cons (by conv => lhs; simp [h36, F36, hq2, hq6, hq24, w5, w3, w4, w12, w9, h3]) ?_
  all_goals refine runs_cons (by conv => lhs; simp [h36, F36, hq2, hq6, hq24, w5, w3, w4, w12, w9, h3]) ?_
  all_goals refine runs_cons (by conv => lhs; simp [h36, F36, hq2, hq6, hq24, w5, w3, w4, w12, w9, h3]) ?_
  all_goals refine runs_cons (by conv => lhs; simp [h36, F36, hq2, hq6, hq24, w5, w3, w4, w12, w9, h3]) ?_
  all_goals refine runs_cons (by conv => lhs; simp [h36, F36, hq2, hq6, hq24, w5, w3, w4, w12, w9, h3]) ?_
  all_goals refine runs_cons (by conv => lhs; simp [h36, F36, hq2, hq6, hq24, w5, w3, w4, w12, w9, h3]) ?_
  all_goals refine runs_cons (by conv => lhs; simp [h36, F36, hq2, hq6, hq24, w5, w3, w4, w12, w9, h3]) ?_
  all_goals refine runs_cons (by conv => lhs; simp [h36, F36, hq2, hq6, hq24, w5, w3, w4, w12, w9, h3]) ?_
  all_goals refine runs_cons (by conv => lhs; simp [h36, F36, hq2, hq6, hq24, w5, w3, w4, w12, w9, h3]) ?_
  all_goals refine runs_cons (by conv => lhs; simp [h36, F36, hq2, hq6, hq24, w5, w3, w4, w12, w9, h3]) ?_
  all_goals refine runs_cons (by conv => lhs; simp [h36, F36, hq2, hq6, hq24, w5, w3, w4, w12, w9, h3]) ?_
  all_goals refine runs_cons (by conv => lhs; simp [h36, F36, hq2, hq6, hq24, w5, w3, w4, w12, w9, h3]) ?_
  all_goals refine runs_nil (then_normal (awp_seq (awp_region ?_)))
  all_goals refine runs_cons (by conv => lhs; simp [h36, F36, hq2, hq6, hq24, w5, w3, w4, w12, w9, h3]) ?_
  all_goals refine runs_cons (by conv => lhs; simp [h36, F36, hq2, hq6, hq24, w5, w3, w4, w12, w9, h3]) ?_
  all_goals refine runs_cons (by conv => lhs; simp [h36, F36, hq2, hq6, hq24, w5, w3, w4, w12, w9, h3]) ?_
  all_goals refine runs_cons (by conv => lhs; simp [h36, F36, hq2, hq6, hq24, w5, w3, w4, w12, w9, h3]) ?_
  all_goals refine runs_cons (by conv => lhs; simp [h36, F36, hq2, hq6, hq24, w5, w3, w4, w12, w9, h3]) ?_
  all_goals refine runs_cons (by conv => lhs; simp [h36, F36, hq2, hq6, hq24, w5, w3, w4, w12, w9, h3]) ?_
  all_goals refine runs_cons (by conv => lhs; simp [h36, F36, hq2, hq6, hq24, w5, w3, w4, w12, w9, h3]) ?_
  all_goals refine runs_nil (then_normal (awp_seq (awp_seq (awp_region ?_))))
  all_goals refine runs_cons (by conv => lhs; simp [h36, F36, hq2, hq6, hq24, w5, w3, w4, w12, w9, h3]) ?_
  all_goals refine runs_cons (by conv => lhs; simp [h36, F36, hq2, hq6, hq24, w5, w3, w4, w12, w9, h3]) ?_
  all_goals refine runs_cons (by conv => lhs; simp [h36, F36, hq2, hq6, hq24, w5, w3, w4, w12, w9, h3]) ?_
  all_goals
    refine runs_nil (then_normal (awp_cond (by conv => lhs; simp) (fun hc1 => ?_) (fun hc1 => ?_)))
    focus
      first | (cases hc1; done) | skip
      all_goals refine awp_region ?_
      all_goals refine runs_cons (by conv => lhs; simp [h36, F36, hq2, hq6, hq24, w5, w3, w4, w12, w9, h3]) ?_
      all_goals refine runs_cons (by conv => lhs; simp [h36, F36, hq2, hq6, hq24, w5, w3, w4, w12, w9, h3]) ?_
      all_goals refine runs_cons (by conv => lhs; simp [h36, F36, hq2, hq6, hq24, w5, w3, w4, w12, w9, h3]) ?_
      all_goals refine runs_cons (by conv => lhs; simp [h36, F36, hq2, hq6, hq24, w5, w3, w4, w12, w9, h3]) ?_
      all_goals refine runs_cons (by conv => lhs; simp [h36, F36, hq2, hq6, hq24, w5, w3, w4, w12, w9, h3]) ?_
      all_goals refine runs_cons (by conv => lhs; simp [h36, F36, hq2, hq6, hq24, w5, w3, w4, w12, w9, h3]) ?_
      all_goals refine runs_cons (by conv => lhs; simp [h36, F36, hq2, hq6, hq24, w5, w3, w4, w12, w9, h3]) ?_
      all_goals refine runs_nil ?_
    rotate_right 1
    focus
      first | (cases hc1; done) | skip
      all_goals refine awp_skip ?_
  all_goals refine then_normal (awp_seq (awp_seq (awp_region ?_)))
  all_goals refine runs_cons (by conv => lhs; simp [h36, F36, hq2, hq6, hq24, w5, w3, w4, w12, w9, h3]) ?_
  all_goals refine runs_cons (by conv => lhs; simp [h36, F36, hq2, hq6, hq24, w5, w3, w4, w12, w9, h3]) ?_
  all_goals refine runs_cons (by conv => lhs; simp [h36, F36, hq2, hq6, hq24, w5, w3, w4, w12, w9, h3]) ?_
  all_goals refine runs_cons (by conv => lhs; simp [h36, F36, hq2, hq6, hq24, w5, w3, w4, w12, w9, h3]) ?_
  all_goals refine runs_nil (then_normal (awp_block (awp_seq (awp_region ?_))))
  all_goals refine runs_cons (by conv => lhs; simp [h36, F36, hq2, hq6, hq24, w5, w3, w4, w12, w9, h3]) ?_
  all_goals refine runs_cons (by conv => lhs; simp [h36, F36, hq2, hq6, hq24, w5, w3, w4, w12, w9, h3]) ?_
  all_goals
    refine runs_nil (then_normal (awp_cond (by conv => lhs; simp) (fun hc2 => ?_) (fun hc2 => ?_)))
    focus
      first | (cases hc2; done) | skip
      all_goals refine awp_region ?_
      all_goals refine runs_cons (by conv => lhs; simp [h36, F36, hq2, hq6, hq24, w5, w3, w4, w12, w9, h3]) ?_
      all_goals refine runs_cons (by conv => lhs; simp [h36, F36, hq2, hq6, hq24, w5, w3, w4, w12, w9, h3]) ?_
      all_goals refine runs_cons (by conv => lhs; simp [h36, F36, hq2, hq6, hq24, w5, w3, w4, w12, w9, h3]) ?_
      all_goals refine runs_cons (by conv => lhs; simp [h36, F36, hq2, hq6, hq24, w5, w3, w4, w12, w9, h3]) ?_
      all_goals refine runs_cons (by conv => lhs; simp [h36, F36, hq2, hq6, hq24, w5, w3, w4, w12, w9, h3]) ?_
      all_goals refine runs_nil ?_
    rotate_right 1
    focus
      first | (cases hc2; done) | skip
      all_goals refine awp_seq (awp_region ?_)
      all_goals refine runs_cons (by conv => lhs; simp [h36, F36, hq2, hq6, hq24, w5, w3, w4, w12, w9, h3]) ?_
      all_goals refine runs_cons (by conv => lhs; simp [h36, F36, hq2, hq6, hq24, w5, w3, w4, w12, w9, h3]) ?_
      all_goals
        refine runs_nil (then_normal (awp_cond (by conv => lhs; simp) (fun hc3 => ?_) (fun hc3 => ?_)))
        focus
          first | (cases hc3; done) | skip
          all_goals refine awp_region ?_
          all_goals refine runs_cons (by conv => lhs; simp [h36, F36, hq2, hq6, hq24, w5, w3, w4, w12, w9, h3]) ?_
          all_goals refine runs_cons (by conv => lhs; simp [h36, F36, hq2, hq6, hq24, w5, w3, w4, w12, w9, h3]) ?_
          all_goals refine runs_cons (by conv => lhs; simp [h36, F36, hq2, hq6, hq24, w5, w3, w4, w12, w9, h3]) ?_
          all_goals refine runs_cons (by conv => lhs; simp [h36, F36, hq2, hq6, hq24, w5, w3, w4, w12, w9, h3]) ?_
          all_goals refine runs_cons (by conv => lhs; simp [h36, F36, hq2, hq6, hq24, w5, w3, w4, w12, w9, h3]) ?_
          all_goals refine runs_cons (by conv => lhs; simp [h36, F36, hq2, hq6, hq24, w5, w3, w4, w12, w9, h3]) ?_
          all_goals refine runs_nil ?_
        rotate_right 1
        focus
          first | (cases hc3; done) | skip
          all_goals refine awp_seq (awp_region ?_)
          all_goals refine runs_cons (by conv => lhs; simp [h36, F36, hq2, hq6, hq24, w5, w3, w4, w12, w9, h3]) ?_
          all_goals refine runs_cons (by conv => lhs; simp [h36, F36, hq2, hq6, hq24, w5, w3, w4, w12, w9, h3]) ?_
          all_goals
            refine runs_nil (then_normal (awp_cond (by conv => lhs; simp) (fun hc4 => ?_) (fun hc4 => ?_)))
            focus
              first | (cases hc4; done) | skip
              all_goals refine awp_region ?_
              all_goals refine runs_cons (by conv => lhs; simp [h36, F36, hq2, hq6, hq24, w5, w3, w4, w12, w9, h3]) ?_
              all_goals refine runs_cons (by conv => lhs; simp [h36, F36, hq2, hq6, hq24, w5, w3, w4, w12, w9, h3]) ?_
              all_goals refine runs_cons (by conv => lhs; simp [h36, F36, hq2, hq6, hq24, w5, w3, w4, w12, w9, h3]) ?_
              all_goals refine runs_cons (by conv => lhs; simp [h36, F36, hq2, hq6, hq24, w5, w3, w4, w12, w9, h3]) ?_
              all_goals refine runs_cons (by conv => lhs; simp [h36, F36, hq2, hq6, hq24, w5, w3, w4, w12, w9, h3]) ?_
              all_goals refine runs_cons (by conv => lhs; simp [h36, F36, hq2, hq6, hq24, w5, w3, w4, w12, w9, h3]) ?_
              all_goals refine runs_nil ?_
            rotate_right 1
            focus
              first | (cases hc4; done) | skip
              all_goals refine awp_seq (awp_region ?_)
              all_goals refine runs_cons (by conv => lhs; simp [h36, F36, hq2, hq6, hq24, w5, w3, w4, w12, w9, h3]) ?_
              all_goals refine runs_cons (by conv => lhs; simp [h36, F36, hq2, hq6, hq24, w5, w3, w4, w12, w9, h3]) ?_
              all_goals
                refine runs_nil (then_normal (awp_cond (by conv => lhs; simp) (fun hc5 => ?_) (fun hc5 => ?_)))
                focus
                  first | (cases hc5; done) | skip
                  all_goals refine awp_region ?_
                  all_goals refine runs_cons (by conv => lhs; simp [h36, F36, hq2, hq6, hq24, w5, w3, w4, w12, w9, h3]) ?_
                  all_goals refine runs_cons (by conv => lhs; simp [h36, F36, hq2, hq6, hq24, w5, w3, w4, w12, w9, h3]) ?_
                  all_goals refine runs_nil ?_
                rotate_right 1
                focus
                  first | (cases hc5; done) | skip
                  all_goals refine awp_skip ?_
  all_goals refine block_normal (then_normal (awp_seq (awp_region ?_)))
  all_goals refine runs_cons (by conv => lhs; simp [h36, F36, hq2, hq6, hq24, w5, w3, w4, w12, w9, h3]) ?_
  all_goals refine runs_cons (by conv => lhs; simp [h36, F36, hq2, hq6, hq24, w5, w3, w4, w12, w9, h3]) ?_
  all_goals refine runs_nil (then_normal (awp_ret ?_))
  all_goals refine ⟨.inr rfl, .inl ?_⟩
  all_goals simp [ares, ares1, sealL, sealV, D.free, D.freeL, distinct]
  all_goals clear w5 w3 w4 w12 w9
  all_goals simp [gD, geomOf, qn, hq2, hq6, hq24] at *
  all_goals clear hq2 hq6 hq24 h36
  all_goals (repeat' split)
  all_goals (first | done | omega | (simp_all; done) | (simp_all; omega) | trace_state)
set_option maxHeartbeats 4000000 in
theorem s28 {Γ : PEnv} (hΓ : Γ.Ok Try.prog) (h22 : Γ 22 = some ([1], F22)) (h23 : Γ 23 = some ([1], F23)) : SoundP Try.prog 28 [1] F28 := by
  refine soundP_of hΓ mixed Try.func28 (by kernel_rfl) rfl (fun γ0 ds r hF => ?_)
  unfold F28 at hF
  split at hF
  rotate_left
  · cases hF
  rename_i n
  injection hF with hF; subst hF
  obtain ⟨⟨l, d, c⟩, hg⟩ : ∃ g, geomOf n = g := ⟨_, rfl⟩
  rw [show Try.f28.ntmps = 11 from rfl, show Try.f28.results.toList = [.cell 2 25] from rfl]
  all_goals refine awp_seq (awp_region ?_)
  all_goals refine runs_cons (by conv => lhs; simp [h22, F22, gD, hg, h23, F23, G1]) ?_
  all_goals refine runs_nil (then_normal (awp_seq (awp_region ?_)))
  all_goals refine runs_cons (by conv => lhs; simp [h22, F22, gD, hg, h23, F23, G1]) ?_
  all_goals refine runs_cons (by conv => lhs; simp [h22, F22, gD, hg, h23, F23, G1]) ?_
  all_goals refine runs_cons (by conv => lhs; simp [h22, F22, gD, hg, h23, F23, G1]) ?_
  all_goals refine runs_cons (by conv => lhs; simp [h22, F22, gD, hg, h23, F23, G1]) ?_
  all_goals refine runs_nil (then_normal (awp_seq (awp_seq (awp_region ?_))))
  all_goals refine runs_cons (by conv => lhs; simp [h22, F22, gD, hg, h23, F23, G1]) ?_
  all_goals refine runs_cons (by conv => lhs; simp [h22, F22, gD, hg, h23, F23, G1]) ?_
  all_goals refine runs_cons (by conv => lhs; simp [h22, F22, gD, hg, h23, F23, G1]) ?_
  all_goals
    refine runs_nil (then_normal (awp_cond (by conv => lhs; simp) (fun hc1 => ?_) (fun hc1 => ?_)))
    · first | (cases hc1; done) | skip
      all_goals refine awp_seq (awp_region ?_)
      all_goals refine runs_cons (by conv => lhs; simp [h22, F22, gD, hg, h23, F23, G1]) ?_
      all_goals refine runs_cons (by conv => lhs; simp [h22, F22, gD, hg, h23, F23, G1]) ?_
      all_goals refine runs_nil (then_normal (awp_ret (then_ret ?_)))
      all_goals refine ⟨.inr rfl, .inl ?_⟩
      all_goals simp [ares, ares1, sealL, sealV, D.free, D.freeL, distinct]
      all_goals simp_all [goodOf, gD]
    · first | (cases hc1; done) | skip
      all_goals refine awp_skip (then_normal (awp_seq (awp_region ?_)))
      all_goals refine runs_cons (by conv => lhs; simp [h22, F22, gD, hg, h23, F23, G1]) ?_
      all_goals refine runs_cons (by conv => lhs; simp [h22, F22, gD, hg, h23, F23, G1]) ?_
      all_goals refine runs_nil (then_normal (awp_ret ?_))
      all_goals refine ⟨.inr rfl, .inl ?_⟩
      all_goals simp [ares, ares1, sealL, sealV, D.free, D.freeL, distinct]
      all_goals simp_all [goodOf, gD]
end Wf
