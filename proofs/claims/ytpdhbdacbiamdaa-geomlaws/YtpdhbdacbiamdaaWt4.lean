/-
  Geometry: the sizes that a test plays with, and two laws.
-/
import Derived.Test.YtpdhbdacbiamdaaWt3
set_option linter.unusedVariables false
set_option linter.unusedSimpArgs false
set_option linter.unnecessarySimpa false
namespace Wf
open Go Go.RowKit Go.Proofs
set_option maxRecDepth 10000
@[simp] theorem tA48 : tyAgg Try.prog 48 = some false := by kernel_rfl
def qn (n k : Int) : Int := IntKind.i64.wrap (n.tdiv k)
def geomOf (n : Int) : Int × Int × Int :=
  let lev := 5 + n % 2
  let ch := if qn n 2 % 3 = 0 then 1 else if qn n 2 % 3 = 1 then 2 else 4
  let dk := if lev = 6 then 4 + qn n 6 % 4 else 3 + qn n 6 % 4
  let s := qn n 24 % 40
  if s = 36 then (n % 9, dk, ch) else if s = 37 then (lev, n % 12 - 1, ch) else if s = 38 then (lev, dk, n % 9 - 1) else if s = 39 then (lev, 8, ch) else (lev, dk, ch)
def goodOf (n : Int) : Int × Int × Int := if validG (geomOf n).1 (geomOf n).2.1 (geomOf n).2.2 then geomOf n else (5, 3, 1)
theorem good_valid (n : Int) : validG (goodOf n).1 (goodOf n).2.1 (goodOf n).2.2 = true := by
  unfold goodOf
  split
  · assumption
  · rfl
def gD (g : Int × Int × Int) : D := .agg [.int .i64 g.1, .int .i64 g.2.1, .int .i64 g.2.2]
def F22 : List D → Option D
  | [.int .i64 n] => some (gD (geomOf n))
  | _ => none
def F28 : List D → Option D
  | [.int .i64 n] => some (gD (goodOf n))
  | _ => none
def F21 : List D → Option D
  | [] => some (.bool true)
  | _ => none
def F5 : List D → Option D
  | [.int .i64 _, .int .i64 _, .int .i64 _] => some (.bool true)
  | _ => none
theorem tmod_cases (a n : Int) (h : 1 ≤ n) : (0 ≤ a.tmod n ∧ a % n = a.tmod n) ∨ (a.tmod n < 0 ∧ a % n = a.tmod n + n) := by
  have h1 := Int.tmod_add_mul_tdiv a n
  have h2 := Int.emod_nonneg a (show n ≠ 0 by omega)
  have h3 := Int.emod_lt_of_pos a (show 0 < n by omega)
  by_cases ha : a < 0
  · have h4 : a.tmod n = - ((-a) % n) := by rw [show a = -(-a) by omega, Int.neg_tmod, Int.tmod_eq_emod_of_nonneg (by omega)]; simp
    have h5 := Int.emod_nonneg (-a) (show n ≠ 0 by omega)
    have h6 := Int.emod_lt_of_pos (-a) (show 0 < n by omega)
    by_cases h7 : (-a) % n = 0
    · left
      refine ⟨by omega, ?_⟩
      have : n ∣ a := by
        have := Int.dvd_of_emod_eq_zero h7
        exact (Int.dvd_neg).1 this
      rw [Int.emod_eq_zero_of_dvd this]; omega
    · right
      refine ⟨by omega, ?_⟩
      rw [h4]
      have : a % n = (n - (-a) % n) % n := by
        rw [Int.sub_emod, Int.emod_emod_of_dvd _ (Int.dvd_refl n), ← Int.sub_emod, Int.sub_neg, Int.add_emod, Int.emod_self]; simp
      rw [this, Int.emod_eq_of_lt (by omega) (by omega)]; omega
  · left
    rw [Int.tmod_eq_emod_of_nonneg (by omega)]
    exact ⟨h2, rfl⟩
set_option maxHeartbeats 4000000 in
theorem s36 {Γ : PEnv} (hΓ : Γ.Ok Try.prog) : SoundP Try.prog 36 [1] F36 := by
  refine soundP_of hΓ mixed Try.func36 (by kernel_rfl) rfl (fun γ0 ds r hF => ?_)
  unfold F36 at hF
  split at hF
  rotate_left
  · cases hF
  rename_i a n
  split at hF
  rotate_left
  · cases hF
  rename_i hn
  injection hF with hF; subst hF
  have h1 : ¬ n < 1 := by omega
  have h0 : n ≠ 0 := by omega
  have hm := tmod_cases a n hn.1
  have hw : a.tmod n < 0 → IntKind.i64.wrap (a.tmod n + n) = a.tmod n + n := fun h => wrap_fit (by have := Int.lt_tmod_of_pos a (show 0 < n by omega); omega) (by omega)
  rw [show Try.f36.ntmps = 17 from rfl, show Try.f36.results.toList = [.tmp 4] from rfl]
  all_goals refine awp_seq (awp_region ?_)
  all_goals refine runs_cons (by conv => lhs; simp [h1, h0]) ?_
  all_goals refine runs_nil (then_normal (awp_seq (awp_seq (awp_region ?_))))
  all_goals refine runs_cons (by conv => lhs; simp [h1, h0]) ?_
  all_goals refine runs_cons (by conv => lhs; simp [h1, h0]) ?_
  all_goals
    refine runs_nil (then_normal (awp_cond (by conv => lhs; simp) (fun hc1 => ?_) (fun hc1 => ?_)))
    · first | (cases hc1; done) | skip
      all_goals refine awp_seq (awp_region ?_)
      all_goals refine runs_cons (by conv => lhs; simp [h1, h0]) ?_
      all_goals refine runs_nil (then_normal (awp_ret (then_ret ?_)))
      all_goals refine ⟨.inr rfl, .inl ?_⟩
      all_goals simp [ares, ares1, sealL, sealV, D.free, distinct]
      all_goals (try simp_all)
      all_goals (first | done | omega)
    · first | (cases hc1; done) | skip
      all_goals refine awp_skip (then_normal (awp_seq (awp_region ?_)))
      all_goals refine runs_cons (by conv => lhs; simp [h1, h0]) ?_
      all_goals refine runs_cons (by conv => lhs; simp [h1, h0]) ?_
      all_goals refine runs_cons (by conv => lhs; simp [h1, h0]) ?_
      all_goals refine runs_cons (by conv => lhs; simp [h1, h0]) ?_
      all_goals refine runs_nil (then_normal (awp_seq (awp_seq (awp_region ?_))))
      all_goals refine runs_cons (by conv => lhs; simp [h1, h0]) ?_
      all_goals refine runs_cons (by conv => lhs; simp [h1, h0]) ?_
      all_goals
        refine runs_nil (then_normal (awp_cond (by conv => lhs; simp) (fun hc2 => ?ca2) (fun hc2 => ?cb2)))
        case' ca2 =>
          first | (cases hc2; done) | skip
          all_goals refine awp_region ?_
          all_goals refine runs_cons (by conv => lhs; simp [h1, h0]) ?_
          all_goals refine runs_cons (by conv => lhs; simp [h1, h0]) ?_
          all_goals refine runs_cons (by conv => lhs; simp [h1, h0]) ?_
          all_goals refine runs_cons (by conv => lhs; simp [h1, h0]) ?_
          all_goals refine runs_nil ?_
        case' cb2 =>
          first | (cases hc2; done) | skip
          all_goals refine awp_skip ?_
      all_goals refine then_normal (awp_seq (awp_region ?_))
      all_goals refine runs_cons (by conv => lhs; simp [h1, h0]) ?_
      all_goals refine runs_cons (by conv => lhs; simp [h1, h0]) ?_
      all_goals refine runs_nil (then_normal (awp_ret ?_))
      all_goals refine ⟨.inr rfl, .inl ?_⟩
      all_goals simp [ares, ares1, sealL, sealV, D.free, distinct]
      all_goals (try simp_all)
      all_goals (first | done | omega)
set_option maxHeartbeats 4000000 in
theorem s21 {Γ : PEnv} (hΓ : Γ.Ok Try.prog) (h19 : Γ 19 = some ([1], F19)) : SoundP Try.prog 21 [1] F21 := by
  refine soundP_of hΓ mixed Try.func21 (by kernel_rfl) rfl (fun γ0 ds r hF => ?_)
  unfold F21 at hF
  split at hF
  rotate_left
  · cases hF
  injection hF with hF; subst hF
  have e : capG 5 3 1 = 32 := by decide
  rw [show Try.f21.ntmps = 4 from rfl, show Try.f21.results.toList = [.tmp 0] from rfl]
  all_goals refine awp_seq (awp_region ?_)
  all_goals refine runs_cons (by conv => lhs; simp [h19, F19, G1, e]) ?_
  all_goals refine runs_nil (then_normal (awp_seq (awp_region ?_)))
  all_goals refine runs_cons (by conv => lhs; simp [h19, F19, G1, e]) ?_
  all_goals refine runs_cons (by conv => lhs; simp [h19, F19, G1, e]) ?_
  all_goals refine runs_cons (by conv => lhs; simp [h19, F19, G1, e]) ?_
  all_goals refine runs_cons (by conv => lhs; simp [h19, F19, G1, e]) ?_
  all_goals refine runs_nil (then_normal (awp_ret ?_))
  all_goals refine ⟨.inr rfl, .inl ?_⟩
  all_goals simp [ares, ares1, sealL, sealV, D.free, distinct]
end Wf
