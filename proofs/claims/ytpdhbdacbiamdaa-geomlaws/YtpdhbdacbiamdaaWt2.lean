/-
  Geometry: what the functions do.
-/
import Derived.Test.YtpdhbdacbiamdaaWt1
set_option linter.unusedVariables false
set_option linter.unusedSimpArgs false
set_option linter.unnecessarySimpa false
namespace Wf
open Go Go.RowKit Go.Proofs
set_option maxRecDepth 10000
set_option maxHeartbeats 4000000 in
theorem s57 {Γ : PEnv} (hΓ : Γ.Ok Try.prog) : SoundP Try.prog 57 [1] F57 := by
  refine soundP_of hΓ mixed Try.func57 (by kernel_rfl) rfl (fun γ0 ds r hF => ?_)
  unfold F57 at hF
  split at hF
  rotate_left
  · cases hF
  rename_i tg l v
  cases hl : (ints l) with
  | none => rw [hl] at hF; cases hF
  | some xs =>
  rw [hl] at hF
  simp only [Option.bind_some] at hF
  split at hF
  rotate_left
  · cases hF
  rename_i hsz
  injection hF with hF; subst hF
  have hxs : l = xs.map iD := ints_spec hl
  subst hxs
  clear hl
  rw [show Try.f57.ntmps = 19 from rfl, show Try.f57.results.toList = [.tmp 4] from rfl]
  all_goals refine awp_seq (awp_region ?_)
  all_goals refine runs_cons (by conv => lhs; simp) ?_
  all_goals refine runs_nil (then_normal (awp_seq (awp_seq (awp_region ?_))))
  all_goals refine runs_cons (by conv => lhs; simp) ?_
  all_goals refine runs_cons (by conv => lhs; simp) ?_
  all_goals refine runs_cons (by conv => lhs; simp) ?_
  all_goals refine runs_nil (then_normal (awp_block ?_))
  refine awp_loop (α := { i : Nat // i ≤ xs.length ∧ ∀ j, j < i → xs[j]? ≠ some v }) (fun a => { slots := [.d (.sl .lent (xs.map iD)), .d (.int .i64 v), .d .undef, .d .undef, .d (.int .i64 0), .d .undef, .d (.sl .lent (xs.map iD)), .d (.int .i64 xs.length), .d (.int .i64 a.1), .d .undef, .d .undef, .d .undef, .d .undef, .d .undef, .d .undef, .d .undef, .d .undef, .d .undef, .d .undef], L := fun _ => (0, .dead), G := () }) (fun a => xs.length - a.1) ⟨0, by simp⟩ (wk_of [] (by simp [wkB]) (by simp) (by simp) (by simp)) ?_
  rintro ⟨i, hi, hne⟩
  dsimp only
  all_goals refine awp_seq (awp_region ?_)
  all_goals refine runs_cons (by conv => lhs; simp) ?_
  all_goals
    refine runs_nil (then_normal (awp_seq (awp_cond (by conv => lhs; simp) (fun hc1 => ?_) (fun hc1 => ?_))))
    · first | (cases hc1; done) | skip
      have hlt : i < xs.length := by simpa using hc1
      have hx : xs[i]? = some xs[i] := List.getElem?_eq_getElem hlt
      all_goals refine awp_skip (then_normal (awp_seq (awp_block (awp_seq (awp_region ?_)))))
      all_goals refine runs_cons (by conv => lhs; simp [hx]) ?_
      all_goals refine runs_cons (by conv => lhs; simp [hx]) ?_
      all_goals refine runs_nil (then_normal (awp_seq (awp_region ?_)))
      all_goals refine runs_cons (by conv => lhs; simp [hx]) ?_
      all_goals refine runs_cons (by conv => lhs; simp [hx]) ?_
      all_goals refine runs_cons (by conv => lhs; simp [hx]) ?_
      all_goals refine runs_cons (by conv => lhs; simp [hx]) ?_
      all_goals refine runs_cons (by conv => lhs; simp [hx]) ?_
      all_goals refine runs_cons (by conv => lhs; simp [hx]) ?_
      all_goals
        refine runs_nil (then_normal (awp_cond (by conv => lhs; simp) (fun hc2 => ?_) (fun hc2 => ?_)))
        · first | (cases hc2; done) | skip
          all_goals refine awp_seq (awp_region ?_)
          all_goals refine runs_cons (by conv => lhs; simp [hx]) ?_
          all_goals refine runs_cons (by conv => lhs; simp [hx]) ?_
          all_goals refine runs_nil (then_normal (awp_ret (block_ret (then_ret (round_ret (block_ret (then_ret ?_)))))))
          all_goals refine ⟨.inr rfl, .inl ?_⟩
          all_goals simp [ares, ares1, sealL, sealV, D.free, distinct]
          all_goals first | exact (idx_some hne (by rw [hx]; simp at hc2; rw [hc2])).symm | exact (idx_none fun j hj => hne j (by simp at hc1; omega)).symm
        · first | (cases hc2; done) | skip
          all_goals refine awp_skip (block_normal (then_normal (awp_region ?_)))
          all_goals refine runs_cons (by conv => lhs; simp [hx]) ?_
          all_goals refine runs_cons (by conv => lhs; simp [hx]) ?_
          all_goals refine runs_nil ?_
          have hw : IntKind.i64.wrap ((i : Int) + 1) = ((i + 1 : Nat) : Int) := by rw [wrap_fit (by omega) (by omega)]; rfl
          have hv : v ≠ xs[i] := by simpa using hc2
          refine round_normal ⟨i + 1, hlt, fun j hj => ?_⟩ (by simp; omega) ?_
          · rcases Nat.lt_succ_iff_lt_or_eq.1 hj with h | rfl
            · exact hne j h
            · rw [hx]; exact fun e => hv (Option.some.inj e).symm
          · rw [hw]; exact wk_of [] (by simp [wkB]) (by simp) (by simp) (by simp)
    · first | (cases hc1; done) | skip
      all_goals refine awp_exit (then_exit (round_exit (block_same (then_normal (awp_seq (awp_region ?_))))))
      all_goals refine runs_cons (by conv => lhs; simp) ?_
      all_goals refine runs_nil (then_normal (awp_ret ?_))
      all_goals refine ⟨.inr rfl, .inl ?_⟩
      all_goals simp [ares, ares1, sealL, sealV, D.free, distinct]
      all_goals first | exact (idx_some hne (by rw [hx]; simp at hc2; rw [hc2])).symm | exact (idx_none fun j hj => hne j (by simp at hc1; omega)).symm
set_option maxHeartbeats 4000000 in
theorem s52 {Γ : PEnv} (hΓ : Γ.Ok Try.prog) (h57 : Γ 57 = some ([1], F57)) : SoundP Try.prog 52 [1] F52 := by
  refine soundP_of hΓ mixed Try.func52 (by kernel_rfl) rfl (fun γ0 ds r hF => ?_)
  unfold F52 at hF
  split at hF
  rotate_left
  · cases hF
  rename_i tg l v
  cases hl : (ints l) with
  | none => rw [hl] at hF; cases hF
  | some xs =>
  rw [hl] at hF
  simp only [Option.bind_some] at hF
  split at hF
  rotate_left
  · cases hF
  rename_i hsz
  injection hF with hF; subst hF
  have hxs : l = xs.map iD := ints_spec hl
  subst hxs
  clear hl
  have hsz' : xs.length ≤ 4294967296 := by simpa using hsz
  rw [show Try.f52.ntmps = 9 from rfl, show Try.f52.results.toList = [.tmp 4] from rfl]
  all_goals refine awp_seq (awp_region ?_)
  all_goals refine runs_cons (by conv => lhs; simp [h57, F57, ints_map, hsz']) ?_
  all_goals refine runs_nil (then_normal (awp_seq (awp_region ?_)))
  all_goals refine runs_cons (by conv => lhs; simp [h57, F57, ints_map, hsz']) ?_
  all_goals refine runs_cons (by conv => lhs; simp [h57, F57, ints_map, hsz']) ?_
  all_goals refine runs_cons (by conv => lhs; simp [h57, F57, ints_map, hsz']) ?_
  all_goals refine runs_cons (by conv => lhs; simp [h57, F57, ints_map, hsz']) ?_
  all_goals refine runs_cons (by conv => lhs; simp [h57, F57, ints_map, hsz']) ?_
  all_goals refine runs_nil (then_normal (awp_ret ?_))
  all_goals refine ⟨.inr rfl, .inl ?_⟩
  all_goals simp [ares, ares1, sealL, sealV, D.free, distinct]
theorem idx_124 (c : Int) : decide (0 ≤ idx c [1, 2, 4]) = (c == 1 || c == 2 || c == 4) := by
  simp only [idx]
  by_cases h1 : c = 1
  · simp [h1]
  · by_cases h2 : c = 2
    · simp [h1, h2]
    · by_cases h4 : c = 4
      · simp [h1, h2, h4]
      · simp [h1, h2, h4]
set_option maxHeartbeats 4000000 in
theorem s16 {Γ : PEnv} (hΓ : Γ.Ok Try.prog) (h52 : Γ 52 = some ([1], F52)) : SoundP Try.prog 16 [1] F16 := by
  refine soundP_of hΓ mixed Try.func16 (by kernel_rfl) rfl (fun γ0 ds r hF => ?_)
  unfold F16 G1 at hF
  split at hF
  rotate_left
  · cases hF
  rename_i l d c
  injection hF with hF; subst hF
  have hll : l = 5 ∨ l = 6 ∨ (l ≠ 5 ∧ l ≠ 6) := by omega
  have i124 : ints [D.int .i64 1, D.int .i64 2, D.int .i64 4] = some [1, 2, 4] := rfl
  rcases hll with h5 | h5 | h5
  rw [show Try.f16.ntmps = 29 from rfl, show Try.f16.results.toList = [.tmp 2] from rfl]
  all_goals refine awp_seq (awp_region ?_)
  all_goals refine runs_cons (by conv => lhs; simp [h52, F52, i124, idx_124, h5]) ?_
  all_goals refine runs_cons (by conv => lhs; simp [h52, F52, i124, idx_124, h5]) ?_
  all_goals refine runs_nil (then_normal (awp_seq (awp_region ?_)))
  all_goals refine runs_cons (by conv => lhs; simp [h52, F52, i124, idx_124, h5]) ?_
  all_goals refine runs_cons (by conv => lhs; simp [h52, F52, i124, idx_124, h5]) ?_
  all_goals refine runs_cons (by conv => lhs; simp [h52, F52, i124, idx_124, h5]) ?_
  all_goals refine runs_cons (by conv => lhs; simp [h52, F52, i124, idx_124, h5]) ?_
  all_goals refine runs_cons (by conv => lhs; simp [h52, F52, i124, idx_124, h5]) ?_
  all_goals refine runs_cons (by conv => lhs; simp [h52, F52, i124, idx_124, h5]) ?_
  all_goals refine runs_cons (by conv => lhs; simp [h52, F52, i124, idx_124, h5]) ?_
  all_goals refine runs_cons (by conv => lhs; simp [h52, F52, i124, idx_124, h5]) ?_
  all_goals refine runs_nil (then_normal (awp_seq (awp_seq (awp_region ?_))))
  all_goals refine runs_cons (by conv => lhs; simp [h52, F52, i124, idx_124, h5]) ?_
  all_goals refine runs_cons (by conv => lhs; simp [h52, F52, i124, idx_124, h5]) ?_
  all_goals refine runs_cons (by conv => lhs; simp [h52, F52, i124, idx_124, h5]) ?_
  all_goals first | (refine runs_cons (by conv => lhs; simp [h52, F52, i124, idx_124, h5]) ?_) | (refine runs_guard (by conv => lhs; simp) ?_ ?_ <;> intro hg1 <;> simp only [hg1] <;> refine runs_cons (by conv => lhs; simp [h52, F52, i124, idx_124, h5]) ?_)
  all_goals first | (refine runs_cons (by conv => lhs; simp [h52, F52, i124, idx_124, h5]) ?_) | (refine runs_guard (by conv => lhs; simp) ?_ ?_ <;> intro hg2 <;> simp only [hg2] <;> refine runs_cons (by conv => lhs; simp [h52, F52, i124, idx_124, h5]) ?_)
  all_goals first | (refine runs_cons (by conv => lhs; simp [h52, F52, i124, idx_124, h5]) ?_) | (refine runs_guard (by conv => lhs; simp) ?_ ?_ <;> intro hg3 <;> simp only [hg3] <;> refine runs_cons (by conv => lhs; simp [h52, F52, i124, idx_124, h5]) ?_)
  all_goals first | (refine runs_cons (by conv => lhs; simp [h52, F52, i124, idx_124, h5]) ?_) | (refine runs_guard (by conv => lhs; simp) ?_ ?_ <;> intro hg4 <;> simp only [hg4] <;> refine runs_cons (by conv => lhs; simp [h52, F52, i124, idx_124, h5]) ?_)
  all_goals refine runs_cons (by conv => lhs; simp [h52, F52, i124, idx_124, h5]) ?_
  all_goals refine runs_cons (by conv => lhs; simp [h52, F52, i124, idx_124, h5]) ?_
  all_goals first | (refine runs_cons (by conv => lhs; simp [h52, F52, i124, idx_124, h5]) ?_) | (refine runs_guard (by conv => lhs; simp) ?_ ?_ <;> intro hg5 <;> simp only [hg5] <;> refine runs_cons (by conv => lhs; simp [h52, F52, i124, idx_124, h5]) ?_)
  all_goals first | (refine runs_cons (by conv => lhs; simp [h52, F52, i124, idx_124, h5]) ?_) | (refine runs_guard (by conv => lhs; simp) ?_ ?_ <;> intro hg6 <;> simp only [hg6] <;> refine runs_cons (by conv => lhs; simp [h52, F52, i124, idx_124, h5]) ?_)
  all_goals first | (refine runs_cons (by conv => lhs; simp [h52, F52, i124, idx_124, h5]) ?_) | (refine runs_guard (by conv => lhs; simp) ?_ ?_ <;> intro hg7 <;> simp only [hg7] <;> refine runs_cons (by conv => lhs; simp [h52, F52, i124, idx_124, h5]) ?_)
  all_goals refine runs_cons (by conv => lhs; simp [h52, F52, i124, idx_124, h5]) ?_
  all_goals refine runs_cons (by conv => lhs; simp [h52, F52, i124, idx_124, h5]) ?_
  all_goals first | (refine runs_cons (by conv => lhs; simp [h52, F52, i124, idx_124, h5]) ?_) | (refine runs_guard (by conv => lhs; simp) ?_ ?_ <;> intro hg8 <;> simp only [hg8] <;> refine runs_cons (by conv => lhs; simp [h52, F52, i124, idx_124, h5]) ?_)
  all_goals first | (refine runs_cons (by conv => lhs; simp [h52, F52, i124, idx_124, h5]) ?_) | (refine runs_guard (by conv => lhs; simp) ?_ ?_ <;> intro hg9 <;> simp only [hg9] <;> refine runs_cons (by conv => lhs; simp [h52, F52, i124, idx_124, h5]) ?_)
  all_goals first | (refine runs_cons (by conv => lhs; simp [h52, F52, i124, idx_124, h5]) ?_) | (refine runs_guard (by conv => lhs; simp) ?_ ?_ <;> intro hg10 <;> simp only [hg10] <;> refine runs_cons (by conv => lhs; simp [h52, F52, i124, idx_124, h5]) ?_)
  all_goals first | (refine runs_cons (by conv => lhs; simp [h52, F52, i124, idx_124, h5]) ?_) | (refine runs_guard (by conv => lhs; simp) ?_ ?_ <;> intro hg11 <;> simp only [hg11] <;> refine runs_cons (by conv => lhs; simp [h52, F52, i124, idx_124, h5]) ?_)
  all_goals first | (refine runs_cons (by conv => lhs; simp [h52, F52, i124, idx_124, h5]) ?_) | (refine runs_guard (by conv => lhs; simp) ?_ ?_ <;> intro hg12 <;> simp only [hg12] <;> refine runs_cons (by conv => lhs; simp [h52, F52, i124, idx_124, h5]) ?_)
  all_goals refine runs_cons (by conv => lhs; simp [h52, F52, i124, idx_124, h5]) ?_
  all_goals
    refine runs_nil (then_normal (awp_cond (by conv => lhs; simp) (fun hc13 => ?_) (fun hc13 => ?_)))
    · first | (cases hc13; done) | skip
      all_goals refine awp_seq (awp_region ?_)
      all_goals refine runs_cons (by conv => lhs; simp [h52, F52, i124, idx_124, h5]) ?_
      all_goals refine runs_nil (then_normal (awp_ret (then_ret ?_)))
      all_goals refine ⟨.inr rfl, .inl ?_⟩
      all_goals simp [ares, ares1, sealL, sealV, D.free, distinct]
      all_goals simp_all [validG]
      all_goals omega
    · first | (cases hc13; done) | skip
      all_goals refine awp_skip (then_normal (awp_seq (awp_region ?_)))
      all_goals refine runs_cons (by conv => lhs; simp [h52, F52, i124, idx_124, h5]) ?_
      all_goals refine runs_nil (then_normal (awp_ret ?_))
      all_goals refine ⟨.inr rfl, .inl ?_⟩
      all_goals simp [ares, ares1, sealL, sealV, D.free, distinct]
      all_goals simp_all [validG]
      all_goals omega
end Wf
