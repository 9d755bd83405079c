/-
  An operation, whole.
-/
import Derived.Test.YtpdhbdacbiamdaaWfV
set_option linter.unusedVariables false
set_option linter.unusedSimpArgs false
set_option linter.unnecessarySimpa false
namespace Wf
open Go Go.RowKit

theorem aeqFs_ok {P : Program} {w : World} {A N γ} {eq : TypeId → D → D → Option Bool} {d : Nat} (heq : ∀ t x y r u v, eq t x y = some r → Rep w A N γ x u → Rep w A N γ y v → (Op.equalIn d t u v).run P w = .ok r w)
    {xs ys : List D} {us vs : Array Value} (hx : Rep w A N γ (.agg xs) (.agg us)) (hy : Rep w A N γ (.agg ys) (.agg vs)) : ∀ (fs : List Field) (r : Bool), aeqFs P eq xs ys fs = some r → (Op.eqFields d us vs fs).run P w = .ok r w
  | [], r, h => by simp [aeqFs] at h; subst h; simp [Op.eqFields]
  | f :: fs, r, h => by
    unfold aeqFs at h
    split at h
    · cases h
    · rename_i hname
      split at h
      rotate_left
      · cases h
      rename_i ag n hag hn
      split at h
      rotate_left
      · cases h
      rename_i x y hpx hpy
      cases he : eq f.type x y with
      | none => rw [he] at h; cases h
      | some r1 =>
        rw [he] at h
        simp only [Option.bind_some] at h
        cases hr : aeqFs P eq xs ys fs with
        | none => rw [hr] at h; cases h
        | some r2 =>
          rw [hr] at h
          simp at h; subst h
          have part1 : ∀ {zs : List D} {ws : Array Value} {z : D}, Rep w A N γ (.agg zs) (.agg ws) → partD ag n f.offset zs = some z → ∃ u, (part f.type ws f.offset).run P w = .ok u w ∧ Rep w A N γ z u := by
            intro zs ws z hz hp
            cases hz with
            | agg _ _ q1 q2 q3 =>
              obtain ⟨v, r1, r2, _⟩ := part_rep hp q1 (fun i d u hd hu => ⟨q2 i d u hd hu, q3 i u hu⟩)
              refine ⟨v, run_part hag hn ?_, r1⟩
              cases ag with
              | true => simp at r2; simp [r2.1]
              | false => simp at r2; simpa using r2.1
          obtain ⟨u, p1, p2⟩ := part1 hx hpx
          obtain ⟨v, p3, p4⟩ := part1 hy hpy
          have h1 := heq _ _ _ _ _ _ he p2 p4
          have h2 := aeqFs_ok heq hx hy fs r2 hr
          simp only [Op.eqFields, ne_eq, hname, not_false_eq_true, if_true, Sem.run_bind, p1, p3, h1, Result.andThen_ok]
          cases r1
          · simp
          · simp [h2]

theorem aeq_ok {P : Program} {w : World} {A N γ} : ∀ (d k : Nat) (t : TypeId) (x y : D) (r : Bool) (u v : Value), aeq P d t x y = some r → Rep w A N γ x u → Rep w A N γ y v → (Op.equalIn (d + k) t u v).run P w = .ok r w
  | 0, _, _, _, _, _, _, _, h, _, _ => by cases h
  | d + 1, k, t, x, y, r, u, v, h, hx, hy => by
    unfold aeq at h
    rw [show d + 1 + k = (d + k) + 1 by omega]
    split at h
    · rename_i k0 hu
      split at h
      · split at h
        · rename_i hk
          injection h with h; subst h; subst hk
          cases hx; cases hy
          exact run_equalIn_int w _ t _ _ _ _ hu
        · cases h
      · cases h
    · rename_i hu
      split at h
      · injection h with h; subst h
        cases hx; cases hy
        exact run_equalIn_bool' w _ t _ _ hu
      · cases h
    · rename_i fs hu
      split at h
      · split at h
        · cases h
        · rename_i hst
          cases hx with
          | agg _ us a1 a2 a3 =>
          cases hy with
          | agg _ vs b1 b2 b3 =>
            have hf : P.fieldsOf t = fs := by unfold Program.fieldsOf; rw [hu]
            rw [run_equalIn_struct w (d + k) t us vs (by rw [hf]; exact hu) (by simpa using hst), hf]
            exact aeqFs_ok (fun t x y r u v h hx hy => aeq_ok d k t x y r u v h hx hy) (.agg _ _ a1 a2 a3) (.agg _ _ b1 b2 b3) _ _ h
      · cases h
    · cases h

theorem abin_ok {P : Program} {w : World} {A N γ} {op : BinOp} {a b d : D} {u v : Value} {t : TypeId} {x y : Operand} (h : abin (tyBool P t) op a b = some d) (ha : Rep w A N γ a u) (hb : Rep w A N γ b v) :
    ∃ z, (do eqGuard op t x y u v; binOp op t u v : Sem Value).run P w = .ok z w ∧ Rep w A N γ d z := by
  have ints : ∀ {k : IntKind} {p q : Int}, ibin op k p q = some d → ∃ z, (do eqGuard op t x y (.int k p) (.int k q); binOp op t (.int k p) (.int k q) : Sem Value).run P w = .ok z w ∧ Rep w A N γ d z := by
    intro k p q h
    have hg : (eqGuard op t x y (.int k p) (.int k q)).run P w = .ok () w := by rw [eqGuard_at_int]; rfl
    simp only [Sem.run_bind, hg, Result.andThen_ok]
    cases op <;> simp [ibin] at h
    case quo => obtain ⟨h0, rfl⟩ := h; exact ⟨_, by simp [binOp_quo, Op.intDiv, h0], .int _ _⟩
    case rem => obtain ⟨h0, rfl⟩ := h; exact ⟨_, by simp [binOp_rem, Op.intDiv, h0], .int _ _⟩
    case add => subst h; exact ⟨_, by simp [binOp_add, Op.intArith], .int _ _⟩
    case sub => subst h; exact ⟨_, by simp [binOp_sub, Op.intArith], .int _ _⟩
    case mul => subst h; exact ⟨_, by simp [binOp_mul, Op.intArith], .int _ _⟩
    case and => subst h; exact ⟨_, by rw [binOp_and, intBits_and]; rfl, .int _ _⟩
    case or => subst h; exact ⟨_, by rw [binOp_or, intBits_or]; rfl, .int _ _⟩
    case xor => subst h; exact ⟨_, by rw [binOp_xor, intBits_xor]; rfl, .int _ _⟩
    case andNot => subst h; exact ⟨_, by rw [binOp_andNot, intBits_andNot]; rfl, .int _ _⟩
    case eql => subst h; exact ⟨_, by rw [binOp_eql]; rfl, .bool _⟩
    case neq => subst h; exact ⟨_, by rw [binOp_neq]; rfl, .bool _⟩
    case lss => subst h; exact ⟨_, by rw [binOp_lss]; rfl, .bool _⟩
    case leq => subst h; exact ⟨_, by rw [binOp_leq]; rfl, .bool _⟩
    case gtr => subst h; exact ⟨_, by rw [binOp_gtr]; rfl, .bool _⟩
    case geq => subst h; exact ⟨_, by rw [binOp_geq]; rfl, .bool _⟩
  have shifts : ∀ {k k' : IntKind} {p q : Int}, ishift op k p q = some d → (op = .shl ∨ op = .shr) → ∃ z, (do eqGuard op t x y (.int k p) (.int k' q); binOp op t (.int k p) (.int k' q) : Sem Value).run P w = .ok z w ∧ Rep w A N γ d z := by
    intro k k' p q h hop
    have hg : (eqGuard op t x y (.int k p) (.int k' q)).run P w = .ok () w := by rw [eqGuard_at_int]; rfl
    simp only [Sem.run_bind, hg, Result.andThen_ok]
    unfold ishift at h
    split at h
    · cases h
    · rename_i hq
      rcases hop with rfl | rfl
      · simp at h; subst h; exact ⟨_, by simp [binOp_shl, Op.shift, hq], .int _ _⟩
      · simp at h; subst h; exact ⟨_, by simp [binOp_shr, Op.shift, hq], .int _ _⟩
  have bools : ∀ {p q : Bool}, (op = .eql ∧ d = .bool (p == q)) ∨ (op = .neq ∧ d = .bool (p != q)) → P.underlying t = some .bool → ∃ z, (do eqGuard op t x y (.bool p) (.bool q); binOp op t (.bool p) (.bool q) : Sem Value).run P w = .ok z w ∧ Rep w A N γ d z := by
    intro p q h ht
    have hg : (eqGuard op t x y (.bool p) (.bool q)).run P w = .ok () w := by rw [eqGuard_at_bool]; rfl
    simp only [Sem.run_bind, hg, Result.andThen_ok]
    have he : (Op.equal t (.bool p) (.bool q)).run P w = .ok (p == q) w := run_equalIn_bool' w 9999 t p q ht
    rcases h with ⟨rfl, rfl⟩ | ⟨rfl, rfl⟩
    · exact ⟨.bool (p == q), by simp [binOp, he], .bool _⟩
    · exact ⟨.bool (p != q), by simp [binOp, he, bne], .bool _⟩
  have ht : tyBool P t = true → P.underlying t = some .bool := by
    intro h; unfold tyBool at h; split at h <;> simp_all
  unfold abin at h
  split at h
  · cases ha; cases hb; exact shifts h (.inl rfl)
  · cases ha; cases hb; exact shifts h (.inr rfl)
  · split at h
    · rename_i hk
      subst hk
      cases ha; cases hb; exact ints h
    · cases h
  · split at h
    · rename_i hb'
      injection h with h; subst h
      cases ha; cases hb; exact bools (.inl ⟨rfl, rfl⟩) (ht hb')
    · cases h
  · split at h
    · rename_i hb'
      injection h with h; subst h
      cases ha; cases hb; exact bools (.inr ⟨rfl, rfl⟩) (ht hb')
    · cases h
  · cases h

end Wf
