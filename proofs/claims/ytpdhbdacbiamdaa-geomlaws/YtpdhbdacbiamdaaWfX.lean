/-
  An operation, whole.
-/
import Derived.Test.YtpdhbdacbiamdaaWfVa
set_option linter.unusedVariables false
set_option linter.unusedSimpArgs false
set_option linter.unnecessarySimpa false
namespace Wf
open Go Go.RowKit

section
variable (P : Program) (M : GM) (c : Ctx) (N : Nat) (w0 : World) (O0 : Nat → Prop) (L : Loc) (G : M.S) (w : World)
def OpOk (o : Oper) (ρ : Operand → Value) (out : Out M.S) : Prop :=
  (∃ u w', (execOp ρ o).run P w = .ok (.value u) w' ∧ Did M c N w0 O0 L G w out u w') ∨ (∃ w', (execOp ρ o).run P w = .ok .skip w' ∧ Did M c N w0 O0 L G w out undef w') ∨
  ∃ f args, (execOp ρ o).run P w = .ok (.enter f args) w ∧ Calls P f args w fun e w' => ∃ v, e = .returned v ∧ Did M c N w0 O0 L G w out v w'
end

section
variable {P : Program} {M : GM} {c : Ctx} {N : Nat} {w0 : World} {O0 : Nat → Prop} {L Lr : Loc} {G : M.S} {w : World}

theorem next_value {s : Sem Value} {u : Value} {w' : World} (h : s.run P w = .ok u w') : (do pure (Next.value (← s)) : Sem Next).run P w = .ok (.value u) w' := by
  simp only [Sem.run_bind, h, Result.andThen_ok, Sem.run_pure]
theorem next_skip {s : Sem Unit} {w' : World} (h : s.run P w = .ok () w') : (do s; pure Next.skip : Sem Next).run P w = .ok .skip w' := by
  simp only [Sem.run_bind, h, Result.andThen_ok, Sem.run_pure]

theorem out_some {v : Option V} {o : Out M.S} (h : out v = some o) : ∃ x, v = some x ∧ o = { v := x } := by
  unfold out at h
  cases v with
  | none => cases h
  | some x => injection h with h; exact ⟨x, rfl, h.symm⟩

theorem okRef_spec {v : V} (h : okRef Lr v = true) : ∀ g n off len, v = .ref g n off len → ∃ sz els lv, Lr.get g n = .arr sz els lv := by
  rintro g n off len rfl
  simp only [okRef, elsOf] at h
  cases hx : Lr.get g n <;> rw [hx] at h <;> first | exact ⟨_, _, _, rfl⟩ | cases h

theorem okRef_one {v : V} {g n off len : Nat} {u : Value} (hs : Sees Lr L) (h : okRef Lr (.ref g n off len) = true) (hv : Val c L w N (.ref g n off len) u) : u.oneCell' = true := by
  obtain ⟨sz, els, lv, hx⟩ := okRef_spec h _ _ _ _ rfl
  have hL := hs g n (by rw [hx]; simp)
  rw [hx] at hL
  exact sl_of_ref hL hv

theorem acall_ok {Γ : Env M} (hM : M.Ok) (hΓ : ∀ f sp, Γ f = some sp → Sound P M f sp) (hm : Mem M c N w0 O0 L G w) (hs : Sees Lr L) {t : Nat} (hLr : ∀ i, i ≤ 4 → Lr (t + 1000 * i) = L (t + 1000 * i))
    {Go : Option M.S} (hG : ∀ s, Go = some s → s = G) {f : V} {args : List V} {fu : Value} {us : Array Value} {o : Out M.S} (ha : acall Γ Lr Go t f args = some o) (hf : Val c L w N f fu)
    (hv : Vals c L w N args us.toList) :
    ∃ k as, (do let d ← Deferred.ofValue fu us; invoke d.target d.args : Sem Next).run P w = .ok (.enter k as) w ∧ Calls P k as w fun e w' => ∃ v, e = .returned v ∧ Did M c N w0 O0 L G w o v w' := by
  unfold acall at ha
  cases hc : acallee f with
  | none => rw [hc] at ha; cases ha
  | some p =>
  obtain ⟨k, fa, fb⟩ := p
  rw [hc] at ha
  dsimp only at ha
  -- the function's value
  have hfu : ∃ va vb : Array Value, fu = .func (.func k) va vb ∧ Vals c L w N fa va.toList ∧ Vals c L w N fb vb.toList := by
    cases f with
    | clo k' a b =>
      injection hc with hc; injection hc with h1 h2; injection h2 with h2 h3
      subst h1; subst h2; subst h3
      cases hf with
      | clo _ _ _ va vb k1 k2 k3 k4 => exact ⟨va, vb, rfl, ⟨by simpa using k1, fun i v u h1 h2 => k3 i v u h1 (by simpa using h2)⟩, ⟨by simpa using k2, fun i v u h1 h2 => k4 i v u h1 (by simpa using h2)⟩⟩
    | d x =>
      cases x with
      | fn k' a b =>
        injection hc with hc; injection hc with h1 h2; injection h2 with h2 h3
        subst h1; subst h2; subst h3
        have hr := hf.dat
        cases hr with
        | fn _ _ _ va vb k1 k2 k3 k4 =>
          refine ⟨va, vb, rfl, ⟨by simpa using k1, fun i v u h1 h2 => ?_⟩, ⟨by simpa using k2, fun i v u h1 h2 => ?_⟩⟩
          · rw [List.getElem?_map] at h1
            cases hd : a[i]? with
            | none => rw [hd] at h1; cases h1
            | some d => rw [hd] at h1; injection h1 with h1; subst h1; exact .d _ _ (k3 i d u hd (by simpa using h2))
          · rw [List.getElem?_map] at h1
            cases hd : b[i]? with
            | none => rw [hd] at h1; cases h1
            | some d => rw [hd] at h1; injection h1 with h1; subst h1; exact .d _ _ (k4 i d u hd (by simpa using h2))
      | _ => cases hc
    | _ => cases hc
  obtain ⟨va, vb, rfl, hva, hvb⟩ := hfu
  cases hl : (fa ++ args ++ fb).mapM (lend Lr) with
  | none => rw [hl] at ha; cases ha
  | some ds =>
  cases hg : Γ k with
  | none => rw [hl, hg] at ha; cases ha
  | some sp =>
  rw [hl, hg] at ha
  have hsound := hΓ k sp hg
  -- the arguments
  have hvals : Vals c L w N (fa ++ args ++ fb) (va.toList ++ us.toList ++ vb.toList) := by
    have app : ∀ {a b : List V} {x y : List Value}, Vals c L w N a x → Vals c L w N b y → Vals c L w N (a ++ b) (x ++ y) := by
      intro a b x y h k
      refine ⟨by simp [h.1, k.1], fun i v u h1 h2 => ?_⟩
      by_cases hi : i < a.length
      · rw [List.getElem?_append_left hi] at h1
        rw [List.getElem?_append_left (by rw [h.1]; exact hi)] at h2
        exact h.2 i v u h1 h2
      · rw [List.getElem?_append_right (by omega)] at h1
        rw [List.getElem?_append_right (by rw [h.1]; omega), h.1] at h2
        exact k.2 _ v u h1 h2
    exact app (app hva hv) hvb
  have hreps : Reps w c.O 0 c.γ ds (va.toList ++ us.toList ++ vb.toList) := by
    obtain ⟨p1, p2⟩ := mapM_get hl
    refine ⟨by rw [hvals.1, p1], fun i d u hd hu => ?_⟩
    have hi : i < (fa ++ args ++ fb).length := by
      rcases Nat.lt_or_ge i (va.toList ++ us.toList ++ vb.toList).length with h | h
      · rw [hvals.1] at h; exact h
      · rw [List.getElem?_eq_none h] at hu; cases hu
    have hvi := List.getElem?_eq_getElem hi
    exact lend_ok hm hs (p2 i _ d hvi hd) (hvals.2 i _ u hvi hu)
  have hrun : ∀ fn, P.funcs[k]? = some fn → (fn.name == "runtime.NumGoroutine") = false → fn.body.isNone = false →
      (do let d ← Deferred.ofValue (.func (.func k) va vb) us; invoke d.target d.args : Sem Next).run P w = .ok (.enter k (va ++ us ++ vb)) w := by
    intro fn h1 h2 h3
    have hn : ¬ fn.name = "runtime.NumGoroutine" := by simpa using h2
    have hb : ¬ fn.body = none := by intro h; rw [h] at h3; cases h3
    simp [Deferred.ofValue, invoke, callFunc, h1, hn, hb]
  have harr : (va.toList ++ us.toList ++ vb.toList).toArray = va ++ us ++ vb := by
    apply Array.ext'; simp
  cases sp with
  | pure szs F =>
    dsimp only at ha
    obtain ⟨⟨fn, f1, f2, f3⟩, hsd⟩ := hsound
    cases hF : F ds with
    | none => rw [hF] at ha; cases ha
    | some r =>
      rw [hF] at ha
      simp only [Option.bind_some] at ha
      cases had : adopt Lr t szs r with
      | none => rw [had] at ha; cases ha
      | some p =>
        obtain ⟨vv, wr⟩ := p
        rw [had] at ha
        injection ha with ha; subst ha
        refine ⟨k, _, hrun fn f1 f2 f3, ?_⟩
        have hcall := hsd ds r hF w c.γ _ (hreps.mono (fun _ _ _ => rfl) (fun _ _ h => h.elim) (Nat.le_refl _) (Nat.le_refl _) (fun _ _ h => h))
        rw [harr] at hcall
        refine hcall.mono fun e w' ⟨v, he, hk, hr⟩ => ⟨v, he, ?_⟩
        have hk' : Kept w c.O w' := ⟨hk.os, hk.tape, hk.output, hk.size, fun b hb _ => hk.block b hb (fun h => h), hk.cells⟩
        have hr' : ResOk w' (fun b => b < w.heap.size ∨ c.O b) w.heap.size c.γ szs r v := by
          have e : (fun b => b < w.heap.size ∨ c.O b) = fun b => b < w.heap.size := by
            funext b; apply propext
            exact ⟨fun h => h.elim id fun h => (hm.osub b h).1, .inl⟩
          rw [e]; exact hr
        exact adopt_ok hm (fun _ _ h => h) (hM.stable hm.glob (fun b hb => hk.block b (hm.osub b hb).1 (fun h => h)) hk.size)
          (fun b hb => ⟨Nat.lt_of_lt_of_le (hm.osub b hb).1 hk.size, .inl hb⟩) hk' had hLr hr'
  | st szs F =>
    dsimp only at ha
    obtain ⟨⟨fn, f1, f2, f3⟩, hsd⟩ := hsound
    cases Go with
    | none => cases ha
    | some s =>
      have := hG s rfl; subst this
      simp only [Option.bind_some] at ha
      cases hF : F ds s with
      | none => rw [hF] at ha; cases ha
      | some r =>
        obtain ⟨r, s'⟩ := r
        rw [hF] at ha
        simp only [Option.bind_some] at ha
        cases had : adopt Lr t szs r with
        | none => rw [had] at ha; cases ha
        | some p =>
          obtain ⟨vv, wr⟩ := p
          rw [had] at ha
          injection ha with ha; subst ha
          refine ⟨k, _, hrun fn f1 f2 f3, ?_⟩
          have hcall := hsd ds s r s' hF w c.γ c.O _ hm.glob (fun b hb => (hm.osub b hb).1) hreps
          rw [harr] at hcall
          refine hcall.mono fun e w' ⟨v, γ', O', he, hγ, hrel, hO, hk, hr⟩ => ⟨v, he, ?_⟩
          exact adopt_ok hm hγ hrel hO hk had hLr hr

end
end Wf
