/-
  A step of the machine over plain data is a step of the program's.
-/
import Derived.Test.YtpdhbdacbiamdaaWfY
set_option linter.unusedVariables false
set_option linter.unusedSimpArgs false
set_option linter.unnecessarySimpa false
namespace Wf
open Go Go.RowKit

structure RelC (M : GM) (N : Nat) (w0 : World) (O0 : Nat → Prop) (γ0 : Nat → Option Addr) (c : Ctx) (s : St M) (a : Act) (w : World) : Prop where
  mem : Mem M c N w0 O0 s.L s.G w
  slots : Vals c s.L w N s.slots a.tmps.toList
  defers : a.defers = []
  hγ : ∀ n x, γ0 n = some x → c.γ n = some x
  cells : ∀ (b : Nat) (x : Array Value) (T : TypeId) (fz : Nat × Nat), w0.heap[b]? = some (.cells x T fz) → ∃ (x' : Array Value) (fz' : Nat × Nat), w.heap[b]? = some (.cells x' T fz') ∧ x'.size = x.size

def Rel (M : GM) (N : Nat) (w0 : World) (O0 : Nat → Prop) (γ0 : Nat → Option Addr) (s : St M) (a : Act) (w : World) : Prop := ∃ c, RelC M N w0 O0 γ0 c s a w

theorem Vals.grow {c L w c' L' w'} (h : Grow c L w c' L' w') {N : Nat} {vs : List V} {us : List Value} (hv : Vals c L w N vs us) : Vals c' L' w' N vs us :=
  ⟨hv.1, fun i v u h1 h2 => (hv.2 i v u h1 h2).grow h⟩

theorem Vals.put {c L w N} {vs : List V} {a : Act} {v : V} {u : Value} (hv : Vals c L w N vs a.tmps.toList) (h : Val c L w N v u) (dst : Option Tmp) : Vals c L w N (putV vs dst v) (a.put dst u).tmps.toList := by
  cases dst with
  | none => exact hv
  | some d =>
    refine ⟨by simp [putV, Act.put, hv.1.symm], fun i v' u' h1 h2 => ?_⟩
    simp only [putV, Act.put, Array.toList_setIfInBounds] at h1 h2
    rw [List.getElem?_set] at h1 h2
    by_cases hd : d = i
    · subst hd
      simp only [if_true] at h1 h2
      split at h1
      · split at h2
        · injection h1 with h1; injection h2 with h2; subst h1; subst h2; exact h
        · cases h2
      · cases h1
    · simp only [hd, if_false] at h1 h2
      exact hv.2 i v' u' h1 h2

theorem evalV_ok {c L w N} {vs : List V} {a : Act} (hv : Vals c L w N vs a.tmps.toList) (x : Operand) : Val c L w N (evalV vs x) (a.eval x) := by
  cases x with
  | tmp t =>
    simp only [evalV, Act.eval]
    by_cases ht : t < vs.length
    · have ht' : t < a.tmps.toList.length := by rw [hv.1]; exact ht
      have h1 := List.getElem?_eq_getElem ht
      have h2 := List.getElem?_eq_getElem ht'
      have := hv.2 t _ _ h1 h2
      rw [List.getD_eq_getElem?_getD, h1, Array.getD_eq_getD_getElem?, ← Array.getElem?_toList, h2]
      exact this
    · rw [List.getD_eq_getElem?_getD, List.getElem?_eq_none (Nat.le_of_not_lt ht)]
      exact .d _ _ (.undef _)
  | const v =>
    simp only [evalV, Act.eval]
    cases hd : cellD v with
    | none => exact .d _ _ (.undef _)
    | some d =>
      have : valD v = some d := by cases v <;> first | exact hd | cases hd
      exact .d _ _ ((valD_cells this).2.2 w _ N _)
  | global g => exact .d _ _ (.undef _)
  | func f => exact .clo f [] [] #[] #[] rfl rfl (by simp) (by simp)

theorem Sees.only (L : Loc) (rd : List Nat) : Sees (L.only rd) L := by
  intro g n h
  unfold Loc.get Loc.only at *
  by_cases hg : g ∈ rd
  · simp only [hg, if_true]
  · simp [hg] at h

theorem only_in (L : Loc) {rd : List Nat} {g : Nat} (h : g ∈ rd) : L.only rd g = L g := by simp [Loc.only, h]

section
variable {P : Program} {M : GM} {N : Nat} {w0 : World} {O0 : Nat → Prop} {γ0 : Nat → Option Addr}

theorem RelC.did {c : Ctx} {s : St M} {a : Act} {w : World} (h : RelC M N w0 O0 γ0 c s a w) {out : Out M.S} {u : Value} {w' : World} (hd : Did M c N w0 O0 s.L s.G w out u w') (dst : Option Tmp) :
    Rel M N w0 O0 γ0 { slots := putV s.slots dst out.v, L := s.L.upd out.wr, G := out.gs.getD s.G } (a.put dst u) w' := by
  obtain ⟨c', m, g, v⟩ := hd
  refine ⟨c', m, (h.slots.grow g).put v dst, ?_, fun n x hx => g.hγ n x (h.hγ n x hx), fun b x T fz hb => ?_⟩
  · cases dst <;> exact h.defers
  · obtain ⟨x', fz', h1, h2⟩ := h.cells b x T fz hb
    obtain ⟨x'', fz'', k1, k2⟩ := g.cells' h1
    exact ⟨x'', fz'', k1, k2.trans h2⟩

theorem astep_ok {Γ : Env M} (hM : M.Ok) (hΓ : ∀ f sp, Γ f = some sp → Sound P M f sp) {ops : Array Oper} {i : Nat} {o : Oper} (ho : ops[i]? = some o) {s s' : St M} {ft : Foot}
    (h : astep P Γ ops o s = some (s', ft)) {a : Act} {w : World} (hr : Rel M N w0 O0 γ0 s a w) {K : Act → World → Prop} {Q : Exit → Act → World → Prop} (hK : ∀ a' w', Rel M N w0 O0 γ0 s' a' w' → K a' w') :
    wpOp P ops Q i K a w := by
  obtain ⟨c, hr⟩ := hr
  have hg : ∀ b, aguard ops s.slots o = some b → Region.wanted o (yielded ops a.tmps) = b := by
    intro b hb
    unfold aguard at hb
    unfold Region.wanted
    split at hb
    · rename_i h1
      injection hb with hb; subst hb
      rw [h1]
    · rename_i j want h1
      rw [h1]
      dsimp only
      split at hb
      · rename_i b' hs
        injection hb with hb; subst hb
        cases hd : (ops[j]?).bind (·.dst) with
        | none => rw [hd] at hs; cases hs
        | some d =>
          rw [hd] at hs
          simp only [Option.bind_some] at hs
          have hd' : d < a.tmps.toList.length := by rw [hr.slots.1]; exact (List.getElem?_eq_some_iff.1 hs).1
          have h2 := List.getElem?_eq_getElem hd'
          have hv := (hr.slots.2 d _ _ hs h2).bool
          have : yielded ops a.tmps j = some b' := by
            unfold yielded
            rw [hd]
            simp only [Option.bind_some]
            rw [← Array.getElem?_toList, h2, hv]
          rw [this]
          cases b' <;> cases want <;> rfl
      · rename_i hs
        injection hb with hb; subst hb
        cases hd : (ops[j]?).bind (·.dst) with
        | none => rw [hd] at hs; cases hs
        | some d =>
          rw [hd] at hs
          simp only [Option.bind_some] at hs
          have hd' : d < a.tmps.toList.length := by rw [hr.slots.1]; exact (List.getElem?_eq_some_iff.1 hs).1
          have h2 := List.getElem?_eq_getElem hd'
          have hv := (hr.slots.2 d _ _ hs h2).dat
          have : yielded ops a.tmps j = none := by
            unfold yielded
            rw [hd]
            simp only [Option.bind_some]
            rw [← Array.getElem?_toList, h2]
            generalize a.tmps.toList[d] = u at hv
            cases hv; rfl
          rw [this]; rfl
      · cases hb
  unfold astep at h
  unfold wpOp
  rw [ho]
  dsimp only
  split at h
  · cases h
  · rename_i hgd
    injection h with h; injection h with h1 h2; subst h1
    rw [hg _ hgd]
    simp only [Bool.false_eq_true, if_false]
    refine hK _ _ ?_
    exact ⟨c, hr.mem, hr.slots.put undef_val o.dst, by cases o.dst <;> exact hr.defers, hr.hγ, hr.cells⟩
  · rename_i hgd
    rw [hg _ hgd]
    simp only [if_true]
    cases ha : aop P Γ o (evalV s.slots) (s.L.only (rdOf o (o.op.operands.toList.map (evalV s.slots)) s.L)) (if gOf Γ o (o.op.operands.toList.map (evalV s.slots)) = 0 then none else some s.G) with
    | none => simp only [ha] at h; cases h
    | some out =>
      simp only [ha, Option.bind_some] at h
      split at h
      rotate_left
      · cases h
      injection h with h; injection h with h1 h2; subst h1
      have hok := aop_ok (ρ := a.eval) hM hΓ hr.mem (Sees.only _ _) (o := o)
        (fun hh => only_in _ (by
          simp only [rdOf, List.mem_append]
          refine .inr ?_
          split
          · rename_i e; exact absurd e hh
          · simp
          · simp))
        (fun hh i hi => only_in _ (by
          simp only [rdOf, List.mem_append]
          refine .inr ?_
          rw [hh]
          have : i = 0 ∨ i = 1 ∨ i = 2 ∨ i = 3 ∨ i = 4 := by omega
          rcases this with rfl | rfl | rfl | rfl | rfl <;> simp))
        (by
          intro s' hs'
          split at hs'
          · cases hs'
          · injection hs' with hs'; exact hs'.symm) (evalV_ok hr.slots) ha
      refine .inl ?_
      unfold Oper.wp
      rcases hok with ⟨u, w', e1, e2⟩ | ⟨w', e1, e2⟩ | ⟨f, args, e1, e2⟩
      · rw [e1, Oper.upon_value]
        exact hK _ _ (hr.did e2 o.dst)
      · rw [e1, Oper.upon_skip]
        exact hK _ _ (hr.did e2 o.dst)
      · rw [e1, Oper.upon_enter]
        refine e2.mono fun e w' ⟨v, he, hd⟩ => ?_
        subst he
        exact hK _ _ (hr.did hd o.dst)
end
end Wf
