/-
  Calls, whole.
-/
import Derived.Test.YtpdhbdacbiamdaaWfU
set_option linter.unusedVariables false
set_option linter.unusedSimpArgs false
set_option linter.unnecessarySimpa false
namespace Wf
open Go Go.RowKit

section
variable {M : GM} {c : Ctx} {N : Nat} {w0 : World} {O0 : Nat → Prop} {L Lr : Loc} {G : M.S} {w : World}

theorem adopt1_not {id sz : Nat} {d : D} (h : ∀ els, d ≠ .sl .own els) : adopt1 L id sz d = (.d d, []) := by
  unfold adopt1
  split
  · rename_i els; exact absurd rfl (h els)
  · rfl

theorem adoptL_spec {t : Nat} : ∀ (szs : List Nat) (ds : List D) (j : Nat) (Lb : Loc), szs.length = ds.length →
    (adoptL L t j szs ds).1.length = ds.length ∧
    (∀ (i : Nat) (d : D) (sz : Nat), ds[i]? = some d → szs[i]? = some sz → (adoptL L t j szs ds).1[i]? = some (adopt1 L (t + 1000 * (j + i + 1)) sz d).1) ∧
    (∀ (i : Nat) (els : List D) (sz : Nat), ds[i]? = some (.sl .own els) → szs[i]? = some sz → (Lb.upd (adoptL L t j szs ds).2) (t + 1000 * (j + i + 1)) = (L.new (t + 1000 * (j + i + 1)), .arr sz els true)) ∧
    ∀ g, (∀ (i : Nat) (els : List D) (sz : Nat), ds[i]? = some (.sl .own els) → szs[i]? = some sz → g ≠ t + 1000 * (j + i + 1)) → (Lb.upd (adoptL L t j szs ds).2) g = Lb g
  | [], [], j, Lb, _ => ⟨rfl, by simp, by simp, fun _ _ => rfl⟩
  | [], _ :: _, _, _, h => by simp at h
  | _ :: _, [], _, _, h => by simp at h
  | sz :: szs, d :: ds, j, Lb, h => by
    let r := adopt1 L (t + 1000 * (j + 1)) sz d
    obtain ⟨k1, k2, k3, k4⟩ := adoptL_spec (t := t) szs ds (j + 1) (Lb.upd r.2) (by simpa using h)
    have hwr : ∀ g, g ≠ t + 1000 * (j + 1) → (Lb.upd r.2) g = Lb g := by
      intro g hg
      by_cases ho : ∃ els, d = .sl .own els
      · obtain ⟨els, rfl⟩ := ho
        simp only [r, adopt1, Loc.upd, Loc.set_ne _ _ hg]
      · have : r = (.d d, []) := adopt1_not fun els e => ho ⟨els, e⟩
        rw [this]; rfl
    have hw0 : ∀ els, d = .sl .own els → (Lb.upd r.2) (t + 1000 * (j + 1)) = (L.new (t + 1000 * (j + 1)), .arr sz els true) := by
      rintro els rfl
      simp only [r, adopt1, Loc.upd, Loc.set_same]
    refine ⟨by simp [adoptL, k1], ?_, ?_, ?_⟩
    · intro i d' sz' hd hs
      cases i with
      | zero => simp at hd hs; subst hd; subst hs; simp [adoptL]
      | succ i =>
        have := k2 i d' sz' (by simpa using hd) (by simpa using hs)
        simp only [adoptL, List.getElem?_cons_succ]
        rw [this]; congr 4; omega
    · intro i els sz' hd hs
      simp only [adoptL, Loc.upd_append]
      cases i with
      | zero =>
        simp at hd hs; subst hs
        rw [k4 _ (fun i _ _ _ _ => by omega)]
        exact hw0 els hd
      | succ i =>
        have := k3 i els sz' (by simpa using hd) (by simpa using hs)
        rw [show j + 1 + i = j + (i + 1) by omega] at this
        exact this
    · intro g hg
      simp only [adoptL, Loc.upd_append]
      rw [k4 g (fun i els sz' hd hs => by
        have := hg (i + 1) els sz' (by simpa using hd) (by simpa using hs)
        rwa [show j + (i + 1) = j + 1 + i by omega] at this)]
      by_cases hg0 : g = t + 1000 * (j + 1)
      · by_cases ho : ∃ els, d = .sl .own els
        · obtain ⟨els, rfl⟩ := ho
          exact absurd hg0 (hg 0 els sz (by simp) (by simp))
        · have : r = (.d d, []) := adopt1_not fun els e => ho ⟨els, e⟩
          rw [this]; rfl
      · exact hwr g hg0

theorem CompOk.not_own {A : Nat → Prop} {γ β sz} {d : D} {u : Value} (h : CompOk w A N γ β sz d u) (hn : ∀ els, d ≠ .sl .own els) : β = none ∧ Rep w A N γ d u := by
  unfold CompOk at h
  split at h
  · rename_i els; exact absurd rfl (hn els)
  · exact h

theorem ArrOk.out {w : World} {A A' : Nat → Prop} {N N' : Nat} {γ β sz els} (h : ArrOk w A N γ β sz els) (hA : ∀ b, A' b → A b) (hN : N' ≤ N) : ArrOk w A' N' γ β sz els := by
  cases β with
  | none => exact h
  | some b =>
    obtain ⟨x, T, fz, r1, r2, r3, vs, r4⟩ := h
    exact ⟨x, T, fz, r1, r2, r3, vs, fun i d hd => ⟨((r4 i d hd).1).out hA hN, (r4 i d hd).2⟩⟩

theorem adopt_ok (hm : Mem M c N w0 O0 L G w) {w' : World} {G' : M.S} {γ' : Nat → Option Addr} {O' : Nat → Prop} (hγ : ∀ n a, c.γ n = some a → γ' n = some a) (hglob : M.rel G' γ' O' w')
    (hO : ∀ b, O' b → b < w'.heap.size ∧ (c.O b ∨ w.heap.size ≤ b)) (hk : Kept w c.O w') {t : Nat} {szs : List Nat} {r : D} {v : Value} {vv : V} {wr : Wr}
    (ha : adopt Lr t szs r = some (vv, wr)) (hLr : ∀ i, i ≤ 4 → Lr (t + 1000 * i) = L (t + 1000 * i)) (hr : ResOk w' (fun b => b < w.heap.size ∨ O' b) w.heap.size γ' szs r v) :
    ∃ c', Mem M c' N w0 O0 (L.upd wr) G' w' ∧ Grow c L w c' (L.upd wr) w' ∧ Val c' (L.upd wr) w' N vv v := by
  have hN := hm.size
  obtain ⟨ow, o1, o2, o3⟩ := hr
  by_cases htup : ∃ ds, r = .tup ds
  · obtain ⟨ds, rfl⟩ := htup
    simp only [adopt] at ha
    split at ha
    rotate_left
    · cases ha
    rename_i hlen
    obtain ⟨hlen, hle4⟩ := hlen
    injection ha with ha
    injection ha with ha1 ha2
    subst ha1; subst ha2
    obtain ⟨vs, rfl, q1, _, q3⟩ := o3
    obtain ⟨k1, k2, k3, k4⟩ := adoptL_spec (L := Lr) (t := t) szs ds 0 L hlen
    let idx : Nat → Nat := fun g => (g - t) / 1000 - 1
    have hidx : ∀ i, idx (t + 1000 * (i + 1)) = i := by intro i; simp only [idx]; omega
    let ad : Nat → Option (Nat × List D × Option Nat) := fun g => if g = t + 1000 * (idx g + 1) then
      (match ds[idx g]?, szs[idx g]? with
       | some (.sl .own els), some sz => some (sz, els, ow (idx g))
       | _, _ => none) else none
    have had : ∀ g sz els β, ad g = some (sz, els, β) → ∃ i, i < 4 ∧ g = t + 1000 * (i + 1) ∧ ds[i]? = some (.sl .own els) ∧ szs[i]? = some sz ∧ β = ow i := by
      intro g sz els β h
      simp only [ad] at h
      split at h
      · rename_i hg
        split at h
        · rename_i els' sz' h1 h2
          injection h with h
          injection h with h3 h4
          injection h4 with h4 h5
          subst h3; subst h4; subst h5
          have : idx g < ds.length := by
            rcases Nat.lt_or_ge (idx g) ds.length with h | h
            · exact h
            · rw [List.getElem?_eq_none h] at h1; cases h1
          exact ⟨idx g, by omega, hg, h1, h2, rfl⟩
        · cases h
      · cases h
    have had' : ∀ i els sz, ds[i]? = some (.sl .own els) → szs[i]? = some sz → ad (t + 1000 * (i + 1)) = some (sz, els, ow i) := by
      intro i els sz h1 h2
      simp only [ad, hidx, if_true, h1, h2]
    have hnone : ∀ g, ad g = none → (L.upd (adoptL Lr t 0 szs ds).2) g = L g := by
      intro g hg
      refine k4 g fun i els sz h1 h2 e => ?_
      rw [Nat.zero_add] at e
      rw [e, had' i els sz h1 h2] at hg; cases hg
    have hlt4 : ∀ (i : Nat) (els : List D), ds[i]? = some (.sl .own els) → i < 4 := by
      intro i els h
      rcases Nat.lt_or_ge i ds.length with h' | h'
      · omega
      · rw [List.getElem?_eq_none h'] at h; cases h
    have hsome : ∀ g sz els β, ad g = some (sz, els, β) → (L.upd (adoptL Lr t 0 szs ds).2) g = (L.new g, .arr sz els true) := by
      intro g sz els β hg
      obtain ⟨i, hi, rfl, h1, h2, _⟩ := had g sz els β hg
      have := k3 i els sz h1 h2
      rw [Nat.zero_add] at this
      rw [this]
      have : Lr.new (t + 1000 * (i + 1)) = L.new (t + 1000 * (i + 1)) := by unfold Loc.new; rw [hLr _ (by omega)]
      rw [this]
    have comp : ∀ (i : Nat) (els : List D) (sz : Nat), ds[i]? = some (.sl .own els) → szs[i]? = some sz → ∃ u, vs[i]? = some u ∧ CompOk w' (fun b => (b < w.heap.size ∨ O' b) ∨ ∃ i, ow i = some b) w.heap.size γ' (ow i) sz (.sl .own els) u := by
      intro i els sz h1 h2
      have hi : i < vs.size := by
        rcases Nat.lt_or_ge i ds.length with h' | h'
        · omega
        · rw [List.getElem?_eq_none h'] at h1; cases h1
      exact ⟨vs[i], Array.getElem?_eq_getElem hi, q3 i _ _ _ h1 (Array.getElem?_eq_getElem hi) h2⟩
    have hsub : ∀ b, ((b < w.heap.size ∨ O' b) ∨ ∃ g sz els, ad g = some (sz, els, some b)) → ((b < w.heap.size ∨ O' b) ∨ ∃ i, ow i = some b) := by
      rintro b (h | ⟨g, sz, els, h⟩)
      · exact .inl h
      · obtain ⟨i, _, _, _, _, h6⟩ := had g sz els _ h
        exact .inr ⟨i, h6.symm⟩
    obtain ⟨m1, m2, m3⟩ := adopt_core hm hγ hglob hO hk ad (L.upd (adoptL Lr t 0 szs ds).2)
      (fun g => by
        cases hg : ad g with
        | none => exact hnone g hg
        | some p => obtain ⟨sz, els, β⟩ := p; exact hsome g sz els β hg)
      (fun g sz els b h => by
        obtain ⟨i, _, _, h4, h5, h6⟩ := had g sz els _ h
        obtain ⟨a1, a2⟩ := o2 i b h6.symm
        refine ⟨?_, a1, fun h => a2 (.inr h)⟩
        rcases Nat.lt_or_ge b w.heap.size with h' | h'
        · exact absurd (.inl h') a2
        · exact h')
      (fun g g' sz els sz' els' b h h' => by
        obtain ⟨i, _, hg, _, _, h6⟩ := had g sz els _ h
        obtain ⟨i', _, hg', _, _, h6'⟩ := had g' sz' els' _ h'
        have := o1 i i' b h6.symm h6'.symm
        rw [hg, hg', this])
      (fun g sz els β h => by
        obtain ⟨i, _, _, h4, h5, rfl⟩ := had g sz els _ h
        obtain ⟨u, _, hc⟩ := comp i els sz h4 h5
        exact (hc.2).out hsub hN)
    refine ⟨_, m1, m2, .tup _ _ (by rw [k1]; exact q1) fun i x u hx hu => ?_⟩
    have hi : i < ds.length := by
      rcases Nat.lt_or_ge i vs.size with h' | h'
      · omega
      · rw [Array.getElem?_eq_none h'] at hu; cases hu
    have hd : ds[i]? = some ds[i] := List.getElem?_eq_getElem hi
    have hsz : szs[i]? = some (szs[i]'(by omega)) := List.getElem?_eq_getElem (by omega)
    have hx' := k2 i _ _ hd hsz
    rw [hx] at hx'
    injection hx' with hx'
    have hcomp := q3 i _ u _ hd hu hsz
    rw [Nat.zero_add] at hx'
    by_cases ho : ∃ els, ds[i] = .sl .own els
    · obtain ⟨els, hels⟩ := ho
      rw [hels] at hx' hcomp hd
      simp only [adopt1] at hx'
      subst hx'
      have h1 := had' i els _ hd hsz
      have h2 := hsome _ _ _ _ h1
      have h3 : Lr.new (t + 1000 * (i + 1)) = L.new (t + 1000 * (i + 1)) := by unfold Loc.new; rw [hLr _ (by omega)]
      rw [h3]
      refine .ref _ _ _ _ _ (by rw [h2]; exact Nat.le_refl _) fun sz' els' l' hget => ?_
      unfold Loc.get at hget
      rw [h2] at hget
      simp at hget
      obtain ⟨rfl, rfl, rfl⟩ := hget
      refine ⟨by omega, ?_⟩
      simp only [h1]
      exact hcomp.1
    · rw [adopt1_not fun els e => ho ⟨els, e⟩] at hx'
      subst hx'
      exact .d _ _ (((hcomp.not_own fun els e => ho ⟨els, e⟩).2).out (fun b h => hsub b (m3 b h)) hN)
  · have o3' : ∃ sz, szs = [sz] ∧ CompOk w' (fun b => (b < w.heap.size ∨ O' b) ∨ ∃ i, ow i = some b) w.heap.size γ' (ow 0) sz r v := by
      cases r <;> first | exact o3 | exact absurd ⟨_, rfl⟩ htup
    obtain ⟨sz, rfl, hc⟩ := o3'
    have ha' : adopt1 Lr t sz r = (vv, wr) := by
      cases r <;> first | (simp only [adopt] at ha; injection ha) | exact absurd ⟨_, rfl⟩ htup
    have hL0 : Lr.new t = L.new t := by have := hLr 0 (by omega); simp at this; unfold Loc.new; rw [this]
    by_cases ho : ∃ els, r = .sl .own els
    · obtain ⟨els, rfl⟩ := ho
      simp only [adopt1] at ha'
      injection ha' with h1 h2
      subst h1; subst h2
      let ad : Nat → Option (Nat × List D × Option Nat) := fun g => if g = t then some (sz, els, ow 0) else none
      have had : ∀ g sz' els' β, ad g = some (sz', els', β) → g = t ∧ sz' = sz ∧ els' = els ∧ β = ow 0 := by
        intro g sz' els' β h
        simp only [ad] at h
        split at h
        · injection h with h; injection h with h3 h4; injection h4 with h4 h5
          exact ⟨by assumption, h3.symm, h4.symm, h5.symm⟩
        · cases h
      have hsub : ∀ b, ((b < w.heap.size ∨ O' b) ∨ ∃ g sz els, ad g = some (sz, els, some b)) → ((b < w.heap.size ∨ O' b) ∨ ∃ i, ow i = some b) := by
        rintro b (h | ⟨g, sz, els, h⟩)
        · exact .inl h
        · exact .inr ⟨0, (had _ _ _ _ h).2.2.2.symm⟩
      rw [hL0]
      obtain ⟨m1, m2, m3⟩ := adopt_core hm hγ hglob hO hk ad (L.upd [(t, (L.new t, .arr sz els true))])
        (fun g => by
          by_cases hg : g = t
          · subst hg; simp only [ad, if_true, Loc.upd, Loc.set_same]
          · simp only [ad, hg, if_false, Loc.upd, Loc.set_ne _ _ hg])
        (fun g sz' els' b h => by
          obtain ⟨_, _, _, h6⟩ := had _ _ _ _ h
          obtain ⟨a1, a2⟩ := o2 0 b h6.symm
          refine ⟨?_, a1, fun h => a2 (.inr h)⟩
          rcases Nat.lt_or_ge b w.heap.size with h' | h'
          · exact absurd (.inl h') a2
          · exact h')
        (fun g g' _ _ _ _ b h h' => by rw [(had _ _ _ _ h).1, (had _ _ _ _ h').1])
        (fun g sz' els' β h => by
          obtain ⟨_, rfl, rfl, rfl⟩ := had _ _ _ _ h
          exact (hc.2).out hsub hN)
      refine ⟨_, m1, m2, .ref _ _ _ _ _ (by simp [Loc.upd, Loc.set_same]) fun sz' els' l' hget => ?_⟩
      simp only [Loc.upd, Loc.get, Loc.set_same, if_true] at hget
      cases hget
      refine ⟨by omega, ?_⟩
      have : ad t = some (sz, els, ow 0) := by simp [ad]
      simp only [this]
      exact hc.1
    · rw [adopt1_not fun els e => ho ⟨els, e⟩] at ha'
      injection ha' with h1 h2
      subst h1; subst h2
      obtain ⟨m1, m2, m3⟩ := adopt_core hm hγ hglob hO hk (fun _ => none) L (fun _ => rfl) (by simp) (by simp) (by simp)
      exact ⟨_, m1, m2, .d _ _ (((hc.not_own fun els e => ho ⟨els, e⟩).2).out (fun b h => by
        rcases m3 b h with h | ⟨_, _, _, h⟩
        · exact .inl h
        · cases h) hN)⟩

end
end Wf
