/-
  A function's start.
-/
import Derived.ProofKit
import Derived.Test.YtgekoicndhcghaaFc
set_option linter.unusedVariables false
set_option linter.unusedSimpArgs false
set_option linter.unnecessarySimpa false
namespace Wf
open Go Go.RowKit

/-- Rows that are given to a function: where they are put. -/
def given (pms : List (PM × Nat)) (ds : List D) (g : Nat) : Option (Nat × List D) :=
  if 90000 ≤ g ∧ g < 91000 then (if (pmAt pms (g - 90000)).1 = .lent then none else match ds[g - 90000]? with
    | some (.sl .own els) => some ((pmAt pms (g - 90000)).2, els)
    | _ => none) else none
def initL (pms : List (PM × Nat)) (ds : List D) (ks : List (Nat × Bool)) (Ts : List Tb) : Loc := fun g => match given pms ds g with
  | some x => (0, .arr x.1 x.2 true)
  | none => tabsLoc ks Ts g
def initV (pms : List (PM × Nat)) (i : Nat) (d : D) : V := if (pmAt pms i).1 = .lent then .d d.lent else match d with
  | .sl .own els => .ref (90000 + i) 0 0 els.length
  | _ => .d .undef
def initVs (pms : List (PM × Nat)) : Nat → List D → List V
  | _, [] => []
  | i, d :: r => initV pms i d :: initVs pms (i + 1) r
def initS (n : Nat) (pms : List (PM × Nat)) (ds : List D) (ks : List (Nat × Bool)) (Ts : List Tb) : St :=
  { slots := initVs pms 0 ds ++ List.replicate (n - ds.length) (.d .undef), L := initL pms ds ks Ts }
def initC (γ : Nat → Nat → Option Nat) (ρ : Nat → Nat → Nat → Option Nat) (O : Nat → Prop) (gv : Nat → Option Nat) (pms : List (PM × Nat)) (ds : List D) : Ctx :=
  { ι := fun g => match given pms ds g with
      | some _ => gv (g - 90000)
      | none => none, γ, ρ, O }

theorem given_spec {pms : List (PM × Nat)} {ds : List D} {g : Nat} {x : Nat × List D} (h : given pms ds g = some x) : ∃ i, i < 1000 ∧ g = 90000 + i ∧ (pmAt pms i).1 ≠ .lent ∧ ds[i]? = some (.sl .own x.2) ∧ x.1 = (pmAt pms i).2 := by
  unfold given at h
  split at h
  · rename_i hg
    split at h
    · cases h
    · rename_i hp
      split at h
      · rename_i els hd
        injection h with h; subst h
        exact ⟨g - 90000, by omega, by omega, hp, hd, rfl⟩
      · cases h
  · cases h
theorem given_at {pms : List (PM × Nat)} {ds : List D} {i : Nat} {els : List D} (hi : i < 1000) (hp : (pmAt pms i).1 ≠ .lent) (hd : ds[i]? = some (.sl .own els)) : given pms ds (90000 + i) = some ((pmAt pms i).2, els) := by
  unfold given
  rw [if_pos (by omega), show 90000 + i - 90000 = i by omega, if_neg hp, hd]
theorem given_tb {pms : List (PM × Nat)} {ds : List D} (k : Nat) : given pms ds (tb k) = none := by
  unfold given; rw [if_neg (by unfold tb; omega)]

theorem initVs_get {pms : List (PM × Nat)} : ∀ {ds : List D} {i j : Nat}, (initVs pms i ds)[j]? = (ds[j]?).map (initV pms (i + j))
  | [], i, j => by simp [initVs]
  | d :: ds, i, 0 => by simp [initVs]
  | d :: ds, i, j + 1 => by
    simp only [initVs, List.getElem?_cons_succ]
    rw [initVs_get, show i + 1 + j = i + (j + 1) by omega]
theorem initVs_len {pms : List (PM × Nat)} : ∀ {ds : List D} {i : Nat}, (initVs pms i ds).length = ds.length
  | [], i => rfl
  | d :: ds, i => by simp [initVs, initVs_len]

theorem tabsLoc_obj {ks : List (Nat × Bool)} {Ts : List Tb} (g : Nat) : (tabsLoc ks Ts g).1 = 0 ∧ ((tabsLoc ks Ts g).2 = .dead ∨ ∃ wr T, (tabsLoc ks Ts g).2 = .tbl wr T) := by
  induction ks generalizing Ts with
  | nil => exact ⟨rfl, .inl rfl⟩
  | cons p ks ih =>
    obtain ⟨k0, w0⟩ := p
    cases Ts with
    | nil => exact ⟨rfl, .inl rfl⟩
    | cons T Ts =>
      simp only [tabsLoc]
      by_cases e : g = tb k0
      · subst e; rw [Loc.set_same]; exact ⟨rfl, .inr ⟨_, _, rfl⟩⟩
      · rw [Loc.set_ne _ _ e]; exact ih

theorem init_ok {n : Nat} {pms : List (PM × Nat)} {ks : List (Nat × Bool)} {ds : List D} {us : List Value} {Ts : List Tb} {w : World} {γ : Nat → Nat → Option Nat} {ρ : Nat → Nat → Nat → Option Nat} {O : Nat → Prop} {gv : Nat → Option Nat} (hn : ds.length ≤ 1000)
    (hT : TabRel (tabsLoc ks Ts) (ctxOf γ ρ O) (fun b => b < w.heap.size ∧ ¬ (O b ∨ Gv gv b)) w) (hO : ∀ b, O b → b < w.heap.size) (hgv : ∀ i b, gv i = some b → b < w.heap.size ∧ ¬ O b) (hinj : ∀ i j b, gv i = some b → gv j = some b → i = j)
    (hargs : ArgsOk w (fun b => O b ∨ Gv gv b) γ pms gv ds us) :
    RelC w.heap.size w (fun b => O b ∨ Gv gv b) ⟨γ, ρ, (· ∈ ksW ks), (initC γ ρ O gv pms ds).ι⟩ (initC γ ρ O gv pms ds) (initS n pms ds ks Ts)
      { tmps := us.toArray ++ Array.replicate (n - us.toArray.size) undef, defers := [] } w := by
  have hL : ∀ g x, given pms ds g = some x → initL pms ds ks Ts g = (0, .arr x.1 x.2 true) := fun g x h => by unfold initL; rw [h]
  have hLn : ∀ g, given pms ds g = none → initL pms ds ks Ts g = tabsLoc ks Ts g := fun g h => by unfold initL; rw [h]
  have hι : ∀ g x, given pms ds g = some x → (initC γ ρ O gv pms ds).ι g = gv (g - 90000) := fun g x h => by
    show (match given pms ds g with | some _ => gv (g - 90000) | none => none) = _
    rw [h]
  have hιn : ∀ g, given pms ds g = none → (initC γ ρ O gv pms ds).ι g = none := fun g h => by
    show (match given pms ds g with | some _ => gv (g - 90000) | none => none) = _
    rw [h]
  have hιs : ∀ g b, (initC γ ρ O gv pms ds).ι g = some b → ∃ x, given pms ds g = some x ∧ gv (g - 90000) = some b := fun g b h => by
    cases hg : given pms ds g with
    | none => rw [hιn g hg] at h; cases h
    | some x => rw [hι g x hg] at h; exact ⟨x, rfl, h⟩
  have hown : ∀ b, own (initC γ ρ O gv pms ds) (initL pms ds ks Ts) b → O b ∨ Gv gv b := by
    rintro b (h | ⟨g, h1, _⟩)
    · exact .inl h
    · obtain ⟨x, _, h3⟩ := hιs g b h1
      exact .inr ⟨_, h3⟩
  have htb : ∀ k, initL pms ds ks Ts (tb k) = tabsLoc ks Ts (tb k) := fun k => hLn _ (given_tb k)
  have hgiven : ∀ g x, given pms ds g = some x → ∃ i d u, i < 1000 ∧ g = 90000 + i ∧ (pmAt pms i).1 ≠ .lent ∧ ds[i]? = some d ∧ us[i]? = some u ∧ d = .sl .own x.2 ∧ x.1 = (pmAt pms i).2 ∧ x.2.all D.flatEl = true ∧ SlAt w (gv i) x.1 0 x.2.length u ∧ ArrOk w (fun _ => False) 0 γ (gv i) x.1 x.2 := by
    intro g x h
    obtain ⟨i, h1, h2, h3, h4, h5⟩ := given_spec h
    have hi : i < us.length := by rw [hargs.1]; exact lt_of_get h4
    obtain ⟨els, e1, e2, e3, e4⟩ := (hargs.2 i _ us[i] h4 (by simp)).2 h3
    injection e1 with _ e1; subst e1
    exact ⟨i, _, us[i], h1, h2, h3, h4, by simp, rfl, h5, e2, by rw [h5]; exact e3, by rw [h5]; exact e4⟩
  refine ⟨⟨fun g => ?_, fun g g' b h1 h2 _ _ => ?_, fun g b h1 _ => ?_, fun g b h1 _ _ h4 => ?_, ?_, fun k => hιn _ (given_tb k), fun k => ?_, Nat.le_refl _, rfl, rfl, rfl, rfl, fun _ _ _ => rfl, fun b hb => ⟨hO b hb, .inl (.inl hb)⟩⟩, ⟨?_, fun i v u hv hu => ?_⟩, rfl, fun _ _ _ h => h, fun k hk => ⟨fun T e => hk ?_, rfl, rfl⟩, fun g e => .inr rfl, fun b x T fz hb => ⟨x, fz, hb, rfl⟩⟩
  · show ObjOk _ (initL pms ds ks Ts) w _ _ (initL pms ds ks Ts g).2
    cases hg : given pms ds g with
    | none =>
      rw [hLn g hg]
      rcases (tabsLoc_obj (ks := ks) (Ts := Ts) g).2 with h | ⟨wr, T, h⟩ <;> rw [h] <;> trivial
    | some x =>
      rw [hL g x hg, hι g x hg]
      obtain ⟨i, d, u, h1, rfl, h3, h4, h5, h6, h7, h8, h9, h10⟩ := hgiven g x hg
      rw [show 90000 + i - 90000 = i by omega]
      have := h10.flat (A := own (initC γ ρ O gv pms ds) (initL pms ds ks Ts)) (N := w.heap.size) h8
      generalize gv i = β at this ⊢
      cases β with
      | none => exact this
      | some b => exact this
  · obtain ⟨x, e1, e2⟩ := hιs g b h1
    obtain ⟨x', e3, e4⟩ := hιs g' b h2
    obtain ⟨i, _, rfl, _⟩ := given_spec e1
    obtain ⟨i', _, rfl, _⟩ := given_spec e3
    have := hinj _ _ b e2 e4
    omega
  · obtain ⟨x, e1, e2⟩ := hιs g b h1
    obtain ⟨k1, k2⟩ := hgv _ b e2
    exact ⟨.inr (.inr ⟨_, e2⟩), k1, k2⟩
  · obtain ⟨x, e1, e2⟩ := hιs g b h1
    obtain ⟨i, _, rfl, _⟩ := given_spec e1
    omega
  · exact hT.stable (c := ctxOf γ ρ O) htb rfl rfl rfl fun _ _ _ _ _ _ => rfl
  · show (initL pms ds ks Ts (tb k)).2 = .dead ∨ _
    rw [show (initS n pms ds ks Ts).L (tb k) = tabsLoc ks Ts (tb k) from htb k, htb k]
    exact (tabsLoc_obj (tb k)).2
  · simp [initS, initVs_len, hargs.1]
  · simp only [initS, Array.toList_append, Array.toList_replicate, List.size_toArray] at hv hu
    by_cases hi : i < us.length
    · have hi' : i < ds.length := by rw [← hargs.1]; exact hi
      rw [List.getElem?_append_left (by simpa using hi)] at hu
      rw [List.getElem?_append_left (by rw [initVs_len]; exact hi'), initVs_get, Nat.zero_add] at hv
      have hd : ds[i]? = some ds[i] := by simp
      rw [hd] at hv
      injection hv with hv; subst hv
      have hu' : us[i]? = some u := by simpa using hu
      obtain ⟨a1, a2⟩ := hargs.2 i _ u hd hu'
      unfold initV
      by_cases hp : (pmAt pms i).1 = .lent
      · rw [if_pos hp]
        exact .d _ _ (((a1 hp).2.out hown (Nat.le_refl _)).lent _)
      · rw [if_neg hp]
        obtain ⟨els, e1, e2, e3, e4⟩ := a2 hp
        rw [e1] at hd ⊢
        dsimp only
        have hg := given_at (i := i) (by omega) hp hd
        have hget : (initS n pms ds ks Ts).L.get (90000 + i) 0 = .arr (pmAt pms i).2 els true := by
          show Loc.get (initL pms ds ks Ts) _ _ = _
          unfold Loc.get; rw [hL _ _ hg]; simp
        refine .ref _ _ _ _ _ (Nat.zero_le _) (fun sz' els' l' h => ?_) (fun sz' els' h => ?_)
        · rw [hget] at h; cases h
          refine ⟨by omega, ?_⟩
          rw [hι _ _ hg, show 90000 + i - 90000 = i by omega]; exact e3
        · rw [hget] at h; cases h
    · rw [List.getElem?_append_right (by rw [initVs_len, ← hargs.1]; omega)] at hv
      have := List.mem_of_getElem? hv
      rw [List.mem_replicate] at this
      rw [this.2]
      exact .d _ _ (.undef _)
  · have e' : tabOf (tabsLoc ks Ts) k = some (true, T) := by rw [← tabOf_same (htb k)]; exact e
    obtain ⟨j, h1, _⟩ := tabsLoc_spec e'
    exact mem_ksW.2 (List.mem_of_getElem? h1)

end Wf

/-
  A function's end.
-/
namespace Wf
open Go Go.RowKit

/-- Rows that are given back. -/
def outsOf (L : Loc) : List (PM × Nat) → Nat → Option (List (List D))
  | [], _ => some []
  | (p, sz) :: r, i => if p = .mut then (match L.get (90000 + i) 0 with
      | .arr sz' els true => if sz' = sz ∧ els.all D.flatEl = true then (outsOf L r (i + 1)).map fun x => els :: x else none
      | _ => none) else outsOf L r (i + 1)

theorem outsOf_spec {L : Loc} : ∀ {pms : List (PM × Nat)} {i : Nat} {outs : List (List D)}, outsOf L pms i = some outs → ∀ j sz, pmAt pms j = (.mut, sz) → ∃ els, outs[mutsBefore pms j]? = some els ∧ L.get (90000 + (i + j)) 0 = .arr sz els true ∧ els.all D.flatEl = true
  | [], i, outs, h, j, sz, hp => by rw [pmAt_nil] at hp; cases hp
  | (p, s) :: r, i, outs, h, j, sz, hp => by
    simp only [outsOf] at h
    by_cases hm : p = .mut
    · subst hm
      rw [if_pos rfl] at h
      split at h
      · rename_i sz' els hL
        split at h
        · rename_i hc
          obtain ⟨rfl, hf⟩ := hc
          cases ho : outsOf L r (i + 1) with
          | none => rw [ho] at h; cases h
          | some os =>
            rw [ho] at h
            injection h with h; subst h
            cases j with
            | zero =>
              simp [pmAt] at hp; subst hp
              exact ⟨els, by simp [mutsBefore], hL, hf⟩
            | succ j =>
              obtain ⟨els', e1, e2, e3⟩ := outsOf_spec ho j sz (by rw [← hp]; simp [pmAt])
              refine ⟨els', ?_, by rw [← e2]; congr 1; omega, e3⟩
              rw [mutsBefore_succ]
              simp only [pmAt, List.getD_cons_zero, if_true, List.tail_cons]
              rw [Nat.add_comm, List.getElem?_cons_succ]; exact e1
        · cases h
      · cases h
    · rw [if_neg hm] at h
      cases j with
      | zero =>
        simp [pmAt] at hp
        exact absurd hp.1 hm
      | succ j =>
        obtain ⟨els', e1, e2, e3⟩ := outsOf_spec h j sz (by rw [← hp]; simp [pmAt])
        refine ⟨els', ?_, by rw [← e2]; congr 1; omega, e3⟩
        rw [mutsBefore_succ]
        simp only [pmAt, List.getD_cons_zero, hm, if_false, List.tail_cons, Nat.zero_add]
        exact e1

theorem TabRel.swap {L : Loc} {c c' : Ctx} {R R' : Nat → Prop} {w : World} (h : TabRel L c R w) (hγ : c'.γ = c.γ) (hρ : c'.ρ = c.ρ) (hO : ∀ b, c'.O b ↔ c.O b) (hR : ∀ b, R b → R' b) : TabRel L c' R' w := by
  have ht : ∀ k i q, c'.tab k i q = c.tab k i q := fun k i q => by cases q <;> simp only [Ctx.tab, hγ, hρ]
  refine ⟨fun k wr T i cs h1 h2 => ?_, fun k wr T i b h1 h2 => ?_, fun k i q k' i' q' b h1 h2 h3 h4 => ?_, fun k T i q b h1 h2 h3 => ?_, fun k T i q b h1 h2 h3 => ?_⟩
  · rw [hγ, hρ]; exact h.obj k wr T i cs h1 h2
  · rw [hγ] at h2; exact h.tight k wr T i b h1 h2
  · rw [ht] at h3 h4; exact h.inj k i q k' i' q' b h1 h2 h3 h4
  · rw [ht] at h3; exact (hO b).2 (h.wr k T i q b h1 h2 h3)
  · rw [ht] at h3
    obtain ⟨a1, a2⟩ := h.ro k T i q b h1 h2 h3
    exact ⟨fun e => a1 ((hO b).1 e), hR b a2⟩

theorem wrTabs_not {L : Loc} : ∀ {ks : List Nat} {Ts : List Tb} {k : Nat} (Lb : Loc), k ∉ ks → (Lb.upd (wrTabs L ks Ts)) (tb k) = Lb (tb k)
  | [], Ts, k, Lb, _ => by cases Ts <;> rfl
  | k0 :: ks, [], k, Lb, _ => rfl
  | k0 :: ks, T :: Ts, k, Lb, h => by
    simp only [List.mem_cons, not_or] at h
    simp only [wrTabs, Loc.upd]
    rw [wrTabs_not _ h.2, Loc.set_ne _ _ (fun e => h.1 (tb_inj e))]
theorem wrTabs_at {L : Loc} : ∀ {ks : List Nat} {Ts : List Tb} {j k : Nat} {T : Tb} (Lb : Loc), ks.Nodup → ks[j]? = some k → Ts[j]? = some T → (Lb.upd (wrTabs L ks Ts)) (tb k) = (L.new (tb k), .tbl true T)
  | [], Ts, j, k, T, Lb, _, h, _ => by simp at h
  | k0 :: ks, [], j, k, T, Lb, _, _, h => by simp at h
  | k0 :: ks, T0 :: Ts, j, k, T, Lb, hn, h1, h2 => by
    simp only [List.nodup_cons] at hn
    simp only [wrTabs, Loc.upd]
    cases j with
    | zero =>
      simp at h1 h2; subst h1; subst h2
      rw [wrTabs_not _ hn.1, Loc.set_same]
    | succ j => exact wrTabs_at _ hn.2 (by simpa using h1) (by simpa using h2)
theorem newTabs_no : ∀ {ks : List (Nat × Bool)} {Ts Ts' : List Tb} {k : Nat}, Ts.length = ks.length → k ∉ ksW ks → tabOf (tabsLoc ks (newTabs ks Ts Ts')) k = tabOf (tabsLoc ks Ts) k
  | [], Ts, Ts', k, _, _ => by
    have : ∀ Ts, tabsLoc [] Ts = fun _ => (0, .dead) := fun Ts => by cases Ts <;> rfl
    rw [this, this]
  | (k0, w0) :: ks, [], Ts', k, h, _ => by simp at h
  | (k0, false) :: ks, T0 :: Ts, Ts', k, h, hk => by
    have en : newTabs ((k0, false) :: ks) (T0 :: Ts) Ts' = T0 :: newTabs ks Ts Ts' := by cases Ts' <;> rfl
    have hk' : k ∉ ksW ks := by simpa [ksW] using hk
    rw [en]
    simp only [tabsLoc]
    have ih := newTabs_no (Ts' := Ts') (by simpa using h) hk'
    by_cases e : k = k0
    · subst e; unfold tabOf; rw [Loc.set_same, Loc.set_same]
    · rw [tabOf_same (Loc.set_ne _ _ fun h => e (tb_inj h)), tabOf_same (Loc.set_ne _ _ fun h => e (tb_inj h))]; exact ih
  | (k0, true) :: ks, T0 :: Ts, Ts', k, h, hk => by
    have hk' : k ≠ k0 ∧ k ∉ ksW ks := by simpa [ksW] using hk
    cases Ts' with
    | nil =>
      simp only [newTabs, tabsLoc]
      rw [tabOf_same (Loc.set_ne _ _ fun h => hk'.1 (tb_inj h)), tabOf_same (Loc.set_ne _ _ fun h => hk'.1 (tb_inj h))]
      exact newTabs_no (by simpa using h) hk'.2
    | cons T' Ts' =>
      simp only [newTabs, tabsLoc]
      rw [tabOf_same (Loc.set_ne _ _ fun h => hk'.1 (tb_inj h)), tabOf_same (Loc.set_ne _ _ fun h => hk'.1 (tb_inj h))]
      exact newTabs_no (by simpa using h) hk'.2

theorem end_ok {n : Nat} {pms : List (PM × Nat)} {ks : List (Nat × Bool)} {ds : List D} {us : List Value} {Ts tbs : List Tb} {outs : List (List D)} {w : World} {γ : Nat → Nat → Option Nat} {ρ : Nat → Nat → Nat → Option Nat} {O : Nat → Prop} {gv : Nat → Option Nat} (hn : ds.length ≤ 1000)
    (hT : TabRel (tabsLoc ks Ts) (ctxOf γ ρ O) (fun b => b < w.heap.size ∧ ¬ (O b ∨ Gv gv b)) w) (hO : ∀ b, O b → b < w.heap.size ∧ Ows (ctxOf γ ρ O) (tabsLoc ks Ts) (· ∈ ksW ks) b) (hgv : ∀ i b, gv i = some b → b < w.heap.size ∧ ¬ O b) (hinj : ∀ i j b, gv i = some b → gv j = some b → i = j)
    (hlen : ∀ i, ds.length ≤ i → gv i = none) (hargs : ArgsOk w (fun b => O b ∨ Gv gv b) γ pms gv ds us) (hTl : Ts.length = ks.length) (hnd : (ks.map (·.1)).Nodup)
    {c : Ctx} {s : St} {a : Act} {w' : World} (hr : RelC w.heap.size w (fun b => O b ∨ Gv gv b) ⟨γ, ρ, (· ∈ ksW ks), (initC γ ρ O gv pms ds).ι⟩ c s a w')
    (htb : tabsOf s.L (ks.filter (·.2)) = some tbs) (houts : outsOf s.L pms 0 = some outs) {szs : List Nat} {r : D} {v : Value} (hres : ResOk w' (fun b => (b < w.heap.size ∧ ¬ OwnG pms gv b) ∨ c.O b) w.heap.size c.γ szs r v) :
    Turned w w' γ c.γ ρ c.ρ O c.O pms gv ks ds Ts (newTabs ks Ts tbs) outs szs r v := by
  have h0 := init_ok (n := n) hn hT (fun b h => (hO b h).1) hgv hinj hargs
  have hm0 := h0.mem
  have hL0 : ∀ k, initL pms ds ks Ts (tb k) = tabsLoc ks Ts (tb k) := fun k => by unfold initL; rw [given_tb]
  have hgat : ∀ i b, gv i = some b → ∃ els, given pms ds (90000 + i) = some ((pmAt pms i).2, els) ∧ (pmAt pms i).1 ≠ .lent := by
    intro i b h
    have hi : i < ds.length := by
      rcases Nat.lt_or_ge i ds.length with h' | h'
      · exact h'
      · rw [hlen i h'] at h; cases h
    have hd : ds[i]? = some ds[i] := by simp
    have hu : us[i]? = some (us[i]'(by rw [hargs.1]; exact hi)) := by simp
    obtain ⟨a1, a2⟩ := hargs.2 i _ _ hd hu
    have hp : (pmAt pms i).1 ≠ .lent := fun hp => by rw [(a1 hp).1] at h; cases h
    obtain ⟨els, e1, _⟩ := a2 hp
    rw [e1] at hd
    exact ⟨els, given_at (by omega) hp hd, hp⟩
  have hι : ∀ i b, gv i = some b → (initC γ ρ O gv pms ds).ι (90000 + i) = some b := fun i b h => by
    obtain ⟨els, h1, _⟩ := hgat i b h
    show (match given pms ds (90000 + i) with | some _ => gv (90000 + i - 90000) | none => none) = _
    rw [h1, show 90000 + i - 90000 = i by omega]; exact h
  -- a row that is given back is where it was
  have hback : ∀ i sz, pmAt pms i = (.mut, sz) → ∃ els, outs[mutsBefore pms i]? = some els ∧ s.L.get (90000 + i) 0 = .arr sz els true ∧ els.all D.flatEl = true ∧ ∀ x, (initC γ ρ O gv pms ds).ι (90000 + i) = x → c.ι (90000 + i) = x := by
    intro i sz h
    obtain ⟨els, e1, e2, e3⟩ := outsOf_spec houts i sz h
    rw [Nat.zero_add] at e2
    obtain ⟨f1, f2⟩ := get_at e2 (by simp)
    refine ⟨els, e1, e2, e3, fun x hx => ?_⟩
    rcases hr.given _ f1 with h' | h'
    · rw [f2] at h'; cases h'
    · rw [h']; exact hx
  have hosub : ∀ b, c.O b → b < w'.heap.size ∧ (O b ∨ OwnG pms gv b ∨ w.heap.size ≤ b) := by
    intro b hb
    obtain ⟨a1, a2⟩ := hr.mem.osub b hb
    refine ⟨a1, ?_⟩
    rcases a2 with (h | ⟨i, h⟩) | h
    · exact .inl h
    · refine .inr (.inl ⟨i, ?_, h⟩)
      obtain ⟨els, h1, h2⟩ := hgat i b h
      cases hp : (pmAt pms i).1 with
      | lent => exact absurd hp h2
      | own => rfl
      | «mut» =>
        obtain ⟨els', _, e2, _, e4⟩ := hback i _ (Prod.ext hp rfl)
        obtain ⟨f1, f2⟩ := get_at e2 (by simp)
        exact absurd hb (hr.mem.mine _ b (e4 _ (hι i b h)) (by rw [f2]; simp)).2.2
    · exact .inr (.inr h)
  have hkept : Kept w (fun b => O b ∨ Gv gv b) w' := ⟨hr.mem.os, hr.mem.tape, hr.mem.output, hr.mem.size, hr.mem.keep, hr.cells⟩
  have hOws : ∀ b, Ows (initC γ ρ O gv pms ds) (initL pms ds ks Ts) (· ∈ ksW ks) b ↔ O b := by
    intro b
    constructor
    · rintro ⟨k, i, q, h1, h2, h3⟩
      have h2' : There (tabsLoc ks Ts) k i q := (There.same (hL0 k)).1 h2
      obtain ⟨wr, T, hT'⟩ := h2'.tab
      obtain ⟨j, hj, _⟩ := tabsLoc_spec hT'
      obtain ⟨j', hj', e⟩ := List.mem_iff_getElem.1 (mem_ksW.1 h1)
      have := tabsLoc_at (wr := true) (T := Ts[j']'(by omega)) hnd (j := j') (by rw [← e]; exact List.getElem?_eq_getElem hj') (List.getElem?_eq_getElem (by omega))
      exact hT.wr k _ i q b this h2' (by cases q <;> exact h3)
    · intro h
      obtain ⟨k, i, q, h1, h2, h3⟩ := (hO b h).2
      exact ⟨k, i, q, h1, (There.same (hL0 k)).2 h2, by cases q <;> exact h3⟩
  have hOwsE : Ows (initC γ ρ O gv pms ds) (initL pms ds ks Ts) (· ∈ ksW ks) = O := funext fun b => propext (hOws b)
  obtain ⟨u1, u2⟩ := tabsOf_spec htb
  have hfl : (ks.filter (·.2)).length = (ksW ks).length := by simp [ksW]
  obtain ⟨n1, n2, n3⟩ := newTabs_spec (L := s.L) (Ts := Ts) (Ts' := tbs) s.L hnd hTl (by omega)
  refine ⟨hr.hγ, fun k hk => (hr.stay k hk).2, ?_, hosub, hkept, fun i sz els els' h1 h2 h3 h4 => ?_, hres⟩
  · have hnk : (ksW ks).Nodup := List.Nodup.sublist (List.Sublist.map _ List.filter_sublist) hnd
    have := call_tab (ad := fun _ => none) hm0 (W := (· ∈ ksW ks)) (Gb := Gv gv) (Ob := OwnG pms gv) (O' := c.O) (LT := s.L) (L' := tabsLoc ks (newTabs ks Ts tbs)) (γ' := c.γ) (ρ' := c.ρ) (w' := w') hr.hγ (fun k hk => (hr.stay k hk).2)
      (fun b ⟨i, _, h⟩ => ⟨i, h⟩) (fun b ⟨i, h⟩ => by
        obtain ⟨els, h1, _⟩ := hgat i b h
        refine ⟨90000 + i, hι i b h, ?_⟩
        show (initL pms ds ks Ts (90000 + i)).2 ≠ .dead
        unfold initL; rw [h1]; simp)
      (fun b hb => ⟨(hosub b hb).1, (hosub b hb).2.imp (hOws b).2 id⟩)
      ⟨hkept.os, hkept.tape, hkept.output, hkept.size, fun b h1 h2 => hkept.block b h1 fun h => h2 (h.imp (hOws b).2 id), hkept.cells⟩
      (hr.mem.tab.swap (c' := ctxOf c.γ c.ρ c.O) rfl rfl (fun _ => Iff.rfl) (fun _ _ => trivial))
      (fun k hk => by
        obtain ⟨T, a1, a2⟩ := n2 k hk
        obtain ⟨j, hj, e⟩ := List.mem_iff_getElem.1 hk
        have hkj : (ksW ks)[j]? = some k := by rw [← e]; simp
        have htj : tbs[j]? = some (tbs[j]'(by omega)) := by simp
        have h3 := wrTabs_at (L := s.L) s.L hnk hkj htj
        rw [a2] at h3
        injection h3 with _ h3; injection h3 with _ h3
        have hf : (ks.filter (·.2))[j]? = some (k, true) := by
          unfold ksW at hkj
          rw [List.getElem?_map] at hkj
          cases hx : (ks.filter (·.2))[j]? with
          | none => rw [hx] at hkj; cases hkj
          | some p =>
            obtain ⟨k', b⟩ := p
            rw [hx] at hkj
            simp at hkj; subst hkj
            have := (List.mem_filter.1 (List.mem_of_getElem? hx)).2
            simp at this; rw [this]
        obtain ⟨wr0, q1, q2⟩ := u2 j k true _ hf htj
        rw [q2 rfl] at q1
        exact ⟨_, q1, by rw [a1, h3]⟩)
      (fun k hk => by
        rw [newTabs_no hTl hk]
        exact (tabOf_same (hL0 k)).symm)
    refine this.swap rfl rfl (fun b => ⟨fun h => .inr h, fun h => ?_⟩) (fun _ _ => trivial)
    rcases h with ⟨h1, h2⟩ | h
    · exact absurd ((hOws b).2 h1) h2
    · exact h
  · obtain ⟨els2, e1, e2, e3, e4⟩ := hback i sz h1
    rw [h3] at e1; injection e1 with e1; subst e1
    refine ⟨e3, ?_⟩
    have hob := hr.mem.get e2 (by simp)
    have hg : (initC γ ρ O gv pms ds).ι (90000 + i) = gv i := by
      have hd := h2
      have hi := lt_of_get h2
      have hp : (pmAt pms i).1 ≠ .lent := by rw [h1]; simp
      have hgg := given_at (i := i) (by omega) hp hd
      show (match given pms ds (90000 + i) with | some _ => gv (90000 + i - 90000) | none => none) = _
      rw [hgg, show 90000 + i - 90000 = i by omega]
    rw [e4 _ hg] at hob
    have : ArrOk w' (own c s.L) w.heap.size c.γ (gv i) sz els' := by
      generalize gv i = β at hob ⊢
      cases β with
      | none => exact hob
      | some b => exact hob
    exact this.flat e3

end Wf

/-
  Functions that are known, and what they answer.
-/
namespace Wf
open Go Go.RowKit

/-- A function that answers by F, and has no memory of its own. -/
abbrev SoundP (P : Program) (f : FuncId) (szs : List Nat) (F : List D → Option D) : Prop := Sound P f (.pure szs F)
def Env.Ok (P : Program) (Γ : Env) : Prop := ∀ f sp, Γ f = some sp → Sound P f sp
def Env.no : Env := fun _ => none
theorem Env.no_ok {P : Program} : Env.Ok P Env.no := fun _ _ h => by cases h
def Env.add (Γ : Env) (k : FuncId) (sp : Spec) : Env := fun f => if f = k then some sp else Γ f
theorem Env.Ok.add {P : Program} {Γ : Env} (h : Env.Ok P Γ) {k : FuncId} {sp : Spec} (hk : Sound P k sp) : Env.Ok P (Γ.add k sp) := by
  intro f s hf
  unfold Env.add at hf
  split at hf
  · rename_i e
    injection hf with hf; subst hf; subst e
    exact hk
  · exact h f s hf
theorem Env.add_same (Γ : Env) (k : FuncId) (sp : Spec) : (Γ.add k sp) k = some sp := by simp [Env.add]
theorem Env.add_ne {Γ : Env} {k f : FuncId} {sp : Spec} {x : Option Spec} (h : f ≠ k) (hx : Γ f = x) : (Γ.add k sp) f = x := by simp [Env.add, h, hx]
end Wf

/-
  From what a function answers to what a row says.
-/
namespace Wf
open Go Go.RowKit Go.ChangeShapes Go.WideShapes

theorem Kept.below {w w' : World} (h : Kept w (fun _ => False) w') : Below w.heap.size w w' :=
  ⟨h.os, h.tape, h.output, h.size, fun k hk => h.block k hk (fun h => h)⟩

/-- What a call of a function without memory of its own does, for flat answers. -/
theorem SoundP.calls {P : Program} {f : FuncId} {szs : List Nat} {F : List D → Option D} (h : SoundP P f szs F) {ds : List D} {b : Bool} (hF : F ds = some (.bool b)) {us : List Value} {w : World}
    (hr : Reps w (fun _ => False) 0 (fun _ _ => none) ds us) : Calls P f us.toArray w fun e w' => e = .returned (.bool b) ∧ Below w.heap.size w w' := by
  refine (h.2 ds _ hF w _ us hr).mono fun e w' ⟨v, he, hk, hres⟩ => ?_
  obtain ⟨ow, _, _, sz, _, _, hv⟩ := hres
  cases hv
  exact ⟨he, hk.below⟩

theorem post_of_below {H : Type} {enc : TypeId × Value → H} {P : Program} {f : Func} {s : ChangeSpec} {apart fresh handsOn again : Bool} {W W' : World} {args : Array Value} {v : Value} {ds gs : List (DataW H)} {before pa pv : List MemPlace}
    (hW : DataW.Whole enc P f.params.toList s.vars apart W args.toList ds gs before)
    (hres : ∀ (b : Nat) (sp : Nat → Bool) (hd : Bool), DataW.TrodAll enc P W' b sp hd f.resultTypes.toList (v.resultList f.resultTypes.size) (s.fn H (ds ++ gs)).results [])
    (hargs : ∀ sp : Nat → Bool, (∀ p ∈ before, sp p.block = true) → DataW.TrodAll enc P W' 0 sp true f.params.toList args.toList (s.fn H (ds ++ gs)).args pa)
    (hvars : ∀ sp : Nat → Bool, (∀ p ∈ before, sp p.block = true) → DataW.TrodVars enc P W' sp s.vars (s.fn H (ds ++ gs)).vars pv)
    (hps : before = pa ++ pv) (hb : Below W.heap.size W W')
    (hok : ∀ (j : Nat) (t : TypeId) (r : Value), f.resultTypes[j]? = some t → (v.resultList f.resultTypes.size)[j]? = some r → Value.okWide P W' .any 0 t r) :
    s.post enc P f apart fresh handsOn again W args v W' := by
  have hold : ∀ p ∈ before, (fun b => decide (b < W.heap.size)) p.block = true := fun p hp => by simpa using hW.lt p hp
  have hlt : ∀ p ∈ before, p.block < W.heap.size := fun p hp => hW.lt p hp
  have hk : W.keptBut W' (· ∈ before) := hb.frame _
  refine ⟨ds, gs, before, [], pa, pv, hW, hres _ _ _, hargs _ hold, hvars _ hold, World.keptBut_mono (fun p hp => ⟨hp, ?_⟩) hk, fun _ => ?_⟩
  · rw [hps, List.mem_append] at hp
    exact Or.inr hp
  · obtain ⟨_, _, _, _, _, hz, hn⟩ := hW
    refine ⟨hok, _, _, ([] ++ pa) ++ pv, ⟨[] ++ pa, pv, trodAll_append (hargs _ (fun _ _ => rfl)) (hres _ _ _), hvars _ (fun _ _ => rfl), rfl, ?_, ?_⟩, ?_⟩
    · intro b off hp
      have hp' : MemPlace.cell b off ∈ before := by rw [hps]; simpa using hp
      rw [hb.frozen (p := ⟨b, off, none⟩) (hlt _ hp')]
      exact hz b off hp'
    · intro ha
      have := hn ha
      rw [hps] at this
      simpa using this
    · intro p hp _
      rw [hps]
      simpa using hp
end Wf

/-
  A variable becomes an object of a table.
-/
namespace Wf
open Go Go.RowKit

/-- A new object of a table, of cells that are not told. -/
def appT (L : Loc) (k g m : Nat) (T : Tb) : Loc := (L.set g ((L g).1, .dead)).set (tb k) ((L (tb k)).1, .tbl true (T ++ [List.replicate m .undef]))
/-- .. and what is in it. -/
def pubL (P : Program) (t : TypeId) (k g n : Nat) (L : Loc) : Option (D × Loc) :=
  match tabOf L k with
  | some (true, T) => match L.get g n with
    | .box true ds => if tySize P t = some ds.length then (storeT (appT L k g ds.length T) k T.length 0 ds.length true false (.d (.agg ds))).map fun o => (.h k T.length 0, (appT L k g ds.length T).upd o.wr) else none
    | .vbox true ds ks vs => if tySize P t = some ds.length then (storeT (appT L k g ds.length T) k T.length 0 ds.length true false (.agg ds ks vs)).map fun o => (.h k T.length 0, (appT L k g ds.length T).upd o.wr) else none
    | _ => none
  | _ => none
/-- Slot j's variable, for good. -/
def pubS (P : Program) (t : TypeId) (k j : Nat) (s : St) : Option St :=
  match s.slots[j]? with
  | some (.ptr g n 0) => (pubL P t k g n s.L).map fun x => { slots := s.slots.set j (.d x.1), L := x.2 }
  | _ => none

section
variable {c : Ctx} {N : Nat} {w0 : World} {O0 : Nat → Prop} {L : Loc} {w : World}

theorem append_obj (hm : Mem c N w0 O0 L w) {k g b : Nat} {T : Tb} {x : Array Value} {ty : TypeId} {fz : Nat × Nat}
    (hT : tabOf L k = some (true, T)) (hlv : (L g).2.live = true) (hι : c.ι g = some b) (hb : w.heap[b]? = some (.cells x ty fz)) (hf : Unfrozen w b x.size) (hone : ∀ (i : Nat) (u : Value), x[i]? = some u → u.oneCell' = true) :
    ∃ c', Mem c' N w0 O0 (appT L k g x.size T) w ∧ Grow c L w c' (appT L k g x.size T) w ∧ c'.γ k T.length = some b := by
  have hgk : ∀ q, g ≠ tb q := by rintro q rfl; rw [hm.iotab] at hι; cases hι
  have hgd : (L g).2 ≠ .dead := by intro e; rw [e] at hlv; cases hlv
  obtain ⟨mb1, mb2, mb3⟩ := hm.mine g b hι hgd
  let c' : Ctx := { c with γ := fun k' i' => if k' = k ∧ i' = T.length then some b else c.γ k' i', O := fun b' => c.O b' ∨ b' = b }
  have hfresh : c.γ k T.length = none := by
    cases h : c.γ k T.length with
    | none => rfl
    | some b' => have := hm.tab.tight k true T _ b' hT h; omega
  have hγ : ∀ k' i' a, c.γ k' i' = some a → c'.γ k' i' = some a := by
    intro k' i' a h
    show (if k' = k ∧ i' = T.length then some b else c.γ k' i') = some a
    rw [if_neg]
    · exact h
    · rintro ⟨rfl, rfl⟩; rw [hfresh] at h; cases h
  have hγk : c'.γ k T.length = some b := by show (if k = k ∧ T.length = T.length then some b else _) = some b; simp
  have hγo : ∀ k' i', ¬ (k' = k ∧ i' = T.length) → c'.γ k' i' = c.γ k' i' := fun k' i' h => by
    show (if k' = k ∧ i' = T.length then some b else c.γ k' i') = _
    rw [if_neg h]
  let L1 := appT L k g x.size T
  have hL1k : L1 (tb k) = ((L (tb k)).1, .tbl true (T ++ [List.replicate x.size .undef])) := by show (Loc.set _ _ _) _ = _; rw [Loc.set_same]
  have hL1g : L1 g = ((L g).1, .dead) := by show (Loc.set _ _ _) _ = _; rw [Loc.set_ne _ _ (hgk k), Loc.set_same]
  have hL1o : ∀ q, q ≠ g → q ≠ tb k → L1 q = L q := fun q h1 h2 => by show (Loc.set _ _ _) _ = _; rw [Loc.set_ne _ _ h2, Loc.set_ne _ _ h1]
  have hL1t : ∀ q, q ≠ k → L1 (tb q) = L (tb q) := fun q h => hL1o _ (fun e => hgk q e.symm) (fun e => h (tb_inj e))
  have htab : ∀ k', tabOf L1 k' = if k' = k then some (true, T ++ [List.replicate x.size .undef]) else tabOf L k' := by
    intro k'
    by_cases e : k' = k
    · subst e; rw [if_pos rfl]; exact tab_get.2 (by rw [hL1k])
    · rw [if_neg e]; exact tabOf_same (hL1t k' e)
  have hlast : ∀ i cs, (T ++ [List.replicate x.size .undef])[i]? = some cs → (i < T.length ∧ T[i]? = some cs) ∨ (i = T.length ∧ cs = List.replicate x.size .undef) := by
    intro i cs h
    by_cases hi : i < T.length
    · rw [List.getElem?_append_left hi] at h; exact .inl ⟨hi, h⟩
    · rw [List.getElem?_append_right (by omega)] at h
      have : i - T.length = 0 := by
        have := lt_of_get h; simp at this; omega
      rw [this] at h
      simp at h
      exact .inr ⟨by omega, h.symm⟩
  have hcellT : ∀ i o d, cellT (T ++ [List.replicate x.size .undef]) i o = some d → d.isRow = true → cellT T i o = some d := by
    intro i o d h hr
    unfold cellT at h ⊢
    cases hx : (T ++ [List.replicate x.size .undef])[i]? with
    | none => rw [hx] at h; cases h
    | some cs =>
      rw [hx] at h
      rcases hlast i cs hx with ⟨_, h1⟩ | ⟨_, h1⟩
      · rw [h1]; exact h
      · subst h1
        have := List.mem_of_getElem? h
        rw [List.mem_replicate] at this
        rw [this.2] at hr; cases hr
  -- what there is: as it was, or the new object
  have hthere : ∀ k' i' q, There L1 k' i' q → (There L k' i' q ∧ c'.tab k' i' q = c.tab k' i' q) ∨ (k' = k ∧ i' = T.length ∧ q = none) := by
    intro k' i' q h
    cases q with
    | none =>
      obtain ⟨wr, T0, h1, h2⟩ := h
      rw [htab] at h1
      by_cases ek : k' = k
      · subst ek
        rw [if_pos rfl] at h1; cases h1
        by_cases hi : i' < T.length
        · exact .inl ⟨⟨_, _, hT, hi⟩, hγo _ _ fun h => by omega⟩
        · simp at h2
          exact .inr ⟨rfl, by omega, rfl⟩
      · rw [if_neg ek] at h1
        exact .inl ⟨⟨_, _, h1, h2⟩, hγo _ _ fun h => ek h.1⟩
    | some o =>
      obtain ⟨wr, T0, d, h1, h2, h3⟩ := h
      refine .inl ⟨?_, rfl⟩
      rw [htab] at h1
      by_cases ek : k' = k
      · subst ek
        rw [if_pos rfl] at h1; cases h1
        exact ⟨_, _, d, hT, hcellT _ _ _ h2 h3, h3⟩
      · rw [if_neg ek] at h1; exact ⟨_, _, d, h1, h2, h3⟩
  have hbno : ∀ k' i' q, There L k' i' q → c.tab k' i' q ≠ some b := by
    intro k' i' q h e
    obtain ⟨wr, T', hT'⟩ := h.tab
    cases wr with
    | true => exact mb3 (hm.tab.wr k' T' i' q b hT' h e)
    | false =>
      obtain ⟨_, a1, a2⟩ := hm.tab.ro k' T' i' q b hT' h e
      rcases mb1 with h | h
      · omega
      · exact a2 h
  have htr : TabRel L1 c' (fun b => b < N ∧ ¬ O0 b) w := by
    refine ⟨fun k' wr T0 i' cs h1 h2 => ?_, fun k' wr T0 i' b' h1 h2 => ?_, fun k1 i1 q1 k2 i2 q2 b' h1 h2 h3 h4 => ?_, fun k' T0 i' q b' h1 h2 h3 => ?_, fun k' T0 i' q b' h1 h2 h3 => ?_⟩
    · have old : ∀ T1, tabOf L k' = some (wr, T1) → T1[i']? = some cs → ∃ (b : Nat) (x : Array Value) (ty : TypeId) (fz : Nat × Nat), c'.γ k' i' = some b ∧ w.heap[b]? = some (.cells x ty fz) ∧ Unfrozen w b x.size ∧ x.size = cs.length ∧
          ∀ (o : Nat) (d : D) (u : Value), cs[o]? = some d → x[o]? = some u → u.oneCell' = true ∧ CellOk c'.γ w (rowSz k' o) (c'.ρ k' i' o) d u := by
        intro T1 h1 h2
        obtain ⟨b1, x1, ty1, fz1, p1, p2, p3, p4, p5⟩ := hm.tab.obj k' wr T1 i' cs h1 h2
        exact ⟨b1, x1, ty1, fz1, hγ _ _ _ p1, p2, p3, p4, fun o d u hd hu => ⟨(p5 o d u hd hu).1, (p5 o d u hd hu).2.mono (fun _ _ => rfl) hγ⟩⟩
      rw [htab] at h1
      by_cases ek : k' = k
      · subst ek
        rw [if_pos rfl] at h1; cases h1
        rcases hlast i' cs h2 with ⟨_, h3⟩ | ⟨h3, h4⟩
        · exact old T hT h3
        · subst h3; subst h4
          refine ⟨b, x, ty, fz, hγk, hb, hf, by simp, fun o d u hd hu => ⟨hone o u hu, ?_⟩⟩
          have := List.mem_of_getElem? hd
          rw [List.mem_replicate] at this
          rw [this.2]; exact .undef u
      · rw [if_neg ek] at h1; exact old T0 h1 h2
    · rw [htab] at h1
      by_cases ek : k' = k
      · subst ek
        rw [if_pos rfl] at h1; cases h1
        by_cases hi : i' = T.length
        · subst hi; simp
        · rw [hγo _ _ fun h => hi h.2] at h2
          have := hm.tab.tight k' true T i' b' hT h2
          simp; omega
      · rw [if_neg ek] at h1
        rw [hγo _ _ fun h => ek h.1] at h2
        exact hm.tab.tight k' wr T0 i' b' h1 h2
    · rcases hthere _ _ _ h1 with ⟨a1, a2⟩ | ⟨rfl, rfl, rfl⟩ <;> rcases hthere _ _ _ h2 with ⟨d1, d2⟩ | ⟨rfl, rfl, rfl⟩
      · rw [a2] at h3; rw [d2] at h4
        exact hm.tab.inj _ _ _ _ _ _ b' a1 d1 h3 h4
      · rw [a2] at h3
        have : b' = b := by simp only [Ctx.tab, hγk] at h4; exact (Option.some.inj h4).symm
        subst this
        exact absurd h3 (hbno _ _ _ a1)
      · rw [d2] at h4
        have : b' = b := by simp only [Ctx.tab, hγk] at h3; exact (Option.some.inj h3).symm
        subst this
        exact absurd h4 (hbno _ _ _ d1)
      · exact ⟨rfl, rfl, rfl⟩
    · rcases hthere _ _ _ h2 with ⟨a1, a2⟩ | ⟨rfl, rfl, rfl⟩
      · rw [a2] at h3
        rw [htab] at h1
        by_cases ek : k' = k
        · subst ek; exact .inl (hm.tab.wr k' T i' q b' hT a1 h3)
        · rw [if_neg ek] at h1; exact .inl (hm.tab.wr k' T0 i' q b' h1 a1 h3)
      · simp only [Ctx.tab, hγk] at h3
        exact .inr (Option.some.inj h3).symm
    · rw [htab] at h1
      by_cases ek : k' = k
      · rw [if_pos ek] at h1; cases h1
      · rw [if_neg ek] at h1
        rcases hthere _ _ _ h2 with ⟨a1, a2⟩ | ⟨rfl, rfl, rfl⟩
        · rw [a2] at h3
          obtain ⟨e1, e2⟩ := hm.tab.ro k' T0 i' q b' h1 a1 h3
          refine ⟨?_, e2⟩
          rintro (e | e)
          · exact e1 e
          · subst e; exact hbno _ _ _ a1 h3
        · exact absurd rfl ek
  have hgrow : Grow c L w c' L1 w := by
    refine ⟨Nat.le_refl _, fun _ _ _ => rfl, ?_, hγ, fun _ _ _ _ _ => rfl, stay_upto hT hL1t (fun q e => ?_) (fun _ _ => rfl), fun b' y T' fz' h _ => ⟨y, fz', h, rfl⟩, fun q => ?_, fun q hq => ?_⟩
    · rintro b' _ (h | ⟨q, h1, h2⟩)
      · rcases h with h | rfl
        · exact .inl h
        · exact .inr ⟨g, hι, hlv⟩
      · by_cases e1 : q = g
        · subst e1; rw [hL1g] at h2; cases h2
        · by_cases e2 : q = tb k
          · subst e2; rw [hL1k] at h2; cases h2
          · rw [hL1o q e1 e2] at h2; exact .inr ⟨q, h1, h2⟩
    · funext i'; exact hγo q i' fun h => e h.1
    · by_cases e1 : q = g
      · subst e1; rw [hL1g]; exact Nat.le_refl _
      · by_cases e2 : q = tb k
        · subst e2; rw [hL1k]; exact Nat.le_refl _
        · rw [hL1o q e1 e2]; exact Nat.le_refl _
    · by_cases e1 : q = g
      · subst e1; rw [hL1g]; exact .inl rfl
      · by_cases e2 : q = tb k
        · subst e2
          rw [hL1k, tab_get.1 hT]
          refine .inr ⟨rfl, rfl, fun i o => ⟨fun l h => ⟨l, hcellT i o _ h rfl, rfl⟩, fun kk es h => ⟨es, hcellT i o _ h rfl⟩⟩⟩
        · rw [hL1o q e1 e2]; exact .inr ⟨rfl, Compat.refl _⟩
  have hnd : ∀ q b', c'.ι q = some b' → (L1 q).2 ≠ .dead → q ≠ g ∧ L1 q = L q ∧ c.ι q = some b' := by
    intro q b' h1 h2
    have e1 : q ≠ g := by rintro rfl; rw [hL1g] at h2; exact h2 rfl
    have e2 : q ≠ tb k := by rintro rfl; rw [show c'.ι (tb k) = c.ι (tb k) from rfl, hm.iotab] at h1; cases h1
    exact ⟨e1, hL1o q e1 e2, h1⟩
  refine ⟨c', ⟨fun q => ?_, fun q q' b' h1 h2 h3 h4 => ?_, fun q b' h1 h2 => ?_, fun q b' h1 h2 h3 => ?_, htr, hm.iotab, fun k' => ?_, hm.size, hm.size0, hm.os, hm.tape, hm.output, hm.keep, fun b' hb' => ?_⟩, hgrow, hγk⟩
  · show ObjOk c' L1 w N (c.ι q) (L1 q).2
    by_cases e1 : q = g
    · subst e1; rw [hL1g]; trivial
    · by_cases e2 : q = tb k
      · subst e2; rw [hL1k]; trivial
      · rw [hL1o q e1 e2]; exact (hm.obj q).grow hgrow fun _ _ _ => rfl
  · have h3 : (L1 q).2 ≠ .dead := h3
    have h4 : (L1 q').2 ≠ .dead := h4
    obtain ⟨_, e1, e2⟩ := hnd q b' h1 h3
    obtain ⟨_, e3, e4⟩ := hnd q' b' h2 h4
    rw [e1] at h3; rw [e3] at h4
    exact hm.inj q q' b' e2 e4 h3 h4
  · have h2 : (L1 q).2 ≠ .dead := h2
    obtain ⟨e0, e1, e2⟩ := hnd q b' h1 h2
    rw [e1] at h2
    obtain ⟨a1, a2, a3⟩ := hm.mine q b' e2 h2
    refine ⟨a1, a2, ?_⟩
    rintro (h | rfl)
    · exact a3 h
    · exact e0 (hm.inj q g b' e2 hι h2 hgd)
  · have h2 : (L1 q).2 ≠ .dead := h2
    have h3 : ∀ sz els, (L1 q).2 ≠ .trow sz els := h3
    obtain ⟨e0, e1, e2⟩ := hnd q b' h1 h2
    rw [e1] at h2 h3
    exact hm.mineN q b' e2 h2 h3
  · show (L1 (tb k')).2 = .dead ∨ ∃ wr T, (L1 (tb k')).2 = .tbl wr T
    by_cases e : k' = k
    · subst e; rw [hL1k]; exact .inr ⟨_, _, rfl⟩
    · rw [hL1t k' e]; exact hm.only k'
  · rcases hb' with h | rfl
    · exact hm.osub b' h
    · exact ⟨mb2, mb1.symm⟩

theorem put_again {b : Nat} {x : Array Value} {ty : TypeId} {fz : Nat × Nat} (hb : w.heap[b]? = some (.cells x ty fz)) : put w b (splice x 0 x.toList) ty fz = w := by
  have hx : splice x 0 x.toList = x := by
    apply Array.ext'
    apply List.ext_getElem?
    intro i
    rw [Array.getElem?_toList, splice_at (by simp), Array.getElem?_toList]
    by_cases hi : i < x.size
    · rw [if_pos ⟨Nat.zero_le _, by simpa using hi⟩]; simp
    · rw [if_neg (by simp; omega)]; simp
  rw [hx]
  exact put_same hb

theorem pubL_ok {P : Program} (hm : Mem c N w0 O0 L w) {t k g n : Nat} {d : D} {L2 : Loc} (h : pubL P t k g n L = some (d, L2)) {u : Value} (hv : Val c L w N (.ptr g n 0) u) :
    ∃ c', Mem c' N w0 O0 L2 w ∧ Grow c L w c' L2 w ∧ Val c' L2 w N (.d d) u := by
  unfold pubL at h
  split at h
  rotate_left
  · cases h
  rename_i T hT
  have core : ∀ (V0 : V) (b : Nat) (x : Array Value) (ty : TypeId) (fz : Nat × Nat) (m : Nat), (L.get g n).live = true → c.ι g = some b → w.heap[b]? = some (.cells x ty fz) → Unfrozen w b x.size → x.size = m → (∀ (i : Nat) (u : Value), x[i]? = some u → u.oneCell' = true) →
      Val c L w N V0 (.agg x) → tySize P t = some m → (storeT (appT L k g m T) k T.length 0 m true false V0).map (fun o => (D.h k T.length 0, (appT L k g m T).upd o.wr)) = some (d, L2) →
      ∃ c', Mem c' N w0 O0 L2 w ∧ Grow c L w c' L2 w ∧ Val c' L2 w N (.d d) u := by
    intro V0 b x ty fz m hlv hι hb hf hm' hone hV hsz ho
    subst hm'
    obtain ⟨e1, e2⟩ := get_live rfl hlv
    obtain ⟨c1, m1, g1, hγ⟩ := append_obj hm hT (by rw [e2]; exact hlv) hι hb hf hone
    cases hst : storeT (appT L k g x.size T) k T.length 0 x.size true false V0 with
    | none => rw [hst] at ho; cases ho
    | some o =>
      rw [hst] at ho
      injection ho with ho; injection ho with h1 h2
      subst h1
      have hu : u = .pointer (some ⟨b, 0, none⟩) := by
        cases hv with
        | ptr _ _ _ _ k1 k2 =>
          obtain ⟨b', q1, q2⟩ := k2 (by intro e; rw [e] at hlv; cases hlv)
          rw [hι] at q1; cases q1; exact q2
      subst hu
      have hp : Val c1 (appT L k g x.size T) w N (.d (.h k T.length 0)) (.pointer (some ⟨b, 0, none⟩)) := .d _ _ (.h _ _ _ b hγ)
      obtain ⟨w', r1, c2, r2, r3, _⟩ := storeT_ok m1 (fun _ _ _ => rfl) hsz hst hp (hV.grow g1)
      have r1' := storeAt_run (P := P) (o := 0) (v := .agg x) hsz hb (by simp [Value.cells]) (by omega) hf (by simpa [Value.cells] using hone)
      rw [r1'] at r1
      injection r1 with _ r1
      have hw : put w b (splice x 0 (Value.agg x).cells.toList) ty fz = w := put_again hb
      rw [hw] at r1
      subst r1
      subst h2
      exact ⟨c2, r2, g1.trans r3, hp.grow r3⟩
  split at h
  · rename_i ds hL
    split at h
    rotate_left
    · cases h
    rename_i hsz
    obtain ⟨b, x, ty, fz, p1, p2, p3, p4, p5⟩ := hm.get hL (by simp)
    have hone : ∀ (i : Nat) (u : Value), x[i]? = some u → u.oneCell' = true := fun i u hu => by
      have hi : i < ds.length := by have := lt_of_cell hu; omega
      exact (p5 i _ u (List.getElem?_eq_getElem hi) hu).2
    exact core (.d (.agg ds)) b x ty fz ds.length (by rw [hL]; rfl) p1 p2 p3 p4 hone (.d _ _ (.agg _ _ p4 (fun i d v hd hv => (p5 i d v hd hv).1) hone)) hsz h
  · rename_i ds ks vs hL
    split at h
    rotate_left
    · cases h
    rename_i hsz
    obtain ⟨b, x, ty, fz, p1, p2, p3, p4, p5⟩ := hm.get hL (by simp)
    have hlen : (ovs ks vs (ds.map V.d)).length = ds.length := by rw [ovs_len]; simp
    have hone : ∀ (i : Nat) (u : Value), x[i]? = some u → u.oneCell' = true := fun i u hu => by
      have hi : i < (ovs ks vs (ds.map V.d)).length := by have := lt_of_cell hu; omega
      exact (p5 i _ u (List.getElem?_eq_getElem hi) hu).2
    exact core (.agg ds ks vs) b x ty fz ds.length (by rw [hL]; rfl) p1 p2 p3 p4 hone (.agg _ _ _ _ p4 (fun i v u ha hu => (p5 i v u ha hu).1) hone) hsz h
  · cases h

theorem pubS_ok {γ0 : E0} {P : Program} {t k j : Nat} {s s' : St} {a : Act} (h : pubS P t k j s = some s') (hr : Rel N w0 O0 γ0 s a w) : Rel N w0 O0 γ0 s' a w := by
  obtain ⟨c, hr⟩ := hr
  unfold pubS at h
  split at h
  rotate_left
  · cases h
  rename_i g n hs
  cases hp : pubL P t k g n s.L with
  | none => rw [hp] at h; cases h
  | some y =>
    obtain ⟨d, L2⟩ := y
    rw [hp] at h
    injection h with h; subst h
    have hj : j < a.tmps.toList.length := by rw [hr.slots.1]; exact (List.getElem?_eq_some_iff.1 hs).1
    have hu := List.getElem?_eq_getElem hj
    obtain ⟨c', m, g', v⟩ := pubL_ok hr.mem hp (hr.slots.2 j _ _ hs hu)
    refine ⟨c', m, ⟨by simp [hr.slots.1], fun i v' u' h1 h2 => ?_⟩, hr.defers, fun n i x hx => g'.hγ n i x (hr.hγ n i x hx), fun k hk => ?_, RelC.given' hr.given g', hr.cells⟩
    · dsimp only at h1
      rw [List.getElem?_set] at h1
      by_cases e : j = i
      · subst e
        simp only [if_true] at h1
        split at h1
        · injection h1 with h1; subst h1
          rw [hu] at h2; injection h2 with h2; subst h2
          exact v
        · cases h1
      · rw [if_neg e] at h1
        exact (hr.slots.2 i v' u' h1 h2).grow g'
    · obtain ⟨a1, a2, a3⟩ := hr.stay k hk
      obtain ⟨b1, b2, b3⟩ := g'.stay k a1
      exact ⟨b1, b2.trans a2, b3.trans a3⟩
end
end Wf

/-
  The machine over plain data once more, so that what it comes to can be read off: each test is told by name.
-/
namespace Wf
open Go Go.RowKit

theorem appendTy_le {P : Program} {ty sz n : Nat} (h0 : appendTy P ty 0 = some sz) (h : n ≤ 4294967296) : appendTy P ty n = some sz := by
  unfold appendTy at *
  split at h0
  · split at h0
    · split at h0
      · rename_i hc
        rw [if_pos ⟨hc.1, hc.2.1, hc.2.2.1, hc.2.2.2.1, by simpa using h⟩]
        exact h0
      · cases h0
    · cases h0
  · cases h0
section
variable {R α : Type}

-- what the machine stops at, by name
def brK (b : Bool) (x y : Option R) : Option R := match b with
  | true => x
  | false => y
def br (b : Bool) (f : Bool → Option R) : Option R := brK b (f true) (f false)
def bindK (x : Option α) (f : α → Option R) : Option R := match x with
  | some a => f a
  | none => none
def sif (c : Prop) [Decidable c] (x : Option R) : Option R := if c then x else none
def letN (n : Int) (f : Int → Option R) : Option R := f n
@[simp] theorem letN_eq (n : Int) (f : Int → Option R) : letN n f = f n := rfl
def getK (l : List α) (i : Nat) (f : α → Option R) : Option R := match l[i]? with
  | some d => f d
  | none => none
def jn (g : α → Option R) (f : (α → Option R) → Option R) : Option R := f g
def fixN (B : (α → Option R) → α → Option R) : Nat → α → Option R
  | 0 => fun _ => none
  | n + 1 => B (fixN B n)
/-- So many rounds as are never gone. -/
noncomputable def fuel : Nat := Classical.choose (⟨1099511627776, Nat.le_refl _⟩ : ∃ n : Nat, 1099511627776 ≤ n)
theorem fuel_le : 1099511627776 ≤ fuel := Classical.choose_spec (⟨1099511627776, Nat.le_refl _⟩ : ∃ n : Nat, 1099511627776 ≤ n)
noncomputable def loopN (B : (α → Option R) → α → Option R) (a : α) : Option R := fixN B fuel a
noncomputable def loopS (_ : Nat) (B : (α → Option R) → α → Option R) (a : α) : Option R := loopN B a

/-- A list, told cell by cell. -/
def forceL : List α → (List α → Option R) → Option R
  | [], k => k []
  | a :: l, k => forceL l fun l => k (a :: l)
theorem forceL_eq (l : List α) (k : List α → Option R) : forceL l k = k l := by
  induction l generalizing k with
  | nil => rfl
  | cons a l ih => exact ih _

def asI (k : IntKind) (d : D) (f : Int → Option R) : Option R := match d with
  | .int k' n => if k' = k then f n else none
  | _ => none
def asB (d : D) (f : Bool → Option R) : Option R := match d with
  | .bool b => f b
  | _ => none
def asS (d : D) (f : ByteArray → Option R) : Option R := match d with
  | .str s => f s
  | _ => none
def asSl (d : D) (f : Tag → List D → Option R) : Option R := match d with
  | .sl t l => f t l
  | _ => none
def asOwn (d : D) (f : List D → Option R) : Option R := match d with
  | .sl .own l => f l
  | _ => none
def asLent (d : D) (f : List D → Option R) : Option R := match d with
  | .sl .lent l => f l
  | _ => none
def asAgg (d : D) (f : List D → Option R) : Option R := match d with
  | .agg cs => f cs
  | _ => none
def asOne (l : List D) (f : D → Option R) : Option R := match l with
  | [d] => f d
  | _ => none
def asTup (d : D) (f : List D → Option R) : Option R := match d with
  | .tup cs => f cs
  | _ => none
/-- A function with one captured variable. -/
def asFn1 (g : FuncId) (d : D) (f : D → Option R) : Option R := match d with
  | .fn g' [] [.at_ x] => if g' = g then f x else none
  | _ => none
/-- A slice parameter: lent, or nil. -/
def asLn (d : D) (f : List D → Option R) : Option R := match d with
  | .sl .lent l => f l
  | .sl .nil l => f l
  | _ => none
/-- A pointer to an object of table k. -/
def asH (k : Nat) (d : D) (f : Nat → Option R) : Option R := match d with
  | .h k' i 0 => if k' = k then f i else none
  | _ => none
def asNil (d : D) (f : Bool → Option R) : Option R := match d with
  | .nilp => f true
  | .h _ _ _ => f false
  | .at_ _ => f false
  | _ => none
def asNilm (d : D) (f : Bool → Option R) : Option R := match d with
  | .nilm => f true
  | .mp _ _ _ => f false
  | _ => none
def asOwnM (kk : MK) (d : D) (f : List (Int × D) → Option R) : Option R := match d with
  | .mp .own kk' es => if kk' = kk then f es else none
  | _ => none
def asMap (kk : MK) (d : D) (f : List (Int × D) → Option R) : Option R := match d with
  | .mp .lent kk' es => if kk' = kk then f es else none
  | _ => none
def letT (T : Tb) (f : Tb → Option R) : Option R := f T
def consK (l : List α) (f : α → List α → Option R) : Option R := match l with
  | a :: r => f a r
  | [] => none
def nilK (l : List α) (x : Option R) : Option R := match l with
  | [] => x
  | _ :: _ => none
/-- A list of so many, told. -/
def tellK : Nat → List α → (List α → Option R) → Option R
  | 0, l, k => nilK l (k [])
  | n + 1, l, k => consK l fun a r => tellK n r fun as => k (a :: as)
end

/-- What stands in a cell, or in some cells of one field. -/
inductive Lf where
  | int (k : IntKind) | bool | str | sl | lent | any | arr (n : Nat) | hnd (k : Nat) | map (kk : MK)
  deriving DecidableEq, Inhabited

@[reducible] def Lf.T : Lf → Type
  | .int _ => Int
  | .bool => Bool
  | .str => ByteArray
  | .sl => Tag × List D
  | .lent => List D
  | .any => D
  | .arr _ => List D
  | .hnd _ => Nat
  | .map _ => List (Int × D)
@[reducible] def LfT : List Lf → Type
  | [] => Unit
  | l :: r => l.T × LfT r

def Lf.one : (l : Lf) → l.T → D
  | .int k, n => .int k n
  | .bool, b => .bool b
  | .str, s => .str s
  | .sl, x => .sl x.1 x.2
  | .lent, l => .sl .lent l
  | .any, d => d
  | .arr _, xs => .agg xs
  | .hnd k, i => .h k i 0
  | .map kk, es => .mp .lent kk es
def Lf.mk : (l : Lf) → l.T → List D
  | .int k, n => [.int k n]
  | .bool, b => [.bool b]
  | .str, s => [.str s]
  | .sl, x => [.sl x.1 x.2]
  | .lent, l => [.sl .lent l]
  | .any, d => [d]
  | .arr _, xs => xs
  | .hnd k, i => [.h k i 0]
  | .map kk, es => [.mp .lent kk es]
def mkCells : (ls : List Lf) → LfT ls → List D
  | [], _ => []
  | l :: r, x => l.mk x.1 ++ mkCells r x.2

section
variable {R : Type}
def Lf.getOne : (l : Lf) → D → (l.T → Option R) → Option R
  | .int k, d, f => asI k d f
  | .bool, d, f => asB d f
  | .str, d, f => asS d f
  | .sl, d, f => asSl d fun t l => f (t, l)
  | .lent, d, f => asLent d f
  | .any, d, f => f d
  | .arr n, d, f => asAgg d fun cs => sif (cs.length = n) (f cs)
  | .hnd k, d, f => asH k d f
  | .map kk, d, f => asMap kk d f
def Lf.get (l : Lf) (cs : List D) (f : l.T → List D → Option R) : Option R := match l with
  | .arr n => sif (n ≤ cs.length) (f (cs.take n) (cs.drop n))
  | .int k => match cs with
    | d :: r => asI k d fun x => f x r
    | [] => none
  | .bool => match cs with
    | d :: r => asB d fun x => f x r
    | [] => none
  | .str => match cs with
    | d :: r => asS d fun x => f x r
    | [] => none
  | .sl => match cs with
    | d :: r => asSl d fun t l => f (t, l) r
    | [] => none
  | .lent => match cs with
    | d :: r => asLent d fun l => f l r
    | [] => none
  | .any => match cs with
    | d :: r => f d r
    | [] => none
  | .hnd k => match cs with
    | d :: r => asH k d fun i => f i r
    | [] => none
  | .map kk => match cs with
    | d :: r => asMap kk d fun es => f es r
    | [] => none
def getCells0 : (ls : List Lf) → List D → (LfT ls → Option R) → Option R
  | [], [], f => f ()
  | [], _ :: _, _ => none
  | l :: ls, cs, f => l.get cs fun x r => getCells0 ls r fun y => f (x, y)
def getCells (ls : List Lf) (cs : List D) (f : LfT ls → Option R) : Option R := getCells0 ls cs f
end

inductive Sh where
  | cell (l : Lf) | agg (ls : List Lf) | at1 (l : Lf) | atA (ls : List Lf) | fn1 (f : FuncId) (l : Lf)
  deriving DecidableEq, Inhabited
@[reducible] def Sh.T : Sh → Type
  | .cell l => l.T
  | .agg ls => LfT ls
  | .at1 l => l.T
  | .atA ls => LfT ls
  | .fn1 _ l => l.T
def Sh.mk : (s : Sh) → s.T → D
  | .cell l, x => l.one x
  | .agg ls, x => .agg (mkCells ls x)
  | .at1 l, x => .at_ (l.one x)
  | .atA ls, x => .at_ (.agg (mkCells ls x))
  | .fn1 f l, x => .fn f [] [.at_ (l.one x)]
def asAt {R : Type} (d : D) (f : D → Option R) : Option R := match d with
  | .at_ x => f x
  | _ => none
def Sh.get {R : Type} : (s : Sh) → D → (s.T → Option R) → Option R
  | .cell l, d, f => l.getOne d f
  | .agg ls, d, f => asAgg d fun cs => getCells ls cs f
  | .at1 l, d, f => asAt d fun d => l.getOne d f
  | .atA ls, d, f => asAt d fun d => asAgg d fun cs => getCells ls cs f
  | .fn1 g l, d, f => asFn1 g d fun d => l.getOne d f

/-- The leaves of a type. -/
def tyLf (P : Program) : Nat → TypeId → Option (List Lf)
  | 0, _ => none
  | d + 1, t => match P.underlying t with
    | some (.int k) => some [.int k]
    | some .bool => some [.bool]
    | some .string => some [.str]
    | some (.slice _) => some [.sl]
    | some (.struct fs) => (fs.toList.mapM fun f => tyLf P d f.type).map List.flatten
    | some (.array n e) => (tySize P e).map fun sz => [.arr (n * sz)]
    | some _ => some [.any]
    | none => none
def tySh (P : Program) (t : TypeId) : Option Sh :=
  match P.underlying t with
  | some (.struct _) => (tyLf P 8 t).map .agg
  | _ => match tyLf P 8 t with
    | some [l] => some (.cell l)
    | _ => none

section
variable {R : Type}
def decT (P : Program) (t : TypeId) (d : D) (f : D → Option R) : Option R :=
  match tySh P t with
  | some sh => sh.get d fun x => f (sh.mk x)
  | none => none
/-- Parameters: slices are lent, pointers to structs are objects of tables. x: given for good; hs: what else is known. -/
def decP (P : Program) (own : Bool) (hint : Option Sh) (t : TypeId) (d : D) (f : D → Option R) : Option R :=
  if own then asOwn d fun l => f (.sl .own l)
  else match hint with
  | some sh => sh.get d fun x => f (sh.mk x)
  | none => match clsOf P t with
    | some k => asH k d fun i => f (.h k i 0)
    | none => match tyMap P t with
    | some (kk, _) => asMap kk d fun es => f (.mp .lent kk es)
    | none => match tySh P t with
      | some (.cell .sl) => asLent d fun l => f (.sl .lent l)
      | some sh => sh.get d fun x => f (sh.mk x)
      | none => none
abbrev Hints := List (Nat × Sh)
def Hints.at : Hints → Nat → Option Sh
  | [], _ => none
  | (i, s) :: r, j => if i = j then some s else Hints.at r j
def decPs (P : Program) (pms : List (PM × Nat)) (hs : Hints) : Nat → List TypeId → List D → (List D → Option R) → Option R
  | _, [], [], f => f []
  | i, [], d :: ds, f => match hs.at i with
    | some sh => sh.get d fun x => decPs P pms hs (i + 1) [] ds fun xs => f (sh.mk x :: xs)
    | none => none
  | i, t :: ts, d :: ds, f => decP P (decide ((pmAt pms i).1 ≠ .lent)) (hs.at i) t d fun x => decPs P pms hs (i + 1) ts ds fun xs => f (x :: xs)
  | _, _, _, _ => none

theorem sif_some {c : Prop} [Decidable c] {x : Option R} {r : R} (h : sif c x = some r) : c ∧ x = some r := by
  unfold sif at h
  split at h
  · exact ⟨by assumption, h⟩
  · cases h
theorem sif2_some {A B : Prop} [Decidable A] [Decidable B] {x : Option R} {r : R} (h : sif A (sif B (x)) = some r) : (A ∧ B) ∧ x = some r := by
  obtain ⟨a, h⟩ := sif_some h
  obtain ⟨b, h⟩ := sif_some h
  exact ⟨⟨a, b⟩, h⟩
theorem sif3_some {A B C : Prop} [Decidable A] [Decidable B] [Decidable C] {x : Option R} {r : R} (h : sif A (sif B (sif C (x))) = some r) : (A ∧ B ∧ C) ∧ x = some r := by
  obtain ⟨a, h⟩ := sif_some h
  obtain ⟨b, h⟩ := sif2_some h
  exact ⟨⟨a, b⟩, h⟩
theorem sif4_some {A B C D' : Prop} [Decidable A] [Decidable B] [Decidable C] [Decidable D'] {x : Option R} {r : R} (h : sif A (sif B (sif C (sif D' (x)))) = some r) : (A ∧ B ∧ C ∧ D') ∧ x = some r := by
  obtain ⟨a, h⟩ := sif_some h
  obtain ⟨b, h⟩ := sif3_some h
  exact ⟨⟨a, b⟩, h⟩
theorem sif5_some {A B C D' E : Prop} [Decidable A] [Decidable B] [Decidable C] [Decidable D'] [Decidable E] {x : Option R} {r : R} (h : sif A (sif B (sif C (sif D' (sif E (x))))) = some r) : (A ∧ B ∧ C ∧ D' ∧ E) ∧ x = some r := by
  obtain ⟨a, h⟩ := sif_some h
  obtain ⟨b, h⟩ := sif4_some h
  exact ⟨⟨a, b⟩, h⟩
theorem sif6_some {A B C D' E F : Prop} [Decidable A] [Decidable B] [Decidable C] [Decidable D'] [Decidable E] [Decidable F] {x : Option R} {r : R} (h : sif A (sif B (sif C (sif D' (sif E (sif F (x)))))) = some r) : (A ∧ B ∧ C ∧ D' ∧ E ∧ F) ∧ x = some r := by
  obtain ⟨a, h⟩ := sif_some h
  obtain ⟨b, h⟩ := sif5_some h
  exact ⟨⟨a, b⟩, h⟩
theorem sif7_some {A B C D' E F G : Prop} [Decidable A] [Decidable B] [Decidable C] [Decidable D'] [Decidable E] [Decidable F] [Decidable G] {x : Option R} {r : R} (h : sif A (sif B (sif C (sif D' (sif E (sif F (sif G (x))))))) = some r) : (A ∧ B ∧ C ∧ D' ∧ E ∧ F ∧ G) ∧ x = some r := by
  obtain ⟨a, h⟩ := sif_some h
  obtain ⟨b, h⟩ := sif6_some h
  exact ⟨⟨a, b⟩, h⟩
theorem br_some {b : Bool} {f : Bool → Option R} {r : R} (h : br b f = some r) : f b = some r := by
  cases b <;> exact h
theorem bindK_some {α : Type} {x : Option α} {f : α → Option R} {r : R} (h : bindK x f = some r) : ∃ a, x = some a ∧ f a = some r := by
  cases x with
  | none => cases h
  | some a => exact ⟨a, rfl, h⟩
theorem getK_some {α : Type} {l : List α} {i : Nat} {f : α → Option R} {r : R} (h : getK l i f = some r) : ∃ d, l[i]? = some d ∧ f d = some r := by
  unfold getK at h
  split at h
  · exact ⟨_, by assumption, h⟩
  · cases h
theorem asI_some {k : IntKind} {d : D} {f : Int → Option R} {r : R} (h : asI k d f = some r) : ∃ n, d = .int k n ∧ f n = some r := by
  unfold asI at h
  split at h
  · split at h
    · rename_i e; subst e; exact ⟨_, rfl, h⟩
    · cases h
  · cases h
theorem asB_some {d : D} {f : Bool → Option R} {r : R} (h : asB d f = some r) : ∃ n, d = .bool n ∧ f n = some r := by
  unfold asB at h
  split at h
  · exact ⟨_, rfl, h⟩
  · cases h
theorem asS_some {d : D} {f : ByteArray → Option R} {r : R} (h : asS d f = some r) : ∃ n, d = .str n ∧ f n = some r := by
  unfold asS at h
  split at h
  · exact ⟨_, rfl, h⟩
  · cases h
theorem asFn1_some {g : FuncId} {d : D} {f : D → Option R} {r : R} (h : asFn1 g d f = some r) : ∃ x, d = .fn g [] [.at_ x] ∧ f x = some r := by
  unfold asFn1 at h
  split at h
  · split at h
    · rename_i e; subst e; exact ⟨_, rfl, h⟩
    · cases h
  · cases h
theorem asSl_some {d : D} {f : Tag → List D → Option R} {r : R} (h : asSl d f = some r) : ∃ t l, d = .sl t l ∧ f t l = some r := by
  unfold asSl at h
  split at h
  · exact ⟨_, _, rfl, h⟩
  · cases h
theorem asOwn_some {d : D} {f : List D → Option R} {r : R} (h : asOwn d f = some r) : ∃ l, d = .sl .own l ∧ f l = some r := by
  unfold asOwn at h
  split at h
  · exact ⟨_, rfl, h⟩
  · cases h
theorem asLent_some {d : D} {f : List D → Option R} {r : R} (h : asLent d f = some r) : ∃ l, d = .sl .lent l ∧ f l = some r := by
  unfold asLent at h
  split at h
  · exact ⟨_, rfl, h⟩
  · cases h
theorem asAgg_some {d : D} {f : List D → Option R} {r : R} (h : asAgg d f = some r) : ∃ l, d = .agg l ∧ f l = some r := by
  unfold asAgg at h
  split at h
  · exact ⟨_, rfl, h⟩
  · cases h
theorem asAt_some {d : D} {f : D → Option R} {r : R} (h : asAt d f = some r) : ∃ l, d = .at_ l ∧ f l = some r := by
  unfold asAt at h
  split at h
  · exact ⟨_, rfl, h⟩
  · cases h
theorem asLn_some {d : D} {f : List D → Option R} {r : R} (h : asLn d f = some r) : ∃ l, (d = .sl .lent l ∨ d = .sl .nil l) ∧ f l = some r := by
  unfold asLn at h
  split at h
  · exact ⟨_, .inl rfl, h⟩
  · exact ⟨_, .inr rfl, h⟩
  · cases h
theorem asH_some {k : Nat} {d : D} {f : Nat → Option R} {r : R} (h : asH k d f = some r) : ∃ i, d = .h k i 0 ∧ f i = some r := by
  unfold asH at h
  split at h
  · split at h
    · rename_i e; subst e; exact ⟨_, rfl, h⟩
    · cases h
  · cases h
theorem asNil_some {d : D} {f : Bool → Option R} {r : R} (h : asNil d f = some r) : (d = .nilp ∧ f true = some r) ∨ (((∃ k i o, d = .h k i o) ∨ ∃ x, d = .at_ x) ∧ f false = some r) := by
  unfold asNil at h
  split at h
  · exact .inl ⟨rfl, h⟩
  · exact .inr ⟨.inl ⟨_, _, _, rfl⟩, h⟩
  · exact .inr ⟨.inr ⟨_, rfl⟩, h⟩
  · cases h
theorem asNilm_some {d : D} {f : Bool → Option R} {r : R} (h : asNilm d f = some r) : (d = .nilm ∧ f true = some r) ∨ ((∃ t k es, d = .mp t k es) ∧ f false = some r) := by
  unfold asNilm at h
  split at h
  · exact .inl ⟨rfl, h⟩
  · exact .inr ⟨⟨_, _, _, rfl⟩, h⟩
  · cases h
theorem asOwnM_some {kk : MK} {d : D} {f : List (Int × D) → Option R} {r : R} (h : asOwnM kk d f = some r) : ∃ es, d = .mp .own kk es ∧ f es = some r := by
  unfold asOwnM at h
  split at h
  · split at h
    · rename_i e; subst e; exact ⟨_, rfl, h⟩
    · cases h
  · cases h
theorem asMap_some {kk : MK} {d : D} {f : List (Int × D) → Option R} {r : R} (h : asMap kk d f = some r) : ∃ es, d = .mp .lent kk es ∧ f es = some r := by
  unfold asMap at h
  split at h
  · split at h
    · rename_i e; subst e; exact ⟨_, rfl, h⟩
    · cases h
  · cases h
theorem consK_some {α : Type} {l : List α} {f : α → List α → Option R} {r : R} (h : consK l f = some r) : ∃ a l', l = a :: l' ∧ f a l' = some r := by
  unfold consK at h
  split at h
  · exact ⟨_, _, rfl, h⟩
  · cases h
theorem nilK_some {α : Type} {l : List α} {x : Option R} {r : R} (h : nilK l x = some r) : l = [] ∧ x = some r := by
  unfold nilK at h
  split at h
  · exact ⟨rfl, h⟩
  · cases h
theorem tellK_some {α : Type} {r : R} : ∀ {n : Nat} {l : List α} {k : List α → Option R}, tellK n l k = some r → l.length = n ∧ k l = some r
  | 0, l, k, h => by
    obtain ⟨e, h⟩ := nilK_some h
    subst e; exact ⟨rfl, h⟩
  | n + 1, l, k, h => by
    obtain ⟨a, l', e, h⟩ := consK_some h
    subst e
    obtain ⟨e, h⟩ := tellK_some (k := fun as => k (a :: as)) h
    exact ⟨by simp [e], h⟩
theorem letT_some {T : Tb} {f : Tb → Option R} {r : R} (h : letT T f = some r) : f T = some r := h
theorem asTup_some {d : D} {f : List D → Option R} {r : R} (h : asTup d f = some r) : ∃ l, d = .tup l ∧ f l = some r := by
  unfold asTup at h
  split at h
  · exact ⟨_, rfl, h⟩
  · cases h
theorem asOne_some {l : List D} {f : D → Option R} {r : R} (h : asOne l f = some r) : ∃ d, l = [d] ∧ f d = some r := by
  unfold asOne at h
  split at h
  · exact ⟨_, rfl, h⟩
  · cases h
theorem Lf.getOne_some {l : Lf} {d : D} {f : l.T → Option R} {r : R} (h : l.getOne d f = some r) : ∃ x, d = l.one x ∧ f x = some r := by
  cases l with
  | int k => exact asI_some h
  | bool => exact asB_some h
  | str => exact asS_some h
  | sl => obtain ⟨t, l, e, h⟩ := asSl_some h; exact ⟨(t, l), e, h⟩
  | lent => exact asLent_some h
  | any => exact ⟨d, rfl, h⟩
  | arr n =>
    obtain ⟨cs, e, h⟩ := asAgg_some h
    exact ⟨cs, e, (sif_some h).2⟩
  | hnd k => exact asH_some h
  | map kk => exact asMap_some h
theorem Lf.get_some {l : Lf} {cs : List D} {f : l.T → List D → Option R} {r : R} (h : l.get cs f = some r) : ∃ x rest, cs = l.mk x ++ rest ∧ f x rest = some r := by
  cases l with
  | arr n =>
    obtain ⟨_, h⟩ := sif_some h
    exact ⟨_, _, (List.take_append_drop n cs).symm, h⟩
  | int k =>
    cases cs with
    | nil => cases h
    | cons d cs => obtain ⟨n, e, h2⟩ := asI_some (f := fun x => f x cs) h; subst e; exact ⟨n, cs, rfl, h2⟩
  | bool =>
    cases cs with
    | nil => cases h
    | cons d cs => obtain ⟨n, e, h⟩ := asB_some h; subst e; exact ⟨n, cs, rfl, h⟩
  | str =>
    cases cs with
    | nil => cases h
    | cons d cs => obtain ⟨n, e, h⟩ := asS_some h; subst e; exact ⟨n, cs, rfl, h⟩
  | sl =>
    cases cs with
    | nil => cases h
    | cons d cs => obtain ⟨t, l, e, h⟩ := asSl_some h; subst e; exact ⟨(t, l), cs, rfl, h⟩
  | lent =>
    cases cs with
    | nil => cases h
    | cons d cs => obtain ⟨l, e, h⟩ := asLent_some h; subst e; exact ⟨l, cs, rfl, h⟩
  | any =>
    cases cs with
    | nil => cases h
    | cons d cs => exact ⟨d, cs, rfl, h⟩
  | hnd k =>
    cases cs with
    | nil => cases h
    | cons d cs => obtain ⟨i, e, h2⟩ := asH_some (f := fun x => f x cs) h; subst e; exact ⟨i, cs, rfl, h2⟩
  | map kk =>
    cases cs with
    | nil => cases h
    | cons d cs => obtain ⟨l, e, h2⟩ := asMap_some (f := fun x => f x cs) h; subst e; exact ⟨l, cs, rfl, h2⟩
theorem getCells0_some : ∀ {ls : List Lf} {cs : List D} {f : LfT ls → Option R} {r : R}, getCells0 ls cs f = some r → ∃ x, cs = mkCells ls x ∧ f x = some r
  | [], [], f, r, h => ⟨(), rfl, h⟩
  | [], _ :: _, f, r, h => by cases h
  | l :: ls, cs, f, r, h => by
    obtain ⟨x, rest, e, h⟩ := Lf.get_some h
    obtain ⟨y, e2, h⟩ := getCells0_some h
    exact ⟨(x, y), by rw [e, e2]; rfl, h⟩
theorem getCells_some {ls : List Lf} {cs : List D} {f : LfT ls → Option R} {r : R} (h : getCells ls cs f = some r) : ∃ x, cs = mkCells ls x ∧ f x = some r := getCells0_some h
theorem Sh.get_some {s : Sh} {d : D} {f : s.T → Option R} {r : R} (h : s.get d f = some r) : ∃ x, d = s.mk x ∧ f x = some r := by
  cases s with
  | cell l => exact Lf.getOne_some h
  | agg ls =>
    obtain ⟨cs, e, h⟩ := asAgg_some h
    obtain ⟨x, e2, h⟩ := getCells_some h
    exact ⟨x, by rw [e, e2]; rfl, h⟩
  | at1 l =>
    obtain ⟨y, e, h⟩ := asAt_some h
    obtain ⟨x, e2, h⟩ := Lf.getOne_some h
    exact ⟨x, by rw [e, e2]; rfl, h⟩
  | atA ls =>
    obtain ⟨y, e, h⟩ := asAt_some h
    obtain ⟨cs, e1, h⟩ := asAgg_some h
    obtain ⟨x, e2, h⟩ := getCells_some h
    exact ⟨x, by rw [e, e1, e2]; rfl, h⟩
  | fn1 g l =>
    obtain ⟨y, e, h⟩ := asFn1_some h
    obtain ⟨x, e2, h⟩ := Lf.getOne_some h
    exact ⟨x, by rw [e, e2]; rfl, h⟩
theorem decT_some {P : Program} {t : TypeId} {d : D} {f : D → Option R} {r : R} (h : decT P t d f = some r) : f d = some r := by
  unfold decT at h
  split at h
  · obtain ⟨x, e, h⟩ := Sh.get_some h
    rw [e]; exact h
  · cases h
theorem decP_some {P : Program} {own : Bool} {hint : Option Sh} {t : TypeId} {d : D} {f : D → Option R} {r : R} (h : decP P own hint t d f = some r) : f d = some r := by
  unfold decP at h
  split at h
  · obtain ⟨l, e, h⟩ := asOwn_some h
    rw [e]; exact h
  split at h
  · obtain ⟨x, e, h⟩ := Sh.get_some h
    rw [e]; exact h
  split at h
  · obtain ⟨i, e, h⟩ := asH_some h
    rw [e]; exact h
  split at h
  · obtain ⟨es, e, h⟩ := asMap_some h
    rw [e]; exact h
  split at h
  · obtain ⟨l, e, h⟩ := asLent_some h
    rw [e]; exact h
  · obtain ⟨x, e, h⟩ := Sh.get_some h
    rw [e]; exact h
  · cases h
theorem decPs_some {P : Program} {pms : List (PM × Nat)} {hs : Hints} : ∀ {i : Nat} {ts : List TypeId} {ds : List D} {f : List D → Option R} {r : R}, decPs P pms hs i ts ds f = some r → f ds = some r
  | i, [], [], f, r, h => h
  | i, [], d :: ds, f, r, h => by
    unfold decPs at h
    split at h
    · rename_i sh e
      obtain ⟨x, e, h'⟩ := Sh.get_some h
      rw [e]
      exact decPs_some (f := fun xs => f (sh.mk x :: xs)) h'
    · cases h
  | _, _ :: _, [], f, r, h => by cases h
  | i, t :: ts, d :: ds, f, r, h => decPs_some (f := fun xs => f (d :: xs)) (decP_some (f := fun x => decPs P pms hs (i + 1) ts ds fun xs => f (x :: xs)) h)
end
end Wf

/-
  One operation, so that what it comes to can be read off.
-/
namespace Wf
open Go Go.RowKit

/-- A piece of a row. -/
def cut {α : Type} (off len : Nat) (els : List α) : List α := if off = 0 then (if len = els.length then els else els.take len) else (els.drop off).take len
def cutI {α : Type} (lo hi : Int) (l : List α) : List α := (l.drop lo.toNat).take (hi - lo).toNat
theorem cut_eq {α : Type} (off len : Nat) (els : List α) : cut off len els = (els.drop off).take len := by
  unfold cut
  split
  · rename_i h; subst h
    split
    · rename_i h; subst h; simp
    · simp
  · rfl
def rowOk (sz : Nat) (l : List D) : Bool := l.all fun d => (d.cell || d.isAgg) && decide (d.width = sz)
/-- Some cells set. -/
def spl (off n : Nat) (ds xs : List D) : List D := if off = 0 ∧ n = ds.length then xs else ds.take off ++ xs ++ ds.drop (off + n)
theorem spl_eq {off n : Nat} {ds xs : List D} (h : xs.length = n) : spl off n ds xs = ds.take off ++ xs ++ ds.drop (off + n) := by
  unfold spl
  split
  · rename_i e; obtain ⟨rfl, rfl⟩ := e; simp
  · rfl
def lookD (n : Int) (z : D) (es : List (Int × D)) : D := (findD n es).getD z
def hasD (n : Int) (es : List (Int × D)) : Bool := (findD n es).isSome
def okElsW (sz : Nat) (l : List D) : Bool := l.all fun d => d.width == sz
def flats (l : List D) : Bool := l.all D.flat
def flatEls (l : List D) : Bool := l.all D.flatEl
def cells (l : List D) : Bool := l.all D.cell
def allByte (l : List D) : Bool := l.all isByte
def allE (es : List (Int × D)) : Bool := es.all fun p => p.2.flatEl

/-- Data that a call may hand over as it is. -/
def okData : D → Bool
  | .tup _ => false
  | .sl .own _ => false
  | _ => true
section
variable {R : Type}

def dfl (out : Option Out) (k : Out → Option R) : Option R := match out with
  | some out => k out
  | none => none
def dflV (v : Option V) (k : V → Option R) : Option R := match v with
  | some v => k v
  | none => none

def partK (ag : Bool) (size off : Nat) (cs : List D) (k : D → Option R) : Option R :=
  if ag then sif (off + size ≤ cs.length) (k (.agg ((cs.drop off).take size))) else getK cs off k

/-- A row that a view looks into. -/
def rowK (L : Loc) (q n i o : Nat) (k : List D → Option R) : Option R := match tabAt L q n with
  | some T => getK T i fun cs => getK cs o fun x => asOwn x k
  | none => none
def mapRowK (L : Loc) (kk : MK) (q n i o : Nat) (k : List (Int × D) → Option R) : Option R := match tabAt L q n with
  | some T => getK T i fun cs => getK cs o fun x => asOwnM kk x k
  | none => none

def elsK (L : Loc) (v : V) (k : List D → Option R) : Option R := match v with
  | .d (.sl _ l) => k l
  | .ref g n off len => match L.get g n with
    | .arr _ els _ => sif (off + len ≤ els.length) (k (cut off len els))
    | _ => none
  | .bref g n off len => match L.get g n with
    | .box _ ds => sif (off + len ≤ ds.length) (k (cut off len ds))
    | _ => none
  | .vref q n i o lo len => rowK L q n i o fun l => sif (lo + len ≤ l.length) (k (cut lo len l))
  | _ => none
def lenK (L : Loc) (v : V) (k : Nat → Option R) : Option R := match v with
  | .d (.sl _ l) => k l.length
  | .ref g n off len => match L.get g n with
    | .arr _ els _ => sif (off + len ≤ els.length) (k len)
    | _ => none
  | .bref g n off len => match L.get g n with
    | .box _ ds => sif (off + len ≤ ds.length) (k len)
    | _ => none
  | .vref q n i o lo len => rowK L q n i o fun l => sif (lo + len ≤ l.length) (k len)
  | _ => none
def esK (L : Loc) (kk : MK) (v : V) (k : List (Int × D) → Option R) : Option R := match v with
  | .d (.mp _ kk' es) => if kk' = kk then k es else none
  | .map g n => match L.get g n with
    | .map kk' es => if kk' = kk then k es else none
    | _ => none
  | .vmap q n i o => mapRowK L kk q n i o k
  | _ => none

-- tests of what is there
def okRefK (L : Loc) (v : V) (x : Option R) : Option R := match v with
  | .ref g n off len => match L.get g n with
    | .arr _ els _ => sif (off + len ≤ els.length) x
    | .trow _ _ => x
    | _ => none
  | .bref g n off len => lenK L (.bref g n off len) fun _ => x
  | .vref q n i o lo len => lenK L (.vref q n i o lo len) fun _ => x
  | .vmap q n i o => match tabAt L q n with
    | some T => getK T i fun cs => getK cs o fun d => sif ((match d with | .mp .own _ _ => true | _ => false) = true) x
    | none => none
  | v => if okRef L v = true then x else none
def okRefsK (L : Loc) : List V → Option R → Option R
  | [], x => x
  | v :: r, x => okRefK L v (okRefsK L r x)
def okPtrK (L : Loc) (v : V) (x : Option R) : Option R := match v with
  | .ept g n i _ => match L.get g n with
    | .arr _ els _ => sif (i < els.length) x
    | _ => none
  | .vept q n i o j _ => rowK L q n i o fun els => sif (j < els.length) x
  | v => if okPtr L v = true then x else none

-- data for good
def toD1K (L : Loc) (v : V) (k : D → Wr → Option R) : Option R := match v with
  | .d x => k x []
  | .p _ x => k x []
  | .ref g n off len => match L.get g n with
    | .arr sz els _ => if g < 90000 then sif (off + len ≤ els.length) (k (.sl .fresh (cut off len els)) [(g, (n, .arr sz els false))]) else none
    | _ => none
  | _ => none
def toD1sK (L : Loc) : List V → (List D → Wr → Option R) → Option R
  | [], k => k [] []
  | v :: r, k => toD1K L v fun x w => toD1sK L r fun xs ws => k (x :: xs) (w ++ ws)
def toD2K (L : Loc) (v : V) (k : D → Wr → Option R) : Option R := match v with
  | .ptr g n off => match off, L.get g n with
    | 0, .box true ds => k (.at_ (.agg ds)) [(g, (n, .fbox true ds))]
    | 0, .box false [x] => k (.at_ x) [(g, (n, .fbox false [x]))]
    | 0, .fbox true ds => k (.at_ (.agg ds)) []
    | 0, .fbox false [x] => k (.at_ x) []
    | 0, .vbox false [_] [0] [v] => toD1K L v fun x w => k (.at_ x) (w ++ [(g, (n, .fbox false [x]))])
    | _, _ => none
  | v => toD1K L v k
def toD2sK (L : Loc) : List V → (List D → Wr → Option R) → Option R
  | [], k => k [] []
  | v :: r, k => toD2K L v fun x w => toD2sK L r fun xs ws => k (x :: xs) (w ++ ws)
def toDK (L : Loc) (v : V) (k : D → Wr → Option R) : Option R := match v with
  | .agg ds ks vs => sif (okOv ds.length ks vs = true) (toD1sK L vs fun xs w => k (.agg (setL ds ks xs)) w)
  | .clo f a b => toD2sK L a fun xs w => toD2sK L b fun ys w' => k (.fn f xs ys) (w ++ w')
  | v => toD1K L v k
def toDsK (L : Loc) : List V → (List D → Wr → Option R) → Option R
  | [], k => k [] []
  | v :: r, k => toDK L v fun x w => toDsK L r fun xs ws => k (x :: xs) (w ++ ws)

-- what comes into a table's cell
def cellD1K (z : Nat) (L : Loc) (v : V) (k : D → Wr → Option R) : Option R := match v with
  | .d (.sl .nil []) => k (.sl .own []) []
  | .d (.sl .full []) => k (.sl .own []) []
  | .d x => sif (x.flat = true) (k x [])
  | .p _ x => sif (x.flat = true) (k x [])
  | .ref g n off len => match off, L.get g n with
    | 0, .arr sz els true => if sz = z then sif (len = els.length) (sif (flatEls els = true) (sif (okElsW sz els = true) (k (.sl .own els) [(g, (n, .dead))]))) else none
    | 0, .trow sz els => if sz = z then sif (len = els.length) (sif (flatEls els = true) (sif (okElsW sz els = true) (k (.sl .own els) [(g, (n, .dead))]))) else none
    | _, _ => none
  | .map g n => match L.get g n with
    | .map kk es => sif (allE es = true) (k (.mp .own kk es) [(g, (n, .dead))])
    | _ => none
  | _ => none
def cellD1sK (L : Loc) : List Nat → List V → (List D → Wr → Option R) → Option R
  | z :: zs, v :: r, k => cellD1K z L v fun x w => cellD1sK L zs r fun xs ws => k (x :: xs) (w ++ ws)
  | [], [], k => k [] []
  | _, _, _ => none

-- arguments
def lend1K (nw : List Nat) (L : Loc) (v : V) (k : D → Option R) : Option R := match v with
  | .d x => k x
  | .p _ x => k x
  | .ref g n off len => elsK L (.ref g n off len) fun l => k (.sl .lent l)
  | .bref g n off len => elsK L (.bref g n off len) fun l => k (.sl .lent l)
  | .vref q n i o lo len => if q ∈ nw then none else elsK L (.vref q n i o lo len) fun l => k (.sl .lent l)
  | .map g n => match L.get g n with
    | .map kk es => k (.mp .lent kk es)
    | _ => none
  | _ => none
def lend1sK (nw : List Nat) (L : Loc) : List V → (List D → Option R) → Option R
  | [], k => k []
  | v :: r, k => lend1K nw L v fun x => lend1sK nw L r fun xs => k (x :: xs)
def lend2K (nw : List Nat) (L : Loc) (v : V) (k : D → Option R) : Option R := match v with
  | .ptr g n off => match off, L.get g n with
    | 0, .box true ds => k (.at_ (.agg ds))
    | 0, .fbox true ds => k (.at_ (.agg ds))
    | 0, .box false [x] => k (.at_ x)
    | 0, .fbox false [x] => k (.at_ x)
    | 0, .vbox false [_] [0] [v] => lend1K nw L v fun d => k (.at_ d)
    | _, _ => none
  | v => lend1K nw L v k
def lendsK2 (nw : List Nat) (L : Loc) : List V → (List D → Option R) → Option R
  | [], k => k []
  | v :: r, k => lend2K nw L v fun x => lendsK2 nw L r fun xs => k (x :: xs)
def lendK (nw : List Nat) (L : Loc) (v : V) (k : D → Option R) : Option R := match v with
  | .clo f a b => lendsK2 nw L a fun a' => lendsK2 nw L b fun b' => k (.fn f a' b')
  | .agg ds ks vs => sif (okOv ds.length ks vs = true) (lend1sK nw L vs fun xs => k (.agg (setL ds ks xs)))
  | v => lend2K nw L v k
def lendsK (nw : List Nat) (L : Loc) : List V → (List D → Option R) → Option R
  | [], k => k []
  | v :: r, k => lendK nw L v fun x => lendsK nw L r fun xs => k (x :: xs)

-- loads and stores
def kindOf (P : Program) (t : TypeId) : Nat := match P.underlying t with
  | some (.slice _) => 1
  | some (.map _ _) => 2
  | _ => 0
def loadTK (P : Program) (L : Loc) (t : TypeId) (q i off n : Nat) (ag fl : Bool) (k : V → Option R) : Option R :=
  match tabOf L q with
  | some (_, T) => getK T i fun cs =>
    if ag then sif (off + n ≤ cs.length) (if fl then sif (flats ((cs.drop off).take n) = true) (decT P t (.agg ((cs.drop off).take n)) fun d => k (.d d)) else k (.d (.agg (((cs.drop off).take n).map D.hide))))
    else getK cs off fun x => match kindOf P t with
      | 1 => asOwn x fun l => k (.vref q (L (tb q)).1 i off 0 l.length)
      | 2 => match tyMap P t with
        | some (kk, _) => asOwnM kk x fun _ => k (.vmap q (L (tb q)).1 i off)
        | none => none
      | _ => decT P t x fun d => sif (d.flat = true) (k (.d d))
  | none => none
def vbPartK (P : Program) (t : TypeId) (ag : Bool) (n off : Nat) (ds : List D) (ks : List Nat) (vs : List V) (k : V → Option R) : Option R :=
  if ag then sif (off + n ≤ ds.length) (k (V.mk ((ds.drop off).take n) (ovIn off n ks vs)))
  else sif (off < ds.length) (match ovGet ks vs off with
    | some v => k v
    | none => getK ds off fun d => decT P t d fun d => k (.d d))
/-- An element, or a part of it. -/
def eltK (P : Program) (t : TypeId) (ag : Bool) (sz n off : Nat) (x : D) (k : V → Option R) : Option R :=
  if off = 0 ∧ sz = n then decT P t x fun d => sif (d.isAgg = ag) (sif (d.width = n) (sif (d.cell = !ag) (k (.d d))))
  else asAgg x fun cs => partK ag n off cs fun x => decT P t x fun d => k (.d d)
def loadK (P : Program) (L : Loc) (t : TypeId) (p : V) (k : V → Option R) : Option R :=
  match tyAgg P t, tySize P t with
  | some ag, some n =>
    match p with
    | .d (.at_ x) => decT P t x fun d => sif (d.isAgg = ag) (sif (d.width = n) (sif (d.cell = !ag) (k (.d d))))
    | .d (.h q i off) => loadTK P L t q i off n ag (tyFlat P 8 t) k
    | .ptr g l off => match L.get g l with
      | .box _ ds => partK ag n off ds fun x => decT P t x fun d => k (.d d)
      | .fbox _ ds => partK ag n off ds fun x => decT P t x fun d => k (.d d)
      | .vbox _ ds ks vs => vbPartK P t ag n off ds ks vs k
      | _ => none
    | .ept g l i off => match L.get g l with
      | .arr sz els _ => getK els i fun x => eltK P t ag sz n off x k
      | _ => none
    | .vept q l i o j off => rowK L q l i o fun els => getK els j fun x => eltK P t ag (rowSz q o) n off x k
    | _ => none
  | _, _ => none

/-- An element, with a part of it set. -/
def eltSetK (ag : Bool) (n sz off : Nat) (e v : D) (k : D → Option R) : Option R := match v with
  | .agg xs => sif (ag = true) (sif (xs.length = n) (sif (off = 0) (sif (n = sz) (k (.agg xs)))))
  | x => sif (ag = false) (sif (n = 1) (sif (x.cell = true) (if sz = 1 then sif (e.isAgg = false) (sif (off = 0) (k x)) else asAgg e fun cs => sif (off < cs.length) (k (.agg (cs.set off x))))))
def storeTK (P : Program) (L : Loc) (q i off n : Nat) (ag fl : Bool) (v : V) (k : Out → Option R) : Option R :=
  match tabOf L q with
  | some (true, T) => getK T i fun cs => sif (off + n ≤ cs.length)
    (if fl then (match v with
      | .d (.agg xs) => sif (ag = true) (sif (xs.length = n) (sif (flats xs = true) (sif (flats ((cs.drop off).take n) = true) (letT (setCells T i off xs) fun T' =>
          k { v := .d (.tup []), wr := [(tb q, ((L (tb q)).1, .tbl true T'))] }))))
      | .d x => sif (ag = false) (sif (n = 1) (sif (x.flat = true) (sif (flats ((cs.drop off).take n) = true) (letT (setCells T i off [x]) fun T' =>
          k { v := .d (.tup []), wr := [(tb q, ((L (tb q)).1, .tbl true T'))] }))))
      | _ => none)
    else if ag then (match v with
      | .d (.agg ds) => sif (ds.length = n) (sif (ds.all D.own0ok = true) (letT (setCells T i off (ds.map D.own0)) fun T' => k { v := .d (.tup []), wr := [(tb q, (L.new (tb q), .tbl true T'))] }))
      | .agg ds ks vs => cellD1sK L (ks.map fun z => rowSz q (off + z)) vs fun xs w => sif (ds.length = n) (sif (ds.all D.own0ok = true) (sif ((w.map (·.1)).Nodup) (sif (okOv ds.length ks vs = true) (letT (setCells T i off (setL (ds.map D.own0) ks xs)) fun T' =>
          k { v := .d (.tup []), wr := w ++ [(tb q, (L.new (tb q), .tbl true T'))] }))))
      | _ => none)
    else cellD1K (rowSz q off) L v fun x w => if n = 1 then letT (setCells T i off [x]) fun T' => k { v := .d (.tup []), wr := w ++ [(tb q, (L.new (tb q), .tbl true T'))] } else none)
  | _ => none
def storeK (P : Program) (L : Loc) (t : TypeId) (p v : V) (k : Out → Option R) : Option R :=
  match tyAgg P t, tySize P t with
  | some ag, some n =>
    match p with
    | .ptr g l off => match L.get g l with
      | .box a ds => match v with
        | .d (.agg xs) => sif (ag = true) (sif (xs.length = n) (sif (off + n ≤ ds.length) (k { v := .d (.tup []), wr := [(g, (l, .box a (spl off n ds xs)))] })))
        | .agg xs ks vs => sif (ag = true) (sif (xs.length = n) (sif (off + n ≤ ds.length) (sif (okOv n ks vs = true) (k { v := .d (.tup []), wr := [(g, (l, mkBox a (ds.take off ++ xs ++ ds.drop (off + n)) (ks.map (· + off), vs)))] }))))
        | .d x => sif (ag = false) (sif (n = 1) (sif (x.cell = true) (sif (off < ds.length) (k { v := .d (.tup []), wr := [(g, (l, .box a (ds.set off x)))] }))))
        | v => sif (v.one = true) (sif (ag = false) (sif (n = 1) (sif (off < ds.length) (k { v := .d (.tup []), wr := [(g, (l, .vbox a ds [off] [v]))] }))))
      | .vbox a ds ks vs => match v with
        | .d (.agg xs) => sif (ag = true) (sif (xs.length = n) (sif (off + n ≤ ds.length) (k { v := .d (.tup []), wr := [(g, (l, mkBox a (ds.take off ++ xs ++ ds.drop (off + n)) (ovOut off n ks vs)))] })))
        | .agg xs ks' vs' => sif (ag = true) (sif (xs.length = n) (sif (off + n ≤ ds.length) (sif (okOv n ks' vs' = true) (k { v := .d (.tup []), wr := [(g, (l, mkBox a (ds.take off ++ xs ++ ds.drop (off + n)) (ks'.map (· + off) ++ (ovOut off n ks vs).1, vs' ++ (ovOut off n ks vs).2)))] }))))
        | .d x => sif (ag = false) (sif (n = 1) (sif (x.cell = true) (sif (off < ds.length) (k { v := .d (.tup []), wr := [(g, (l, mkBox a (ds.set off x) (ovOut off 1 ks vs)))] }))))
        | v => sif (v.one = true) (sif (ag = false) (sif (n = 1) (sif (off < ds.length) (k { v := .d (.tup []), wr := [(g, (l, .vbox a ds (off :: (ovOut off 1 ks vs).1) (v :: (ovOut off 1 ks vs).2)))] }))))
      | _ => none
    | .ept g l i off => match L.get g l with
      | .arr sz els true => getK els i fun e => match v with
        | .d x => eltSetK ag n sz off e x fun y => k { v := .d (.tup []), wr := [(g, (l, .arr sz (els.set i y) true))] }
        | v => toDK L v fun x w => if g ∈ w.map (·.1) then none else eltSetK ag n sz off e x fun y => k { v := .d (.tup []), wr := w ++ [(g, (l, .arr sz (els.set i y) true))] }
      | _ => none
    | .vept q l i o j off => match v, tabOf L q with
      | .d x, some (true, T) => rowK L q l i o fun els => getK els j fun e => eltSetK ag n (rowSz q o) off e x fun y => sif (y.flatEl = true) (letT (setT T i o (.sl .own (els.set j y))) fun T' =>
          k { v := .d (.tup []), wr := [(tb q, (l, .tbl true T'))] })
      | _, _ => none
    | .d (.h q i off) => storeTK P L q i off n ag (tyFlat P 8 t) v k
    | _ => none
  | _, _ => none

def appendK (P : Program) (L : Loc) (t : Nat) (ty : TypeId) (s x : V) (k : Out → Option R) : Option R :=
  elsK L x fun xs => match appendTy P ty 0 with
    | none => none
    | some sz => match s with
      | .d (.sl .full []) => sif (xs.length ≤ 2 ^ 32) (sif (okEls sz xs = true) (k { v := .ref t (L.new t) 0 xs.length, wr := [(t, (L.new t, .arr sz xs true))] }))
      | .d (.sl .nil []) => sif (xs.length ≤ 2 ^ 32) (sif (okEls sz xs = true) (k { v := .ref t (L.new t) 0 xs.length, wr := [(t, (L.new t, .arr sz xs true))] }))
      | .d (.sl .full (y :: l)) => sif (xs ≠ []) (sif ((y :: l).length + xs.length ≤ 2 ^ 32) (sif (okEls sz xs = true) (sif (okEls sz (y :: l) = true)
          (k { v := .ref t (L.new t) 0 ((y :: l).length + xs.length), wr := [(t, (L.new t, .arr sz (y :: l ++ xs) true))] }))))
      | .ref g n off len => match off, L.get g n with
        | 0, .arr sz' els true => if g < 90000 then sif (len + xs.length ≤ 2 ^ 32) (sif (okEls sz xs = true) (sif (len = els.length) (sif (sz' = sz)
            (k { v := .ref t (L.new t) 0 (len + xs.length), wr := [(g, (n, .dead)), (t, (L.new t, .arr sz (els ++ xs) true))] })))) else none
        | _, _ => none
      | .vref q n i o lo len => match lo, tabOf L q with
        | 0, some (true, T) => rowK L q n i o fun els => sif (len + xs.length ≤ 2 ^ 32) (sif (okEls sz xs = true) (sif (sz = rowSz q o) (sif (len = els.length) (letT (setT T i o .undef) fun T' =>
            k { v := .ref t (L.new t) 0 (len + xs.length), wr := [(tb q, (n, .tbl true T')), (t, (L.new t, .trow sz (els ++ xs)))] }))))
        | _, _ => none
      | _ => none

def srcK (P : Program) (L : Loc) (ty2 : TypeId) (x : V) (k : List D → Option R) : Option R :=
  match tyStr P ty2, x with
  | true, .d (.str s) => k (strEls s)
  | true, _ => none
  | false, x => elsK L x k
def copyK (P : Program) (L : Loc) (ty ty2 : TypeId) (s x : V) (k : Out → Option R) : Option R :=
  match s, tyElem P ty with
  | .ref g n off len, some ez => match L.get g n with
    | .arr sz els true => srcK P L ty2 x fun xs => sif (off + len ≤ els.length) (sif (sz = 1) (sif (ez = 1) (sif (cells xs = true)
        (k { v := .d (.int .i64 ((min xs.length len : Nat) : Int)), wr := [(g, (n, .arr sz (els.take off ++ xs.take len ++ els.drop (off + (xs.take len).length)) true))] }))))
    | _ => none
  | .bref g n off len, some ez => match L.get g n with
    | .box a ds => srcK P L ty2 x fun xs => sif (off + len ≤ ds.length) (sif (ez = 1) (sif (cells xs = true) (sif (xs.length = len)
        (k { v := .d (.int .i64 (len : Int)), wr := [(g, (n, .box a (ds.take off ++ (xs ++ ds.drop (off + len)))))] }))))
    | _ => none
  | _, _ => none

def sliceK (P : Program) (L : Loc) (t : TypeId) (x : V) (lo hi mx : Option V) (k : V → Option R) : Option R :=
  match optD lo, optD hi, optD mx with
  | some lo, some hi, some mx =>
    match x with
    | .d (.sl tg l) =>
      let h := hi.getD l.length
      let a := lo.getD 0
      let m := mx.getD h
      match tyElem P t with
      | some sz => sif (0 ≤ a) (sif (a ≤ h) (sif (h ≤ l.length) (sif (m = h) (sif ((mx.isNone || hi.isSome) = true) (sif (rowOk sz l = true)
        (k (.d (.sl (sliceTag tg mx.isSome (decide (h = l.length))) (cutI a h l)))))))))
      | none => none
    | .d (.str s) =>
      let h := hi.getD s.size
      let a := lo.getD 0
      sif (tyStr P t = true) (sif (mx = none) (sif (0 ≤ a) (sif (a ≤ h) (sif (h ≤ s.size) (k (.d (.str (s.extract a.toNat h.toNat))))))))
    | .ref g n off len =>
      let h := hi.getD len
      let a := lo.getD 0
      match tyElem P t, L.get g n with
      | some sz, .arr sz' _ _ => if sz = sz' then (match mx with
        | none => sif (0 ≤ a) (sif (a ≤ h) (sif (h ≤ len) (k (.ref g n (off + a.toNat) (h - a).toNat))))
        | some m => sif (hi.isSome = true) (sif (m = h) (sif (a = h) (sif (0 ≤ a) (sif (h ≤ len) (k (.d (.sl .full []))))))))
        else none
      | _, _ => none
    | .bref g n off len =>
      let h := hi.getD len
      let a := lo.getD 0
      match tyElem P t, L.get g n, mx with
      | some sz, .box _ ds, some m => if sz = 1 then sif (off + len ≤ ds.length) (sif (hi.isSome = true) (sif (m = h) (sif (a = h) (sif (0 ≤ a) (sif (h ≤ len) (k (.d (.sl .full [])))))))) else none
      | _, _, _ => none
    | .vref q n i o off len =>
      let h := hi.getD len
      let a := lo.getD 0
      match tyElem P t with
      | some sz => if sz = rowSz q o then rowK L q n i o fun l => sif (off + len ≤ l.length) (match mx with
        | none => sif (0 ≤ a) (sif (a ≤ h) (sif (h ≤ len) (k (.vref q n i o (off + a.toNat) (h - a).toNat))))
        | some m => sif (hi.isSome = true) (sif (m = h) (sif (a = h) (sif (0 ≤ a) (sif (h ≤ len) (k (.d (.sl .full []))))))))
        else none
      | none => none
    | .ptr g n off => match tyArr P t, L.get g n with
      | some (q, sz, _), .box _ ds =>
        let h := hi.getD q
        let a := lo.getD 0
        sif (off + q ≤ ds.length) (sif (sz = 1) (sif (mx = none) (sif (0 ≤ a) (sif (a ≤ h) (sif (h ≤ q) (sif ((a = 0 ∨ a < q)) (k (.bref g n (off + a.toNat) (h - a).toNat))))))))
      | _, _ => none
    | _ => none
  | _, _, _ => none

def tyElemT (P : Program) (t : TypeId) : Option TypeId :=
  match P.underlying t with
  | some (.slice e) => some e
  | _ => none

def indexAddrK (P : Program) (L : Loc) (t : TypeId) (x i : V) (k : V → Option R) : Option R :=
  match i with
  | .d (.int _ i) =>
    match x with
    | .d (.sl _ l) => match tyElem P t, tyElemT P t with
      | some sz, some e => sif (0 ≤ i) (getK l i.toNat fun d => decT P e d fun d => sif (d.width = sz) (sif ((d.cell || d.isAgg) = true) (k (.d (.at_ d)))))
      | _, _ => none
    | .ref g l off n => match tyElem P t, L.get g l with
      | some sz, .arr sz' _ _ => if sz' = sz then sif (0 ≤ i) (sif (i.toNat < n) (k (.ept g l (off + i.toNat) 0))) else none
      | _, _ => none
    | .vref q l z o off n => match tyElem P t with
      | some sz => if sz = rowSz q o then rowK L q l z o fun _ => sif (0 ≤ i) (sif (i.toNat < n) (k (.vept q l z o (off + i.toNat) 0))) else none
      | none => none
    | .bref g l off n => match tyElem P t with
      | some sz => sif (sz = 1) (sif (0 ≤ i) (sif (i.toNat < n) (k (.ptr g l (off + i.toNat)))))
      | none => none
    | .ptr g l off => match tyArr P t with
      | some (n, sz, _) => sif (0 ≤ i) (sif (i.toNat < n) (k (.ptr g l (off + i.toNat * sz))))
      | none => none
    | .d (.at_ (.agg cs)) => match tyArr P t with
      | some (n, sz, ag) => sif (0 ≤ i) (sif (i.toNat < n) (partK ag sz (i.toNat * sz) cs fun d => k (.d (.at_ d))))
      | none => none
    | .d (.h q j off) => match tyArr P t with
      | some (n, sz, _) => sif (0 ≤ i) (sif (i.toNat < n) (k (.d (.h q j (off + i.toNat * sz)))))
      | none => none
    | .ept g l q off => match tyArr P t with
      | some (n, sz, _) => sif (0 ≤ i) (sif (i.toNat < n) (k (.ept g l q (off + i.toNat * sz))))
      | none => none
    | .vept q l z o j off => match tyArr P t with
      | some (n, sz, _) => sif (0 ≤ i) (sif (i.toNat < n) (k (.vept q l z o j (off + i.toNat * sz))))
      | none => none
    | _ => none
  | _ => none

def letD (d : D) (k : D → Option R) : Option R := match d with
  | .int q n => letN n fun n => k (.int q n)
  | d => k d
def binK (bt : Bool) (op : BinOp) (a b : D) (k : D → Option R) : Option R :=
  match op, a, b with
  | .quo, .int q x, .int q' y | .rem, .int q x, .int q' y => if q = q' then sif (y ≠ 0) (match op with
      | .quo => letN (q.wrap (x.tdiv y)) fun n => k (.int q n)
      | _ => letN (x.tmod y) fun n => k (.int q n)) else none
  | .shl, .int q x, .int _ y => sif (0 ≤ y) (letN (q.wrap (x * 2 ^ min y.toNat q.bits)) fun n => k (.int q n))
  | .shr, .int q x, .int _ y => sif (0 ≤ y) (letN (x.fdiv (2 ^ min y.toNat q.bits)) fun n => k (.int q n))
  | op, a, b => match abin bt op a b with
    | some d => letD d k
    | none => none

/-- Is it nil? -/
def nilTK (L : Loc) (q : Nat) (a : V) (k : Bool → Option R) : Option R :=
  match q, a with
  | 0, .d x => asNil x k
  | 0, .p _ x => asNil x k
  | 1, .d x => asNilm x k
  | 3, .d (.sl t l) => brK l.isEmpty (if t = .nn then k false else if t = .nul then k true else sif (t = .nil) (k true)) (k false)
  | 3, .ref g n off len => okRefK L (.ref g n off len) (sif (0 < len) (k false))
  | 3, .vref z n i o lo len => okRefK L (.vref z n i o lo len) (sif (0 < len) (k false))
  | q, a => match isNil L q a with
    | some b => k b
    | none => none

def dataK (d : D) (k : V → Wr → Option R) : Option R := sif (okData d = true) (k (.d d) [])
def adoptK1 (P : Program) (L : Loc) (id sz : Nat) (t : TypeId) (d : D) (k : V → Wr → Option R) : Option R :=
  if sz = 0 then decT P t d fun d => dataK d k
  else asOwn d fun els => k (.ref id (L.new id) 0 els.length) [(id, (L.new id, .arr sz els true))]
def adoptKL (P : Program) (L : Loc) (t : Nat) : Nat → List Nat → List TypeId → List D → (List V → Wr → Option R) → Option R
  | j, sz :: szs, ty :: tys, d :: ds, k => adoptK1 P L (t + 1000 * (j + 1)) sz ty d fun v w => adoptKL P L t (j + 1) szs tys ds fun vs ws => k (v :: vs) (w ++ ws)
  | _, [], [], [], k => k [] []
  | _, _, _, _, _ => none
def tupN (n : Nat) (l : List D) (k : List D → Option R) : Option R := getCells (List.replicate n .any) l fun x => k (mkCells _ x)
def adoptK (P : Program) (L : Loc) (t : Nat) (szs : List Nat) (ty : TypeId) (r : D) (k : V → Wr → Option R) : Option R :=
  match szs with
  | [sz] => adoptK1 P L t sz ty r k
  | [] => asTup r fun ds => nilK ds (k (.tup []) [])
  | _ => match P.underlying ty with
    | some (.tuple tys) => asTup r fun ds => tupN tys.size ds fun ds => if szs.length = ds.length ∧ ds.length ≤ 4 then adoptKL P L t 0 szs tys.toList ds fun vs w => k (.tup vs) w else none
    | _ => none

def give1K (nw : List Nat) (L : Loc) (pm : PM × Nat) (v : V) (k : D → List (Nat × Nat × Nat × Nat) → Wr → Option R) : Option R :=
  match pm with
  | (.lent, _) => lendK nw L v fun d => k d [] []
  | (.own, sz) => match v with
    | .ref g n off len => match off, L.get g n with
      | 0, .arr sz' els true => if sz' = sz ∧ g < 90000 then sif (len = els.length) (sif (flatEls els = true) (k (.sl .own els) [] [(g, (n, .dead))])) else none
      | _, _ => none
    | .d (.sl .nil []) => k (.sl .own []) [] []
    | .d (.sl .full []) => k (.sl .own []) [] []
    | _ => none
  | (.mut, sz) => match v with
    | .ref g n off len => match off, L.get g n with
      | 0, .arr sz' els true => if sz' = sz ∧ g < 90000 then sif (len = els.length) (sif (flatEls els = true) (k (.sl .own els) [(g, n, sz, len)] [])) else none
      | _, _ => none
    | _ => none
def giveLK (nw : List Nat) (L : Loc) : List (PM × Nat) → List V → (List D → List (Nat × Nat × Nat × Nat) → Wr → Option R) → Option R
  | _, [], k => k [] [] []
  | pms, v :: vs, k => give1K nw L (pms.headD (.lent, 0)) v fun d m w => giveLK nw L pms.tail vs fun ds ms ws => k (d :: ds) (m ++ ms) (w ++ ws)
/-- Rows that come back. -/
def outsK : List (Nat × Nat × Nat × Nat) → List (List D) → (Wr → Option R) → Option R
  | [], os, k => nilK os (k [])
  | (g, n, sz, len) :: ms, os, k => consK os fun els os => sif (els.length = len) (outsK ms os fun w => k ((g, (n, .arr sz els true)) :: w))
def callK (P : Program) (Γ : Env) (L : Loc) (t : Nat) (ty : TypeId) (f : V) (args : List V) (k : Out → Option R) : Option R :=
  match acallee f with
  | some (q, a, b) => match Γ q with
    | some (.pure szs F) => lendsK [] L (a ++ args ++ b) fun ds => bindK (F ds) fun r => adoptK P L t szs ty r fun v w => k { v := v, wr := w }
    | some (.st pms szs ks F) => giveLK (ksW ks) L pms (a ++ args ++ b) fun ds ms kl => match tabsOf L ks with
      | some Ts => if giveOk L pms [] (a ++ args ++ b) = true ∧ (ks.map (·.1)).Nodup then bindK (F ds Ts) fun x => outsK ms x.outs fun wo => tellK (ksW ks).length x.tbs fun tbs =>
          adoptK P L t szs ty x.r fun v w => k { v := v, wr := kl ++ wo ++ wrTabs L (ksW ks) tbs ++ w } else none
      | none => none
    | none => none
  | none => none

def fieldK (P : Program) (s f : Nat) (x : V) (k : V → Option R) : Option R :=
  match x, tyFld P s f, tyFldAgg P s f with
  | .d (.agg cs), some (off, size), some ag => partK ag size off cs fun d => k (.d d)
  | .agg ds ks vs, some (off, size), some ag => if ag then sif (off + size ≤ ds.length) (k (V.mk ((ds.drop off).take size) (ovIn off size ks vs)))
      else sif (off < ds.length) (match ovGet ks vs off with
        | some v => k v
        | none => getK ds off fun d => k (.d d))
  | _, _, _ => none

/-- What an operation does. -/
def aopK0 (P : Program) (Γ : Env) (o : Oper) (ρ : Operand → V) (L : Loc) (k : Out → Option R) : Option R :=
  let t := o.dst.getD 0
  match o.op with
  | .pick c a b => match ρ c with
    | .d (.bool b') => br b' fun b' => k { v := if b' then ρ a else ρ b }
    | _ => none
  | .build ty ps => match ((ps.toList.map fun (i, x) => (i, (ρ x).unp)).map (·.2)).mapM V.dat with
    | some _ => dfl (aop0 P Γ o ρ L) k
    | none => okRefsK L ((ps.toList.map fun (i, x) => (i, (ρ x).unp)).map (·.2)) (match tyZero P ty, placesOf P ty with
      | some (.agg zs), some pl => match layV pl (zs, [], []) (ps.toList.map fun (i, x) => (i, (ρ x).unp)) with
        | some x => k { v := V.mk x.1 x.2 }
        | none => none
      | _, _ => none)
  | .buildSlice ty n ps => toDsK L ((ps.toList.map fun (i, x) => (i, ρ x)).map (·.2)) fun ds w => match appendTy P ty n with
    | some sz => sif ((ps.toList.map fun (i, x) => (i, ρ x)).map (·.1) = List.range n) (sif (n * sz ≤ 2 ^ 24) (sif (okEls sz ds = true) (k { v := .d (.sl .full ds), wr := w })))
    | none => none
  | .box _ x => match (ρ x).unp with
    | .d _ => dfl (aop0 P Γ o ρ L) k
    | .agg _ _ _ => dfl (aop0 P Γ o ρ L) k
    | v => if v.one = true then okRefK L v (k { v := .ptr t (L.new t) 0, wr := [(t, (L.new t, .vbox false [.undef] [0] [v]))] }) else none
  | .load ty a => loadK P L ty (ρ a) fun v => k { v }
  | .store ty a x => okRefK L (ρ x) (storeK P L ty (ρ a) (ρ x).unp k)
  | .binOp op ty x y _ => match ρ x, ρ y with
    | .d (.agg _), .d (.agg _) => dfl (aop0 P Γ o ρ L) k
    | a, b => match nilKind P ty with
      | some q => if nilConst q b = true then (match op with
        | .eql => nilTK L q a fun r => k { v := .d (.bool r) }
        | .neq => nilTK L q a fun r => k { v := .d (.bool !r) }
        | _ => none) else none
      | none => match a, b with
        | .d a, .d b => binK (tyBool P ty) op a b fun d => k { v := .d d }
        | _, _ => none
  | .convert src dst x => match ρ x with
    | .d (.int _ n) => match tyInt P src, tyInt P dst with
      | some _, some q => letN (q.wrap n) fun n => k { v := .d (.int q n) }
      | _, _ => none
    | v => if tyBytes P src = true ∧ tyStr P dst = true then elsK L v fun l => sif (allByte l = true) (k { v := .d (.str (baOf l)) }) else none
  | .makeSlice ty n c => match P.underlying ty, ρ n, ρ c with
    | some (.slice e), .d (.int .i64 n), .d (.int .i64 c) => match tyZero P e, tySize P e, P.info? e with
      | some z, some sz, some i => sif (0 ≤ n) (sif (n = c) (sif (n * i.bytes ≤ 2 ^ 47) (sif (n ≤ 2 ^ 47) (sif (z.width = sz) (sif (0 < sz)
          (k { v := .ref t (L.new t) 0 n.toNat, wr := [(t, (L.new t, .arr sz (List.replicate n.toNat z) true))] }))))))
      | _, _, _ => none
    | _, _, _ => none
  | .slice ty x lo hi mx => sliceK P L ty (ρ x) (lo.map ρ) (hi.map ρ) (mx.map ρ) fun v => k { v }
  | .fieldAddr s x f => okPtrK L (ρ x) (dflV (afieldAddr P s (ρ x) f) fun v => k { v })
  | .field s x f => fieldK P s f (ρ x) fun v => k { v }
  | .indexAddr ty x i => okPtrK L (ρ x) (indexAddrK P L ty (ρ x) (ρ i) fun v => k { v })
  | .index ty x i => match ρ x, ρ i with
    | .d (.agg cs), .d (.int _ n) => match tyArr P ty with
      | some (q, sz, ag) => sif (0 ≤ n) (sif (n < q) (partK ag sz (n.toNat * sz) cs fun d => k { v := .d d }))
      | none => none
    | _, _ => none
  | .lookup ty m x ok => match tyMap P ty with
    | some (kk, et) => match tyZero P et, keyOf kk (ρ x) with
      | some z, some n => esK L kk (ρ m) fun es => decT P et (lookD n z es) fun d => k { v := if ok then .d (.tup [d, .bool (hasD n es)]) else .d d }
      | _, _ => none
    | none => none
  | .mapUpdate ty m kx v | .insert ty m kx v => match tyMap P ty with
    | some (kk, _) => match ρ m, keyOf kk (ρ kx) with
      | .map g l, some n => match L.get g l with
        | .map kk' es => if kk' = kk then toDK L (ρ v).unp fun x w => if g ∈ w.map (·.1) then none else k { v := .d (.tup []), wr := w ++ [(g, (l, .map kk (setD n x es)))] } else none
        | _ => none
      | .vmap q l i o, some n => match (ρ v).unp, tabOf L q with
        | .d x, some (true, T) => mapRowK L kk q l i o fun es => sif (x.flatEl = true) (letT (setT T i o (.mp .own kk (setD n x es))) fun T' => k { v := .d (.tup []), wr := [(tb q, (l, .tbl true T'))] })
        | _, _ => none
      | _, _ => none
    | none => none
  | .nilCheck x => match ρ x with
    | .p q x => asH q x fun i => k { v := .d (.h q i 0) }
    | .ept g n i j => okPtrK L (.ept g n i j) (k { v := .ept g n i j })
    | .vept z n i o j f => okPtrK L (.vept z n i o j f) (k { v := .vept z n i o j f })
    | _ => dfl (aop0 P Γ o ρ L) k
  | .call { callee := .builtin .len, args, argTypes } => match args.toList, argTypes.toList with
    | [x], [ty] => match tyMap P ty with
      | some (kk, _) => esK L kk (ρ x) fun es => k { v := .d (.int .i64 es.length) }
      | none => match ρ x with
        | .d (.str s) => if tyStr P ty = true then k { v := .d (.int .i64 s.size) } else none
        | v => if (tyElem P ty).isSome = true then lenK L v fun n => k { v := .d (.int .i64 n) } else none
    | _, _ => none
  | .call { callee := .builtin .min, args, .. } => match args.toList.map ρ with
    | [.d (.int .i64 a), .d (.int .i64 b)] => letN (min a b) fun n => k { v := .d (.int .i64 n) }
    | _ => none
  | .call { callee := .builtin .max, args, .. } => match args.toList.map ρ with
    | [.d (.int .i64 a), .d (.int .i64 b)] => letN (max a b) fun n => k { v := .d (.int .i64 n) }
    | _ => none
  | .call { callee := .builtin .append, args, argTypes } => match args.toList, argTypes.toList with
    | [s, x], [ty, ty2] => if (tyElem P ty2).isSome then appendK P L t ty (ρ s) (ρ x) k else none
    | _, _ => none
  | .call { callee := .builtin .copy, args, argTypes } => match args.toList, argTypes.toList with
    | [s, x], [ty, ty2] => copyK P L ty ty2 (ρ s) (ρ x) k
    | _, _ => none
  | .call { callee := .value f, args, .. } => callK P Γ L t o.type (ρ f) (args.toList.map ρ) k
  | .sliceToArrayPointer arr x => match ρ x with
    | .d (.sl _ l) => match P.underlying arr with
      | some (.array n e) => sif (0 < n) (sif (l.length = n) (sif (tySize P e = some 1) (sif (cells l = true) (k { v := .d (.at_ (.agg l)) }))))
      | _ => none
    | _ => none
  | _ => dfl (aop0 P Γ o ρ L) k
def aopK (P : Program) (Γ : Env) (o : Oper) (ρ : Operand → V) (L : Loc) (k : Out → Option R) : Option R := aopK0 P Γ o ρ L fun out => k { out with v := toP P o.type out.v }
end
end Wf

/-
  One operation that is read off does what the operation does.
-/
namespace Wf
open Go Go.RowKit
set_option linter.unusedVariables false
set_option linter.unusedSimpArgs false

section
variable {R : Type} {r : R}

theorem dfl_some {o : Option Out} {k : Out → Option R} (h : dfl o k = some r) : ∃ out, o = some out ∧ k out = some r := by
  unfold dfl at h
  split at h
  · exact ⟨_, rfl, h⟩
  · cases h
theorem dflV_some {o : Option V} {k : V → Option R} (h : dflV o k = some r) : ∃ v, o = some v ∧ k v = some r := by
  unfold dflV at h
  split at h
  · exact ⟨_, rfl, h⟩
  · cases h
theorem partK_some {ag : Bool} {size off : Nat} {cs : List D} {k : D → Option R} (h : partK ag size off cs k = some r) : ∃ d, partD ag size off cs = some d ∧ k d = some r := by
  unfold partK at h
  unfold partD
  split at h
  · rename_i e; subst e
    obtain ⟨h1, h2⟩ := sif_some h
    exact ⟨_, by simp [h1], h2⟩
  · rename_i e
    obtain ⟨d, h1, h2⟩ := getK_some h
    simp only [Bool.not_eq_true] at e; subst e
    exact ⟨d, by simpa using h1, h2⟩
theorem rowK_some {L : Loc} {q n i o : Nat} {k : List D → Option R} (h : rowK L q n i o k = some r) : ∃ l, rowOf L q n i o = some l ∧ k l = some r := by
  unfold rowK at h
  split at h
  · rename_i T e
    obtain ⟨cs, h1, h2⟩ := getK_some h
    obtain ⟨x, h3, h4⟩ := getK_some h2
    obtain ⟨l, h5, h6⟩ := asOwn_some h4
    subst h5
    exact ⟨l, by simp [rowOf, e, cellT, h1, h3], h6⟩
  · cases h
theorem mapRowK_some {L : Loc} {kk : MK} {q n i o : Nat} {k : List (Int × D) → Option R} (h : mapRowK L kk q n i o k = some r) : ∃ es, mapOf L q n i o = some (kk, es) ∧ k es = some r := by
  unfold mapRowK at h
  split at h
  · rename_i T e
    obtain ⟨cs, h1, h2⟩ := getK_some h
    obtain ⟨x, h3, h4⟩ := getK_some h2
    obtain ⟨l, h5, h6⟩ := asOwnM_some h4
    subst h5
    exact ⟨l, by simp [mapOf, e, cellT, h1, h3], h6⟩
  · cases h
theorem elsK_some {L : Loc} {v : V} {k : List D → Option R} (h : elsK L v k = some r) : ∃ l, elsOf L v = some l ∧ k l = some r := by
  cases v with
  | d x => cases x <;> first | cases h | exact ⟨_, rfl, h⟩
  | ref g n off len =>
    simp only [elsK] at h
    simp only [elsOf]
    split at h
    · rename_i e; rw [e]
      obtain ⟨h1, h2⟩ := sif_some h
      exact ⟨_, by simp [h1, cut_eq], h2⟩
    · cases h
  | bref g n off len =>
    simp only [elsK] at h
    simp only [elsOf]
    split at h
    · rename_i e; rw [e]
      obtain ⟨h1, h2⟩ := sif_some h
      exact ⟨_, by simp [h1, cut_eq], h2⟩
    · cases h
  | vref q n i o lo len =>
    obtain ⟨l, h1, h2⟩ := rowK_some (k := fun l => sif (lo + len ≤ l.length) (k (cut lo len l))) h
    obtain ⟨h3, h4⟩ := sif_some h2
    exact ⟨_, by simp [elsOf, h1, h3, cut_eq], h4⟩
  | _ => cases h
theorem lenK_some {L : Loc} {v : V} {k : Nat → Option R} (h : lenK L v k = some r) : ∃ n, (elsOf L v).map List.length = some n ∧ k n = some r := by
  cases v with
  | d x => cases x <;> first | cases h | exact ⟨_, rfl, h⟩
  | ref g n off len =>
    simp only [lenK] at h
    simp only [elsOf]
    split at h
    · rename_i e; rw [e]
      obtain ⟨h1, h2⟩ := sif_some h
      exact ⟨len, by simp [h1]; omega, h2⟩
    · cases h
  | bref g n off len =>
    simp only [lenK] at h
    simp only [elsOf]
    split at h
    · rename_i e; rw [e]
      obtain ⟨h1, h2⟩ := sif_some h
      exact ⟨len, by simp [h1]; omega, h2⟩
    · cases h
  | vref q n i o lo len =>
    obtain ⟨l, h1, h2⟩ := rowK_some (k := fun l => sif (lo + len ≤ l.length) (k len)) h
    obtain ⟨h3, h4⟩ := sif_some h2
    exact ⟨len, by simp [elsOf, h1, h3]; omega, h4⟩
  | _ => cases h
theorem esK_some {L : Loc} {kk : MK} {v : V} {k : List (Int × D) → Option R} (h : esK L kk v k = some r) : ∃ es, esOf L v = some (kk, es) ∧ k es = some r := by
  unfold esK at h
  split at h
  · split at h
    · rename_i e; subst e; exact ⟨_, rfl, h⟩
    · cases h
  · split at h
    · rename_i e1
      split at h
      · rename_i e; subst e; exact ⟨_, by simp only [esOf, e1], h⟩
      · cases h
    · cases h
  · exact mapRowK_some h
  · cases h

theorem okRefK_some {L : Loc} {v : V} {x : Option R} (h : okRefK L v x = some r) : okRef L v = true ∧ x = some r := by
  unfold okRefK at h
  split at h
  · split at h
    · rename_i e
      obtain ⟨h1, h2⟩ := sif_some h
      exact ⟨by simp only [okRef, e]; exact decide_eq_true h1, h2⟩
    · rename_i e
      exact ⟨by simp only [okRef, e], h⟩
    · cases h
  · obtain ⟨n, h1, h2⟩ := lenK_some h
    exact ⟨by
      simp only [okRef]
      cases he : elsOf L _ with
      | none => rw [he] at h1; cases h1
      | some _ => rfl, h2⟩
  · obtain ⟨n, h1, h2⟩ := lenK_some h
    exact ⟨by
      simp only [okRef]
      cases he : elsOf L _ with
      | none => rw [he] at h1; cases h1
      | some _ => rfl, h2⟩
  · split at h
    · rename_i T e
      obtain ⟨cs, h1, h2⟩ := getK_some h
      obtain ⟨d, h3, h4⟩ := getK_some h2
      obtain ⟨h5, h6⟩ := sif_some h4
      refine ⟨?_, h6⟩
      split at h5
      · simp [okRef, esOf, mapOf, e, cellT, h1, h3]
      · cases h5
    · cases h
  · split at h
    · rename_i e; exact ⟨e, h⟩
    · cases h
theorem okRefsK_some {L : Loc} {x : Option R} : ∀ {vs : List V}, okRefsK L vs x = some r → (vs.all fun v => okRef L v) = true ∧ x = some r
  | [], h => ⟨rfl, h⟩
  | v :: vs, h => by
    obtain ⟨h1, h2⟩ := okRefK_some h
    obtain ⟨h3, h4⟩ := okRefsK_some h2
    exact ⟨by simp only [List.all_cons, h1, h3, Bool.and_self], h4⟩
theorem okPtrK_some {L : Loc} {v : V} {x : Option R} (h : okPtrK L v x = some r) : okPtr L v = true ∧ x = some r := by
  unfold okPtrK at h
  split at h
  · split at h
    · rename_i e
      obtain ⟨h1, h2⟩ := sif_some h
      exact ⟨by simp only [okPtr, e]; exact decide_eq_true h1, h2⟩
    · cases h
  · obtain ⟨els, h1, h2⟩ := rowK_some h
    obtain ⟨h3, h4⟩ := sif_some h2
    exact ⟨by simp only [okPtr, h1]; exact decide_eq_true h3, h4⟩
  · split at h
    · rename_i e; exact ⟨e, h⟩
    · cases h

theorem toD1K_some {L : Loc} {v : V} {k : D → Wr → Option R} (h : toD1K L v k = some r) : ∃ x w, toD1 L v = some (x, w) ∧ k x w = some r := by
  cases v with
  | d x => exact ⟨_, _, rfl, h⟩
  | p q x => exact ⟨_, _, rfl, h⟩
  | ref g n off len =>
    simp only [toD1K] at h
    simp only [toD1]
    split at h
    · rename_i e; rw [e]
      split at h
      · rename_i hg
        obtain ⟨h1, h2⟩ := sif_some h
        rw [cut_eq] at h2
        exact ⟨_, _, by simp [h1, hg], h2⟩
      · cases h
    · cases h
  | _ => cases h
theorem toD1sK_some {L : Loc} : ∀ {vs : List V} {k : List D → Wr → Option R}, toD1sK L vs k = some r → ∃ xs w, toD1s L vs = some (xs, w) ∧ k xs w = some r
  | [], k, h => ⟨[], [], rfl, h⟩
  | v :: vs, k, h => by
    obtain ⟨x, w, h1, h2⟩ := toD1K_some h
    obtain ⟨xs, ws, h3, h4⟩ := toD1sK_some (k := fun xs ws => k (x :: xs) (w ++ ws)) h2
    exact ⟨_, _, by rw [toD1s, h1]; dsimp only [Option.bind_some]; rw [h3]; rfl, h4⟩
theorem toD2K_some {L : Loc} {v : V} {k : D → Wr → Option R} (h : toD2K L v k = some r) : ∃ x w, toD2 L v = some (x, w) ∧ k x w = some r := by
  cases v with
  | ptr g n off =>
    simp only [toD2K] at h
    simp only [toD2]
    split at h
    · rename_i e; simp only [e]; exact ⟨_, _, rfl, h⟩
    · rename_i e; simp only [e]; exact ⟨_, _, rfl, h⟩
    · rename_i e; simp only [e]; exact ⟨_, _, rfl, h⟩
    · rename_i e; simp only [e]; exact ⟨_, _, rfl, h⟩
    · rename_i e; simp only [e]
      obtain ⟨x, w, h1, h2⟩ := toD1K_some h
      exact ⟨_, _, by rw [h1]; rfl, h2⟩
    · cases h
  | d x => exact toD1K_some (L := L) (v := .d x) h
  | p q x => exact toD1K_some (L := L) (v := .p q x) h
  | ref g n off len => exact toD1K_some (L := L) (v := .ref g n off len) h
  | _ => cases h
theorem toD2sK_some {L : Loc} : ∀ {vs : List V} {k : List D → Wr → Option R}, toD2sK L vs k = some r → ∃ xs w, toD2s L vs = some (xs, w) ∧ k xs w = some r
  | [], k, h => ⟨[], [], rfl, h⟩
  | v :: vs, k, h => by
    obtain ⟨x, w, h1, h2⟩ := toD2K_some h
    obtain ⟨xs, ws, h3, h4⟩ := toD2sK_some (k := fun xs ws => k (x :: xs) (w ++ ws)) h2
    exact ⟨_, _, by rw [toD2s, h1]; dsimp only [Option.bind_some]; rw [h3]; rfl, h4⟩
theorem toDK_some {L : Loc} {v : V} {k : D → Wr → Option R} (h : toDK L v k = some r) : ∃ x w, toD L v = some (x, w) ∧ k x w = some r := by
  cases v with
  | agg ds ks vs =>
    simp only [toDK] at h
    obtain ⟨h0, h⟩ := sif_some h
    obtain ⟨xs, w, h1, h2⟩ := toD1sK_some h
    exact ⟨_, _, by simp only [toD, h0, if_true, h1]; rfl, h2⟩
  | clo f a b =>
    simp only [toDK] at h
    obtain ⟨xs, w, h1, h2⟩ := toD2sK_some h
    obtain ⟨ys, w', h3, h4⟩ := toD2sK_some h2
    exact ⟨_, _, by simp only [toD, h1, h3]; rfl, h4⟩
  | d x => exact toD1K_some (L := L) (v := .d x) h
  | p q x => exact toD1K_some (L := L) (v := .p q x) h
  | ref g n off len => exact toD1K_some (L := L) (v := .ref g n off len) h
  | _ => cases h
theorem toDsK_some {L : Loc} : ∀ {vs : List V} {k : List D → Wr → Option R}, toDsK L vs k = some r → ∃ xs w, toDs L vs = some (xs, w) ∧ k xs w = some r
  | [], k, h => ⟨[], [], rfl, h⟩
  | v :: vs, k, h => by
    obtain ⟨x, w, h1, h2⟩ := toDK_some h
    obtain ⟨xs, ws, h3, h4⟩ := toDsK_some (k := fun xs ws => k (x :: xs) (w ++ ws)) h2
    exact ⟨_, _, by rw [toDs, h1]; dsimp only [Option.bind_some]; rw [h3]; rfl, h4⟩

theorem cellD1K_some {z : Nat} {L : Loc} {v : V} {k : D → Wr → Option R} (h : cellD1K z L v k = some r) : ∃ x w, cellD1 z L v = some (x, w) ∧ k x w = some r := by
  unfold cellD1K at h
  split at h
  · exact ⟨_, _, rfl, h⟩
  · exact ⟨_, _, rfl, h⟩
  · rename_i x hn hf
    obtain ⟨h1, h2⟩ := sif_some h
    refine ⟨x, [], ?_, h2⟩
    have : cellD1 z L (.d x) = if x.flat = true then some (x, []) else none := by
      cases x with
      | sl t l => cases l <;> cases t <;> first | rfl | exact (hn rfl).elim | exact (hf rfl).elim
      | _ => rfl
    rw [this, if_pos h1]
  · obtain ⟨h1, h2⟩ := sif_some h
    exact ⟨_, _, by simp only [cellD1, h1, if_true], h2⟩
  · rename_i g n off len
    split at h
    · rename_i e
      split at h
      · rename_i hz
        obtain ⟨hc, hk⟩ := sif3_some h
        refine ⟨_, _, ?_, hk⟩
        simp only [cellD1, e]
        exact if_pos ⟨hc.1, hc.2.1, hc.2.2, hz⟩
      · cases h
    · rename_i e
      split at h
      · rename_i hz
        obtain ⟨hc, hk⟩ := sif3_some h
        refine ⟨_, _, ?_, hk⟩
        simp only [cellD1, e]
        exact if_pos ⟨hc.1, hc.2.1, hc.2.2, hz⟩
      · cases h
    · cases h
  · split at h
    · rename_i e
      obtain ⟨h1, h2⟩ := sif_some h
      exact ⟨_, _, by simp only [cellD1, e]; exact if_pos h1, h2⟩
    · cases h
  · cases h
theorem cellD1sK_some {L : Loc} : ∀ {zs : List Nat} {vs : List V} {k : List D → Wr → Option R}, cellD1sK L zs vs k = some r → ∃ xs w, cellD1s L zs vs = some (xs, w) ∧ k xs w = some r
  | [], [], k, h => ⟨[], [], rfl, h⟩
  | [], _ :: _, k, h => by cases h
  | _ :: _, [], k, h => by cases h
  | z :: zs, v :: vs, k, h => by
    obtain ⟨x, w, h1, h2⟩ := cellD1K_some h
    obtain ⟨xs, ws, h3, h4⟩ := cellD1sK_some (k := fun xs ws => k (x :: xs) (w ++ ws)) h2
    exact ⟨_, _, by rw [cellD1s, h1]; dsimp only [Option.bind_some]; rw [h3]; rfl, h4⟩

theorem lend1K_some {nw : List Nat} {L : Loc} {v : V} {k : D → Option R} (h : lend1K nw L v k = some r) : ∃ d, lend1 nw L v = some d ∧ k d = some r := by
  cases v with
  | d x => exact ⟨_, rfl, h⟩
  | p q x => exact ⟨_, rfl, h⟩
  | ref g n off len =>
    obtain ⟨l, h1, h2⟩ := elsK_some (L := L) (v := .ref g n off len) (k := fun l => k (.sl .lent l)) h
    exact ⟨_, by simp only [lend1, h1]; rfl, h2⟩
  | bref g n off len =>
    obtain ⟨l, h1, h2⟩ := elsK_some (L := L) (v := .bref g n off len) (k := fun l => k (.sl .lent l)) h
    exact ⟨_, by simp only [lend1, h1]; rfl, h2⟩
  | vref q n i o lo len =>
    simp only [lend1K] at h
    split at h
    · cases h
    · rename_i hq
      obtain ⟨l, h1, h2⟩ := elsK_some h
      exact ⟨_, by simp only [lend1, hq, if_false, h1]; rfl, h2⟩
  | map g n =>
    simp only [lend1K] at h
    split at h
    · rename_i e; exact ⟨_, by simp only [lend1, esOf, e]; rfl, h⟩
    · cases h
  | _ => cases h
theorem lend1sK_some {nw : List Nat} {L : Loc} : ∀ {vs : List V} {k : List D → Option R}, lend1sK nw L vs k = some r → ∃ ds, lend1s nw L vs = some ds ∧ k ds = some r
  | [], k, h => ⟨[], rfl, h⟩
  | v :: vs, k, h => by
    obtain ⟨x, h1, h2⟩ := lend1K_some h
    obtain ⟨xs, h3, h4⟩ := lend1sK_some (k := fun xs => k (x :: xs)) h2
    exact ⟨x :: xs, by rw [lend1s, h1]; dsimp only [Option.bind_some]; rw [h3]; rfl, h4⟩
theorem lend2K_some {nw : List Nat} {L : Loc} {v : V} {k : D → Option R} (h : lend2K nw L v k = some r) : ∃ d, lend2 nw L v = some d ∧ k d = some r := by
  cases v with
  | ptr g n off =>
    simp only [lend2K] at h
    simp only [lend2]
    split at h
    · rename_i e; simp only [e]; exact ⟨_, rfl, h⟩
    · rename_i e; simp only [e]; exact ⟨_, rfl, h⟩
    · rename_i e; simp only [e]; exact ⟨_, rfl, h⟩
    · rename_i e; simp only [e]; exact ⟨_, rfl, h⟩
    · rename_i e; simp only [e]
      obtain ⟨d, h1, h2⟩ := lend1K_some (k := fun d => k (.at_ d)) h
      exact ⟨_, by rw [h1]; rfl, h2⟩
    · cases h
  | d x => exact lend1K_some (nw := nw) (L := L) (v := .d x) h
  | p q x => exact lend1K_some (nw := nw) (L := L) (v := .p q x) h
  | ref g n off len => exact lend1K_some (nw := nw) (L := L) (v := .ref g n off len) h
  | bref g n off len => exact lend1K_some (nw := nw) (L := L) (v := .bref g n off len) h
  | vref q n i o lo len => exact lend1K_some (nw := nw) (L := L) (v := .vref q n i o lo len) h
  | map g n => exact lend1K_some (nw := nw) (L := L) (v := .map g n) h
  | _ => cases h
theorem lendsK2_some {nw : List Nat} {L : Loc} : ∀ {vs : List V} {k : List D → Option R}, lendsK2 nw L vs k = some r → ∃ ds, vs.mapM (lend2 nw L) = some ds ∧ k ds = some r
  | [], k, h => ⟨[], rfl, h⟩
  | v :: vs, k, h => by
    obtain ⟨x, h1, h2⟩ := lend2K_some h
    obtain ⟨xs, h3, h4⟩ := lendsK2_some (k := fun xs => k (x :: xs)) h2
    exact ⟨x :: xs, by simp [List.mapM_cons, h1, h3], h4⟩
theorem lendK_some {nw : List Nat} {L : Loc} {v : V} {k : D → Option R} (h : lendK nw L v k = some r) : ∃ d, lend nw L v = some d ∧ k d = some r := by
  cases v with
  | clo f a b =>
    obtain ⟨a', h1, h2⟩ := lendsK2_some (L := L) (vs := a) (k := fun a' => lendsK2 nw L b fun b' => k (.fn f a' b')) h
    obtain ⟨b', h3, h4⟩ := lendsK2_some (k := fun b' => k (.fn f a' b')) h2
    exact ⟨_, by simp only [lend, h1, h3]; rfl, h4⟩
  | agg ds ks vs =>
    simp only [lendK] at h
    obtain ⟨h0, h⟩ := sif_some h
    obtain ⟨xs, h1, h2⟩ := lend1sK_some h
    exact ⟨_, by simp only [lend, h0, if_true, h1]; rfl, h2⟩
  | d x => exact lend2K_some (nw := nw) (L := L) (v := .d x) h
  | p q x => exact lend2K_some (nw := nw) (L := L) (v := .p q x) h
  | ref g n off len => exact lend2K_some (nw := nw) (L := L) (v := .ref g n off len) h
  | bref g n off len => exact lend2K_some (nw := nw) (L := L) (v := .bref g n off len) h
  | vref q n i o lo len => exact lend2K_some (nw := nw) (L := L) (v := .vref q n i o lo len) h
  | map g n => exact lend2K_some (nw := nw) (L := L) (v := .map g n) h
  | ptr g n off => exact lend2K_some (nw := nw) (L := L) (v := .ptr g n off) h
  | _ => cases h
theorem lendsK_some {nw : List Nat} {L : Loc} : ∀ {vs : List V} {k : List D → Option R}, lendsK nw L vs k = some r → ∃ ds, vs.mapM (lend nw L) = some ds ∧ k ds = some r
  | [], k, h => ⟨[], rfl, h⟩
  | v :: vs, k, h => by
    obtain ⟨x, h1, h2⟩ := lendK_some h
    obtain ⟨xs, h3, h4⟩ := lendsK_some (k := fun xs => k (x :: xs)) h2
    exact ⟨x :: xs, by simp [List.mapM_cons, h1, h3], h4⟩

theorem ag_part {d : D} {ag : Bool} {n : Nat} (h : d.isAgg = ag ∧ d.width = n ∧ d.cell = !ag) : eltD ag n 0 d = some d := by
  obtain ⟨h1, h2, h3⟩ := h
  subst h1
  cases d with
  | undef => exact absurd (show false = true from h3) (by decide)
  | tup l => exact absurd (show false = true from h3) (by decide)
  | agg cs =>
    have h2 : cs.length = n := h2
    subst h2
    show partD true cs.length 0 cs = some (.agg cs)
    simp [partD]
  | _ => rfl
theorem eltK_some {P : Program} {t : TypeId} {ag : Bool} {sz n off : Nat} {x : D} {k : V → Option R} (h : eltK P t ag sz n off x k = some r) : ∃ d, eltD ag n off x = some d ∧ k (.d d) = some r := by
  unfold eltK at h
  split at h
  · rename_i hc
    obtain ⟨hc2, hk⟩ := sif3_some (decT_some h)
    rw [hc.1]
    exact ⟨x, ag_part hc2, hk⟩
  · obtain ⟨cs, e, h1⟩ := asAgg_some h
    subst e
    obtain ⟨d, h2, h3⟩ := partK_some h1
    exact ⟨d, h2, decT_some (f := fun d => k (.d d)) h3⟩
theorem loadTK_some {P : Program} {L : Loc} {t : TypeId} {q i off n : Nat} {ag fl : Bool} {k : V → Option R} (h : loadTK P L t q i off n ag fl k = some r) : ∃ v, loadT L q i off n ag fl = some v ∧ k v = some r := by
  unfold loadTK at h
  unfold loadT
  split at h
  · rename_i w T e
    rw [e]
    obtain ⟨cs, h1, h2⟩ := getK_some h
    dsimp only
    rw [h1]
    dsimp only
    split at h2
    · rename_i hag
      obtain ⟨h3, h4⟩ := sif_some h2
      rw [if_pos hag, if_pos h3]
      split at h4
      · rename_i hfl
        obtain ⟨h5, h6⟩ := sif_some h4
        rw [if_pos hfl]
        exact ⟨_, if_pos h5, decT_some (f := fun d => k (.d d)) h6⟩
      · rename_i hfl
        rw [if_neg hfl]
        exact ⟨_, rfl, h4⟩
    · rename_i hag
      rw [if_neg hag]
      obtain ⟨x, h3, h4⟩ := getK_some h2
      rw [h3]
      split at h4
      · obtain ⟨l, e2, h5⟩ := asOwn_some h4
        subst e2
        exact ⟨_, rfl, h5⟩
      · split at h4
        · obtain ⟨l, e2, h5⟩ := asOwnM_some h4
          subst e2
          exact ⟨_, rfl, h5⟩
        · cases h4
      · obtain ⟨h5, h6⟩ := sif_some (decT_some h4)
        refine ⟨_, ?_, h6⟩
        split
        · rename_i e2; injection e2 with e2; subst e2; cases h5
        · rename_i e2; injection e2 with e2; subst e2; cases h5
        · rename_i e2; injection e2 with e2; subst e2; rw [if_pos h5]
        · rename_i e2; cases e2
  · cases h
theorem vbPartK_some {P : Program} {t : TypeId} {ag : Bool} {n off : Nat} {ds : List D} {ks : List Nat} {vs : List V} {k : V → Option R} (h : vbPartK P t ag n off ds ks vs k = some r) : ∃ v, vbPart ag n off ds ks vs = some v ∧ k v = some r := by
  unfold vbPartK at h
  unfold vbPart
  split at h
  · rename_i hag
    obtain ⟨h1, h2⟩ := sif_some h
    rw [if_pos hag]
    exact ⟨_, if_pos h1, h2⟩
  · rename_i hag
    obtain ⟨h1, h2⟩ := sif_some h
    rw [if_neg hag, if_pos h1]
    split at h2
    · rename_i e; rw [e]; exact ⟨_, rfl, h2⟩
    · rename_i e; rw [e]
      obtain ⟨d, h3, h4⟩ := getK_some h2
      exact ⟨.d d, by simp [h3], decT_some (f := fun d => k (.d d)) h4⟩
theorem loadK_some {P : Program} {L : Loc} {t : TypeId} {p : V} {k : V → Option R} (h : loadK P L t p k = some r) : ∃ v, aload P L t p = some v ∧ k v = some r := by
  unfold loadK at h
  unfold aload
  split at h
  · rename_i ag n h1 h2
    rw [h1, h2]
    dsimp only
    split at h
    · obtain ⟨hc, hk⟩ := sif3_some (decT_some h)
      exact ⟨_, by simp [hc], hk⟩
    · exact loadTK_some h
    · split at h
      · rename_i e
        obtain ⟨d, h3, h4⟩ := partK_some h
        exact ⟨_, by simp [e, h3], decT_some (f := fun d => k (.d d)) h4⟩
      · rename_i e
        obtain ⟨d, h3, h4⟩ := partK_some h
        exact ⟨_, by simp [e, h3], decT_some (f := fun d => k (.d d)) h4⟩
      · rename_i e
        obtain ⟨v, h3, h4⟩ := vbPartK_some h
        exact ⟨v, by simp [e, h3], h4⟩
      · cases h
    · split at h
      · rename_i e
        obtain ⟨x, h3, h4⟩ := getK_some h
        obtain ⟨d, h5, h6⟩ := eltK_some h4
        exact ⟨_, by simp [e, h3, h5], h6⟩
      · cases h
    · obtain ⟨els, h3, h4⟩ := rowK_some h
      obtain ⟨x, h5, h6⟩ := getK_some h4
      obtain ⟨d, h7, h8⟩ := eltK_some h6
      exact ⟨_, by simp [h3, h5, h7], h8⟩
    · cases h
  · cases h

theorem eltSet_cell {ag : Bool} {n sz off : Nat} {e v : D} (hx : ∀ xs, v = .agg xs → False) (hc : ag = false ∧ n = 1 ∧ v.cell = true) :
    eltSet ag n sz off e v = (match e with
      | .agg cs => if off < cs.length then some (.agg (cs.set off v)) else none
      | _ => if off = 0 ∧ sz = 1 then some v else none) := by
  unfold eltSet
  cases v <;> first | exact (hx _ rfl).elim | (dsimp only; rw [if_pos hc]; cases e <;> rfl)
theorem eltSetK_some {ag : Bool} {n sz off : Nat} {e v : D} {k : D → Option R} (h : eltSetK ag n sz off e v k = some r) : ∃ y, eltSet ag n sz off e v = some y ∧ k y = some r := by
  unfold eltSetK at h
  split at h
  · obtain ⟨hc, hk⟩ := sif4_some h
    exact ⟨_, by unfold eltSet; exact if_pos hc, hk⟩
  · rename_i x hx
    obtain ⟨hc, hk⟩ := sif3_some h
    rw [eltSet_cell hx hc]
    split at hk
    · rename_i hsz
      obtain ⟨hc2, hk2⟩ := sif2_some hk
      refine ⟨_, ?_, hk2⟩
      cases e <;> first | (exfalso; have := hc2.1; simp [D.isAgg] at this; done) | (dsimp only; rw [if_pos ⟨hc2.2, hsz⟩])
    · obtain ⟨cs, e2, h5⟩ := asAgg_some hk
      subst e2
      obtain ⟨h6, h7⟩ := sif_some h5
      exact ⟨_, by dsimp only; rw [if_pos h6], h7⟩

theorem storeTK_some {P : Program} {L : Loc} {q i off n : Nat} {ag fl : Bool} {v : V} {k : Out → Option R} (h : storeTK P L q i off n ag fl v k = some r) : ∃ out, storeT L q i off n ag fl v = some out ∧ k out = some r := by
  unfold storeTK at h
  unfold storeT
  split at h
  · rename_i T e
    rw [e]
    obtain ⟨cs, h1, h20⟩ := getK_some h
    obtain ⟨h0, h2⟩ := sif_some h20
    clear h h20
    dsimp only
    rw [h1]
    dsimp only
    rw [if_pos h0]
    split at h2
    · rename_i hfl
      rw [if_pos hfl]
      split at h2
      · obtain ⟨hc, hk⟩ := sif4_some h2
        have hk := letT_some hk
        exact ⟨_, by dsimp only; exact if_pos hc, hk⟩
      · rename_i x hx
        obtain ⟨hc, hk⟩ := sif4_some h2
        have hk := letT_some hk
        refine ⟨_, ?_, hk⟩
        cases x <;> first | exact (hx _ rfl).elim | (dsimp only; exact if_pos hc)
      · cases h2
    · rename_i hfl
      rw [if_neg hfl]
      split at h2
      · rename_i hag
        rw [if_pos hag]
        split at h2
        · obtain ⟨hc, hk⟩ := sif2_some h2
          have hk := letT_some hk
          exact ⟨_, by dsimp only; exact if_pos hc, hk⟩
        · obtain ⟨xs, w, h3, h4⟩ := cellD1sK_some h2
          obtain ⟨hc, hk⟩ := sif4_some h4
          have hk := letT_some hk
          exact ⟨_, by dsimp only; rw [h3]; dsimp only [Option.bind_some]; exact if_pos hc, hk⟩
        · cases h2
      · rename_i hag
        rw [if_neg hag]
        obtain ⟨x, w, h3, h4⟩ := cellD1K_some h2
        split at h4
        · rename_i hn
          have hk := letT_some h4
          exact ⟨_, by rw [h3]; dsimp only [Option.bind_some]; exact if_pos hn, hk⟩
        · cases h4
  · cases h

theorem storeK_some {P : Program} {L : Loc} {t : TypeId} {p v : V} {k : Out → Option R} (h : storeK P L t p v k = some r) :
    ∃ out, astore P L t p v = some out ∧ k out = some r := by
  unfold storeK at h
  split at h
  · rename_i ag n h1 h2
    unfold astore
    rw [h1, h2]
    dsimp only
    split at h
    · rename_i g l off
      dsimp only
      split at h
      · rename_i a ds e
        rw [e]
        dsimp only
        split at h
        · obtain ⟨hc, hk⟩ := sif3_some h
          exact ⟨_, by dsimp only; rw [if_pos hc], by rw [spl_eq hc.2.1] at hk; exact hk⟩
        · obtain ⟨hc, hk⟩ := sif4_some h
          exact ⟨_, by dsimp only; rw [if_pos hc], hk⟩
        · rename_i x hx
          obtain ⟨hc, hk⟩ := sif4_some h
          refine ⟨_, ?_, hk⟩
          cases x <;> first | exact (hx _ rfl).elim | (dsimp only; rw [if_pos hc])
        · rename_i hn1 hn2 hn3
          obtain ⟨hc, hk⟩ := sif4_some h
          refine ⟨_, ?_, hk⟩
          cases v <;> first | exact (hn3 _ rfl).elim | exact (hn2 _ _ _ rfl).elim | (dsimp only; rw [if_pos hc])
      · rename_i a ds ks vs e
        rw [e]
        dsimp only
        split at h
        · obtain ⟨hc, hk⟩ := sif3_some h
          exact ⟨_, by dsimp only; rw [if_pos hc], hk⟩
        · obtain ⟨hc, hk⟩ := sif4_some h
          exact ⟨_, by dsimp only; rw [if_pos hc], hk⟩
        · rename_i x hx
          obtain ⟨hc, hk⟩ := sif4_some h
          refine ⟨_, ?_, hk⟩
          cases x <;> first | exact (hx _ rfl).elim | (dsimp only; rw [if_pos hc])
        · rename_i hn1 hn2 hn3
          obtain ⟨hc, hk⟩ := sif4_some h
          refine ⟨_, ?_, hk⟩
          cases v <;> first | exact (hn3 _ rfl).elim | exact (hn2 _ _ _ rfl).elim | (dsimp only; rw [if_pos hc])
      · cases h
    · rename_i g l i off
      dsimp only
      split at h
      · rename_i sz els e
        rw [e]
        dsimp only
        obtain ⟨d, h3, h4⟩ := getK_some h
        rw [h3]
        dsimp only [Option.bind_some]
        split at h4
        · obtain ⟨y, h5, h6⟩ := eltSetK_some h4
          exact ⟨_, by dsimp only; rw [h5]; rfl, h6⟩
        · rename_i hn
          obtain ⟨x, w, h5, h6⟩ := toDK_some h4
          split at h6
          · cases h6
          · rename_i hg
            obtain ⟨y, h7, h8⟩ := eltSetK_some h6
            refine ⟨_, ?_, h8⟩
            have : ((toD L v).bind fun r => if g ∈ r.2.map (·.1) then none else (eltSet ag n sz off d r.1).map fun y => ({ v := .d (.tup []), wr := r.2 ++ [(g, (l, .arr sz (els.set i y) true))] } : Out)) = some { v := .d (.tup []), wr := w ++ [(g, (l, .arr sz (els.set i y) true))] } := by
              rw [h5]; dsimp only [Option.bind_some]; rw [if_neg hg, h7]; rfl
            cases v <;> first | exact (hn _ rfl).elim | exact this
      · cases h
    · rename_i q l i o j off
      dsimp only
      split at h
      · rename_i x T e
        obtain ⟨els, h3, h4⟩ := rowK_some h
        obtain ⟨d, h5, h6⟩ := getK_some h4
        obtain ⟨y, h7, h8⟩ := eltSetK_some h6
        obtain ⟨h9, h10⟩ := sif_some h8
        have hk := letT_some h10
        exact ⟨_, by rw [e, h3]; dsimp only; rw [h5]; dsimp only [Option.bind_some]; rw [h7]; dsimp only [Option.bind_some]; rw [if_pos h9], hk⟩
      · cases h
    · exact storeTK_some h
    · cases h
  · cases h
end
end Wf

/-
  .. and the rest of the operations.
-/
namespace Wf
open Go Go.RowKit
set_option linter.unusedVariables false
set_option linter.unusedSimpArgs false

section
variable {R : Type} {r : R}

theorem appendK_some {P : Program} {L : Loc} {t : Nat} {ty : TypeId} {s x : V} {k : Out → Option R} (h : appendK P L t ty s x k = some r) :
    ∃ out, aappend P L t ty s x = some out ∧ k out = some r := by
  unfold appendK at h
  obtain ⟨xs, h1, h2⟩ := elsK_some h
  unfold aappend
  rw [h1]
  dsimp only
  split at h2
  · cases h2
  · rename_i sz h3
    split at h2
    · obtain ⟨hc, hk⟩ := sif2_some h2
      exact ⟨_, by dsimp only; rw [appendTy_le h3 (by simpa using hc.1)]; simp [hc.2], hk⟩
    · obtain ⟨hc, hk⟩ := sif2_some h2
      exact ⟨_, by dsimp only; rw [appendTy_le h3 (by simpa using hc.1)]; simp [hc.2], hk⟩
    · rename_i y l
      obtain ⟨hc, hk⟩ := sif4_some h2
      refine ⟨_, ?_, hk⟩
      cases xs with
      | nil => exact absurd rfl hc.1
      | cons x0 xs =>
        dsimp only
        rw [appendTy_le h3 (by simpa using hc.2.1)]
        simp [hc.2.2.1, hc.2.2.2]
    · rename_i g n off len
      split at h2
      · rename_i sz' els e
        split at h2
        · rename_i hg
          obtain ⟨hc, hk⟩ := sif4_some h2
          refine ⟨_, ?_, hk⟩
          dsimp only
          rw [e, appendTy_le h3 (by simpa using hc.1)]
          simp [hc.2, hg]
        · cases h2
      · cases h2
    · rename_i q n i o lo len
      split at h2
      · rename_i T e
        obtain ⟨els, h4, h5⟩ := rowK_some h2
        obtain ⟨hc, h6⟩ := sif4_some h5
        have hk := letT_some h6
        refine ⟨_, ?_, hk⟩
        dsimp only
        simp only [e, h4]
        rw [appendTy_le h3 (by simpa using hc.1)]
        exact if_pos hc.2
      · cases h2
    · cases h2

theorem srcK_some {P : Program} {L : Loc} {ty2 : TypeId} {x : V} {k : List D → Option R} (h : srcK P L ty2 x k = some r) : ∃ l, srcOf P L ty2 x = some l ∧ k l = some r := by
  unfold srcK at h
  split at h
  · rename_i e
    exact ⟨_, by simp only [srcOf, e, if_true], h⟩
  · cases h
  · rename_i e
    obtain ⟨l, h1, h2⟩ := elsK_some h
    refine ⟨l, ?_, h2⟩
    unfold srcOf
    split
    · cases h1
    · rw [if_neg (by rw [e]; simp)]; exact h1
theorem copyK_some {P : Program} {L : Loc} {ty ty2 : TypeId} {s x : V} {k : Out → Option R} (h : copyK P L ty ty2 s x k = some r) :
    ∃ out, acopy P L ty ty2 s x = some out ∧ k out = some r := by
  unfold copyK at h
  split at h
  · rename_i g n off len ez h1
    split at h
    · rename_i sz els e
      obtain ⟨xs, h2, h3⟩ := srcK_some h
      obtain ⟨hc, hk⟩ := sif4_some h3
      exact ⟨_, by unfold acopy; rw [h1, h2]; dsimp only; rw [e]; exact if_pos hc, hk⟩
    · cases h
  · rename_i g n off len ez h1
    split at h
    · rename_i a ds e
      obtain ⟨xs, h2, h3⟩ := srcK_some h
      obtain ⟨⟨c1, c2, c3, c4⟩, hk⟩ := sif4_some h3
      refine ⟨_, by unfold acopy; rw [h1, h2]; dsimp only; rw [e]; exact if_pos ⟨c1, c2, c3⟩, ?_⟩
      subst c4
      simpa using hk
    · cases h
  · cases h

theorem rowOk_spec {sz : Nat} {l : List D} (h : rowOk sz l = true) : (l.all fun d => d.cell || d.isAgg) = true ∧ (l.all fun d => some d.width = some sz) = true := by
  simp only [rowOk, List.all_eq_true, Bool.and_eq_true, decide_eq_true_eq] at *
  exact ⟨fun x hx => (h x hx).1, fun x hx => by rw [(h x hx).2]⟩

theorem sliceK_some {P : Program} {L : Loc} {t : TypeId} {x : V} {lo hi mx : Option V} {k : V → Option R} (h : sliceK P L t x lo hi mx k = some r) :
    ∃ v, aslice P L t x lo hi mx = some v ∧ k v = some r := by
  unfold sliceK at h
  unfold aslice
  split at h
  · rename_i lo' hi' mx' h1 h2 h3
    rw [h1, h2, h3]
    dsimp only
    split at h
    · dsimp only at h
      split at h
      · rename_i sz hsz
        obtain ⟨hc, hk⟩ := sif6_some h
        obtain ⟨c2, c3, c4, c5, c6, c7⟩ := hc
        obtain ⟨q1, q2⟩ := rowOk_spec c7
        exact ⟨_, by dsimp only; rw [if_pos ⟨by rw [hsz]; rfl, c2, c3, c4, c5, c6, q1, by rw [hsz]; exact q2⟩]; rfl, hk⟩
      · cases h
    · obtain ⟨hc, hk⟩ := sif5_some h
      exact ⟨_, by dsimp only; rw [if_pos hc], hk⟩
    · rename_i g n off len
      dsimp only at h ⊢
      split at h
      · rename_i sz sz' els lv e1 e2
        rw [e1, e2]
        dsimp only
        split at h
        · rename_i hsz
          split at h
          · obtain ⟨hc, hk⟩ := sif3_some h
            exact ⟨_, by rw [if_pos ⟨hsz, hc.1, hc.2.1, hc.2.2, .inl rfl⟩, if_pos rfl], hk⟩
          · rename_i m
            obtain ⟨hc, hk⟩ := sif5_some h
            obtain ⟨c1, c2, c3, c4, c5⟩ := hc
            exact ⟨_, by rw [if_pos ⟨hsz, c4, by rw [c3]; exact Int.le_refl _, c5, .inr ⟨c1, by rw [c2], c3⟩⟩, if_neg (by simp)], hk⟩
        · cases h
      · cases h
    · rename_i g n off len
      dsimp only at h ⊢
      split at h
      · rename_i sz a ds m e1 e2
        rw [e1, e2]
        dsimp only
        split at h
        · rename_i hsz
          obtain ⟨hc, hk⟩ := sif6_some h
          obtain ⟨c1, c2, c3, c4, c5, c6⟩ := hc
          exact ⟨_, by rw [if_pos ⟨hsz, c1, c5, by rw [c4]; exact Int.le_refl _, c6, c2, by rw [c3], c4⟩], hk⟩
        · cases h
      · cases h
    · rename_i q n i o off len
      dsimp only at h ⊢
      split at h
      · rename_i sz e1
        rw [e1]
        split at h
        · rename_i hsz
          obtain ⟨l, e2, h4⟩ := rowK_some h
          obtain ⟨h5, h6⟩ := sif_some h4
          rw [e2]
          dsimp only
          split at h6
          · obtain ⟨hc, hk⟩ := sif3_some h6
            exact ⟨_, by rw [if_pos ⟨hsz, h5, hc.1, hc.2.1, hc.2.2, .inl rfl⟩, if_pos rfl], hk⟩
          · rename_i m
            obtain ⟨hc, hk⟩ := sif5_some h6
            obtain ⟨c1, c2, c3, c4, c5⟩ := hc
            exact ⟨_, by rw [if_pos ⟨hsz, h5, c4, by rw [c3]; exact Int.le_refl _, c5, .inr ⟨c1, by rw [c2], c3⟩⟩, if_neg (by simp)], hk⟩
        · cases h
      · cases h
    · rename_i g n off
      dsimp only at h ⊢
      split at h
      · rename_i q sz ag a' ds e1 e2
        rw [e1, e2]
        obtain ⟨hc, hk⟩ := sif7_some h
        exact ⟨_, if_pos hc, hk⟩
      · cases h
    · cases h
  · cases h

theorem indexAddrK_some {P : Program} {L : Loc} {t : TypeId} {x i : V} {k : V → Option R} (h : indexAddrK P L t x i k = some r) :
    ∃ v, aindexAddr P L t x i = some v ∧ k v = some r := by
  unfold indexAddrK at h
  split at h
  · rename_i q n
    unfold aindexAddr
    dsimp only
    split at h
    · split at h
      · rename_i sz e h1 h2
        obtain ⟨h0, h3⟩ := sif_some h
        obtain ⟨d, h4, h5⟩ := getK_some h3
        obtain ⟨hc, hk⟩ := sif2_some (decT_some h5)
        exact ⟨_, by rw [if_neg (by omega)]; dsimp only; rw [h1, h4]; dsimp only; rw [if_pos hc], hk⟩
      · cases h
    · split at h
      · rename_i sz sz' els lv h1 h2
        split at h
        · rename_i hsz
          obtain ⟨hc, hk⟩ := sif2_some h
          exact ⟨_, by rw [if_neg (by omega)]; dsimp only; rw [h1, h2]; dsimp only; rw [if_pos ⟨hc.2, hsz⟩], hk⟩
        · cases h
      · cases h
    · split at h
      · rename_i sz h1
        split at h
        · rename_i hsz
          obtain ⟨els, h2, h3⟩ := rowK_some h
          obtain ⟨hc, hk⟩ := sif2_some h3
          exact ⟨_, by rw [if_neg (by omega)]; dsimp only; rw [h1, h2]; dsimp only; rw [if_pos ⟨hc.2, hsz⟩], hk⟩
        · cases h
      · cases h
    · split at h
      · rename_i sz h1
        obtain ⟨hc, hk⟩ := sif3_some h
        exact ⟨_, by rw [if_neg (by omega)]; dsimp only; rw [h1]; dsimp only; rw [if_pos ⟨hc.1, hc.2.2⟩], hk⟩
      · cases h
    · split at h
      · rename_i m sz ag h1
        obtain ⟨hc, hk⟩ := sif2_some h
        exact ⟨_, by rw [if_neg (by omega)]; dsimp only; rw [h1]; dsimp only; rw [if_pos hc.2], hk⟩
      · cases h
    · split at h
      · rename_i m sz ag h1
        obtain ⟨hc, h2⟩ := sif2_some h
        obtain ⟨d, h3, hk⟩ := partK_some h2
        exact ⟨_, by rw [if_neg (by omega)]; dsimp only; rw [h1]; dsimp only; rw [if_pos hc.2, h3]; rfl, hk⟩
      · cases h
    · split at h
      · rename_i m sz ag h1
        obtain ⟨hc, hk⟩ := sif2_some h
        exact ⟨_, by rw [if_neg (by omega)]; dsimp only; rw [h1]; dsimp only; rw [if_pos hc.2], hk⟩
      · cases h
    · split at h
      · rename_i m sz ag h1
        obtain ⟨hc, hk⟩ := sif2_some h
        exact ⟨_, by rw [if_neg (by omega)]; dsimp only; rw [h1]; dsimp only; rw [if_pos hc.2], hk⟩
      · cases h
    · split at h
      · rename_i m sz ag h1
        obtain ⟨hc, hk⟩ := sif2_some h
        exact ⟨_, by rw [if_neg (by omega)]; dsimp only; rw [h1]; dsimp only; rw [if_pos hc.2], hk⟩
      · cases h
    · cases h
  · cases h

theorem letD_some {d : D} {k : D → Option R} (h : letD d k = some r) : k d = some r := by
  cases d with
  | int q n =>
    have h : letN n (fun n => k (.int q n)) = some r := h
    rw [letN_eq] at h; exact h
  | _ => exact h
theorem binK_some {bt : Bool} {op : BinOp} {a b : D} {k : D → Option R} (h : binK bt op a b k = some r) : ∃ d, abin bt op a b = some d ∧ k d = some r := by
  unfold binK at h
  split at h
  · split at h
    · rename_i e; subst e
      obtain ⟨h0, h1⟩ := sif_some h
      simp only [letN_eq] at h1
      exact ⟨_, by simp [abin, ibin, h0], h1⟩
    · cases h
  · split at h
    · rename_i e; subst e
      obtain ⟨h0, h1⟩ := sif_some h
      simp only [letN_eq] at h1
      exact ⟨_, by simp [abin, ibin, h0], h1⟩
    · cases h
  · obtain ⟨h0, h1⟩ := sif_some h
    rw [letN_eq] at h1
    exact ⟨_, by simp [abin, ishift, Int.not_lt.2 h0], h1⟩
  · obtain ⟨h0, h1⟩ := sif_some h
    rw [letN_eq] at h1
    exact ⟨_, by simp [abin, ishift, Int.not_lt.2 h0], h1⟩
  · split at h
    · exact ⟨_, by assumption, letD_some h⟩
    · cases h

theorem brK_some {b : Bool} {x y : Option R} (h : brK b x y = some r) : (b = true ∧ x = some r) ∨ (b = false ∧ y = some r) := by
  cases b
  · exact .inr ⟨rfl, h⟩
  · exact .inl ⟨rfl, h⟩
theorem nilTK_some {L : Loc} {q : Nat} {a : V} {k : Bool → Option R} (h : nilTK L q a k = some r) : ∃ b, isNil L q a = some b ∧ k b = some r := by
  unfold nilTK at h
  split at h
  · rcases asNil_some h with ⟨e, hk⟩ | ⟨⟨_, _, _, e⟩ | ⟨_, e⟩, hk⟩ <;> subst e <;> exact ⟨_, rfl, hk⟩
  · rcases asNil_some h with ⟨e, hk⟩ | ⟨⟨_, _, _, e⟩ | ⟨_, e⟩, hk⟩ <;> subst e
    · exact ⟨_, rfl, hk⟩
    · exact ⟨_, rfl, hk⟩
    · exact ⟨_, rfl, hk⟩
  · rcases asNilm_some h with ⟨e, hk⟩ | ⟨⟨_, _, _, e⟩, hk⟩ <;> subst e <;> exact ⟨_, rfl, hk⟩
  · rcases brK_some h with ⟨e, h1⟩ | ⟨e, h1⟩
    · rename_i t l
      cases l with
      | cons _ _ => cases e
      | nil =>
        split at h1
        · rename_i ht; subst ht; exact ⟨_, rfl, h1⟩
        · split at h1
          · rename_i ht; subst ht; exact ⟨_, rfl, h1⟩
          · obtain ⟨h2, h3⟩ := sif_some h1
            subst h2; exact ⟨_, rfl, h3⟩
    · rename_i t l
      cases l with
      | nil => cases e
      | cons _ _ => exact ⟨_, rfl, h1⟩
  · obtain ⟨h1, h2⟩ := okRefK_some h
    obtain ⟨h3, h4⟩ := sif_some h2
    exact ⟨_, by simp only [isNil]; simp [h1, h3], h4⟩
  · obtain ⟨h1, h2⟩ := okRefK_some h
    obtain ⟨h3, h4⟩ := sif_some h2
    exact ⟨_, by simp only [isNil]; simp [h1, h3], h4⟩
  · split at h
    · rename_i b e; exact ⟨b, e, h⟩
    · cases h

theorem dataK_some {d : D} {k : V → Wr → Option R} (h : dataK d k = some r) : k (.d d) [] = some r ∧ (∀ l, d ≠ .tup l) ∧ ∀ l, d ≠ .sl .own l := by
  obtain ⟨h1, h2⟩ := sif_some h
  refine ⟨h2, ?_, ?_⟩
  · rintro l rfl; cases h1
  · rintro l rfl; cases h1
theorem adoptK1_some {P : Program} {L : Loc} {id sz : Nat} {t : TypeId} {d : D} {k : V → Wr → Option R} (h : adoptK1 P L id sz t d k = some r) : k (adopt1 L id sz d).1 (adopt1 L id sz d).2 = some r ∧ ∀ l, d ≠ .tup l := by
  unfold adoptK1 at h
  split at h
  · obtain ⟨h1, h2, h3⟩ := dataK_some (decT_some (f := fun d => dataK d k) h)
    refine ⟨?_, h2⟩
    have : adopt1 L id sz d = (.d d, []) := by
      unfold adopt1
      split
      · exact (h3 _ rfl).elim
      · rfl
    rw [this]; exact h1
  · obtain ⟨els, e, h⟩ := asOwn_some h
    subst e; exact ⟨h, by simp⟩
theorem tupN_some {n : Nat} {l : List D} {k : List D → Option R} (h : tupN n l k = some r) : k l = some r := by
  obtain ⟨x, e, h⟩ := getCells_some h
  rw [e]; exact h
theorem adoptKL_some {P : Program} {L : Loc} {t : Nat} : ∀ {szs : List Nat} {j : Nat} {tys : List TypeId} {ds : List D} {k : List V → Wr → Option R}, adoptKL P L t j szs tys ds k = some r →
    k (adoptL L t j szs ds).1 (adoptL L t j szs ds).2 = some r
  | [], j, [], [], k, h => h
  | [], j, _ :: _, _, k, h => by cases h
  | [], j, [], _ :: _, k, h => by cases h
  | _ :: _, j, [], _, k, h => by cases h
  | _ :: _, j, _ :: _, [], k, h => by cases h
  | sz :: szs, j, ty :: tys, d :: ds, k, h => by
    have h2 := (adoptK1_some (k := fun v w => adoptKL P L t (j + 1) szs tys ds fun vs ws => k (v :: vs) (w ++ ws)) h).1
    exact adoptKL_some (k := fun vs ws => k ((adopt1 L (t + 1000 * (j + 1)) sz d).1 :: vs) ((adopt1 L (t + 1000 * (j + 1)) sz d).2 ++ ws)) h2
theorem adoptK_some {P : Program} {L : Loc} {t : Nat} {szs : List Nat} {ty : TypeId} {d : D} {k : V → Wr → Option R} (h : adoptK P L t szs ty d k = some r) :
    ∃ x, adopt L t szs d = some x ∧ k x.1 x.2 = some r := by
  unfold adoptK at h
  split at h
  · obtain ⟨h, hd⟩ := adoptK1_some h
    refine ⟨_, ?_, h⟩
    unfold adopt
    cases d <;> first | rfl | exact absurd rfl (hd _)
  · obtain ⟨ds, e, h2⟩ := asTup_some h
    subst e
    obtain ⟨e, h3⟩ := nilK_some h2
    subst e
    exact ⟨_, rfl, h3⟩
  · split at h
    · obtain ⟨ds, e, h2⟩ := asTup_some h
      subst e
      have h := tupN_some h2
      split at h
      · rename_i hc
        have h := adoptKL_some (k := fun vs w => k (.tup vs) w) h
        exact ⟨_, by simp only [adopt]; rw [if_pos hc], h⟩
      · cases h
    · cases h

theorem give1K_some {nw : List Nat} {L : Loc} {pm : PM × Nat} {v : V} {k : D → List (Nat × Nat × Nat × Nat) → Wr → Option R} (h : give1K nw L pm v k = some r) : ∃ x, give1 nw L pm v = some x ∧ k x.1 x.2.1 x.2.2 = some r := by
  unfold give1K at h
  unfold give1
  split at h
  · obtain ⟨d, h1, h2⟩ := lendK_some h
    exact ⟨_, by simp only [h1]; rfl, h2⟩
  · dsimp only
    split at h
    · rename_i g n off len
      dsimp only
      split at h
      · rename_i sz' els e
        split at h
        · rename_i hc0
          obtain ⟨hc, hk⟩ := sif2_some h
          exact ⟨_, by simp only [e]; exact if_pos ⟨hc.1, hc0.1, hc0.2, hc.2⟩, hk⟩
        · cases h
      · cases h
    · exact ⟨_, rfl, h⟩
    · exact ⟨_, rfl, h⟩
    · cases h
  · dsimp only
    split at h
    · rename_i g n off len
      dsimp only
      split at h
      · rename_i sz' els e
        split at h
        · rename_i hc0
          obtain ⟨hc, hk⟩ := sif2_some h
          exact ⟨_, by simp only [e]; exact if_pos ⟨hc.1, hc0.1, hc0.2, hc.2⟩, hk⟩
        · cases h
      · cases h
    · cases h
theorem giveLK_some {nw : List Nat} {L : Loc} : ∀ {vs : List V} {pms : List (PM × Nat)} {k : List D → List (Nat × Nat × Nat × Nat) → Wr → Option R}, giveLK nw L pms vs k = some r → ∃ x, giveL nw L pms vs = some x ∧ k x.1 x.2.1 x.2.2 = some r
  | [], pms, k, h => ⟨([], [], []), rfl, h⟩
  | v :: vs, pms, k, h => by
    obtain ⟨x, h1, h2⟩ := give1K_some h
    obtain ⟨y, h3, h4⟩ := giveLK_some (k := fun ds ms ws => k (x.1 :: ds) (x.2.1 ++ ms) (x.2.2 ++ ws)) h2
    exact ⟨_, by rw [giveL, h1]; dsimp only [Option.bind_some]; rw [h3]; rfl, h4⟩
theorem outsK_some : ∀ {ms : List (Nat × Nat × Nat × Nat)} {os : List (List D)} {k : Wr → Option R}, outsK ms os k = some r → ∃ w, wrOuts ms os = some w ∧ k w = some r
  | [], os, k, h => by
    obtain ⟨e, h⟩ := nilK_some h
    subst e; exact ⟨_, rfl, h⟩
  | (g, n, sz, len) :: ms, os, k, h => by
    obtain ⟨els, os', e, h1⟩ := consK_some h
    subst e
    obtain ⟨h2, h3⟩ := sif_some h1
    obtain ⟨w, h4, h5⟩ := outsK_some (k := fun w => k ((g, (n, .arr sz els true)) :: w)) h3
    exact ⟨_, by rw [wrOuts, if_pos h2, h4]; rfl, h5⟩

theorem callK_some {P : Program} {Γ : Env} {L : Loc} {t : Nat} {ty : TypeId} {f : V} {args : List V} {k : Out → Option R} (h : callK P Γ L t ty f args k = some r) :
    ∃ out, acall Γ L t f args = some out ∧ k out = some r := by
  unfold callK at h
  unfold acall
  split at h
  · rename_i q a b e
    rw [e]
    dsimp only
    split at h
    · rename_i szs F e2
      rw [e2]
      obtain ⟨ds, h1, h2⟩ := lendsK_some h
      dsimp only
      rw [h1]
      obtain ⟨x, h3, h4⟩ := bindK_some h2
      obtain ⟨y, h5, h6⟩ := adoptK_some h4
      exact ⟨_, by dsimp only [Option.bind_some]; rw [h3]; dsimp only [Option.bind_some]; rw [h5]; rfl, h6⟩
    · rename_i pms szs ks F e2
      rw [e2]
      obtain ⟨⟨ds, ms, kl⟩, h1, h2⟩ := giveLK_some h
      dsimp only at h2 ⊢
      rw [h1]
      split at h2
      · rename_i Ts e3
        rw [e3]
        dsimp only
        split at h2
        · rename_i hc
          obtain ⟨x, h3, h4⟩ := bindK_some h2
          obtain ⟨wo, h5, h6⟩ := outsK_some h4
          obtain ⟨h7, h8⟩ := tellK_some h6
          obtain ⟨y, h9, h10⟩ := adoptK_some h8
          refine ⟨_, ?_, h10⟩
          rw [if_pos hc, h3]
          dsimp only [Option.bind_some]
          rw [h5]
          dsimp only [Option.bind_some]
          rw [if_pos h7, h9]
          rfl
        · cases h2
      · cases h2
    · cases h
  · cases h

theorem fieldK_some {P : Program} {s f : Nat} {x : V} {k : V → Option R} (h : fieldK P s f x k = some r) :
    ∃ v, (match x, tyFld P s f, tyFldAgg P s f with
    | .d (.agg cs), some (off, size), some ag => out ((partD ag size off cs).map .d)
    | .agg ds ks vs, some (off, size), some ag => out (vbPart ag size off ds ks vs)
    | _, _, _ => none) = some v ∧ k v.v = some r ∧ v = { v := v.v } := by
  unfold fieldK at h
  split at h
  · rename_i h1 h2
    obtain ⟨d, h3, h4⟩ := partK_some h
    exact ⟨{ v := .d d }, by simp [h1, h2, h3, out], h4, rfl⟩
  · rename_i h1 h2
    try rw [h1, h2]
    try dsimp only
    unfold vbPart
    split at h
    · rename_i hag
      obtain ⟨h3, h4⟩ := sif_some h
      rw [if_pos hag, if_pos h3]
      exact ⟨_, rfl, h4, rfl⟩
    · rename_i hag
      obtain ⟨h3, h4⟩ := sif_some h
      rw [if_neg hag, if_pos h3]
      split at h4
      · rename_i e; rw [e]; exact ⟨_, rfl, h4, rfl⟩
      · rename_i e; rw [e]
        obtain ⟨d, h5, h6⟩ := getK_some h4
        exact ⟨{ v := .d d }, by simp [h5, out], h6, rfl⟩
  · cases h

theorem mapUpK_some {P : Program} {L : Loc} {ty : TypeId} {m kx v : V} {k : Out → Option R}
    (h : (match tyMap P ty with
    | some (kk, _) => match m, keyOf kk kx with
      | .map g l, some n => match L.get g l with
        | .map kk' es => if kk' = kk then toDK L v fun x w => if g ∈ w.map (·.1) then none else k { v := .d (.tup []), wr := w ++ [(g, (l, .map kk (setD n x es)))] } else none
        | _ => none
      | .vmap q l i o, some n => match v, tabOf L q with
        | .d x, some (true, T) => mapRowK L kk q l i o fun es => sif (x.flatEl = true) (letT (setT T i o (.mp .own kk (setD n x es))) fun T' => k { v := .d (.tup []), wr := [(tb q, (l, .tbl true T'))] })
        | _, _ => none
      | _, _ => none
    | none => none) = some r) : ∃ out, amapUpdate P L ty m kx v = some out ∧ k out = some r := by
  unfold amapUpdate
  split at h
  · rename_i kk et e
    rw [e]
    split at h
    · rename_i g l n e2
      dsimp only
      split at h
      · rename_i kk' es e3
        split at h
        · rename_i hk
          subst hk
          obtain ⟨x, w, h1, h2⟩ := toDK_some h
          split at h2
          · cases h2
          · rename_i hg
            refine ⟨_, ?_, h2⟩
            rw [e3, h1, e2]
            dsimp only
            exact if_pos ⟨rfl, hg⟩
        · cases h
      · cases h
    · rename_i q l i o n e2
      dsimp only
      split at h
      · rename_i x T e3
        obtain ⟨es, h1, h2⟩ := mapRowK_some h
        obtain ⟨h3, h4⟩ := sif_some h2
        have hk := letT_some h4
        refine ⟨_, ?_, hk⟩
        rw [e3, h1, e2]
        dsimp only
        exact if_pos ⟨rfl, h3⟩
      · cases h
    · cases h
  · cases h

def binTail (P : Program) (L : Loc) (ty : TypeId) (op : BinOp) (a b : V) : Option Out :=
  match nilKind P ty with
  | some k => if nilConst k b = true then (match op with
    | .eql => out ((isNil L k a).map fun r => .d (.bool r))
    | .neq => out ((isNil L k a).map fun r => .d (.bool !r))
    | _ => none) else none
  | none => match a, b with
    | .d a, .d b => out ((abin (tyBool P ty) op a b).map .d)
    | _, _ => none
theorem bin_red {P : Program} {L : Loc} {ty : TypeId} {op : BinOp} {a b : V} {X : List D → List D → Option Out} : (∀ cs cs', a = .d (.agg cs) → b = .d (.agg cs') → False) →
    (match a, b with
    | .d (.agg a), .d (.agg b) => X a b
    | a, b => binTail P L ty op a b) = binTail P L ty op a b := by
  intro hne
  split
  · exact (hne _ _ rfl rfl).elim
  · rfl

theorem aopK0_some {P : Program} {Γ : Env} {o : Oper} {ρ : Operand → V} {L : Loc} {k : Out → Option R} (h : aopK0 P Γ o ρ L k = some r) :
    ∃ out, aop0 P Γ o ρ L = some out ∧ k out = some r := by
  unfold aopK0 at h
  dsimp only at h
  split at h
  · rename_i c a b e
    unfold aop0; rw [e]; dsimp only
    split at h
    · rename_i b' hb
      rw [hb]
      exact ⟨_, rfl, br_some h⟩
    · cases h
  · rename_i ty ps e
    split at h
    · exact dfl_some h
    · rename_i hd
      unfold aop0; rw [e]; dsimp only
      obtain ⟨h1, h2⟩ := okRefsK_some h
      unfold abuild
      split at h2
      · rename_i zs pl e1 e2
        rw [e1, e2]
        dsimp only
        rw [hd]
        dsimp only
        split at h2
        · rename_i x e3
          refine ⟨_, ?_, h2⟩
          have : ((ps.toList.map fun (i, x) => (i, (ρ x).unp)).all fun p => okRef L p.2) = true := by
            rw [List.all_map] at h1
            exact h1
          rw [if_pos this, e3]; rfl
        · cases h2
      · cases h2
  · rename_i ty n ps e
    unfold aop0; rw [e]; dsimp only
    obtain ⟨ds, w, h1, h2⟩ := toDsK_some h
    split at h2
    · rename_i sz h3
      obtain ⟨hc, hk⟩ := sif3_some h2
      exact ⟨_, by unfold abuildSlice; rw [h3, h1]; dsimp only; rw [if_pos hc], hk⟩
    · cases h2
  · rename_i ty x e
    split at h
    · exact dfl_some h
    · exact dfl_some h
    · rename_i hn1 hn2
      split at h
      · rename_i hone
        obtain ⟨h1, h2⟩ := okRefK_some h
        unfold aop0; rw [e]; dsimp only
        refine ⟨_, ?_, h2⟩
        generalize (ρ x).unp = v at *
        have hc : v.one = true ∧ okRef L v = true := ⟨hone, h1⟩
        cases v <;> first | exact (hn1 _ rfl).elim | exact (hn2 _ _ _ rfl).elim | (dsimp only; rw [if_pos hc])
      · cases h
  · rename_i ty a e
    unfold aop0; rw [e]; dsimp only
    obtain ⟨v, h1, h2⟩ := loadK_some h
    exact ⟨_, by rw [h1]; rfl, h2⟩
  · rename_i ty a x e
    unfold aop0; rw [e]; dsimp only
    obtain ⟨h1, h2⟩ := okRefK_some h
    rw [if_pos h1]
    exact storeK_some h2
  · rename_i op ty x y z e
    split at h
    · exact dfl_some h
    · rename_i hne
      have key : aop0 P Γ o ρ L = binTail P L ty op (ρ x) (ρ y) := by
        unfold aop0; rw [e]
        exact bin_red hne
      rw [key]
      unfold binTail
      split at h
      · rename_i q e1
        try rw [e1]
        try dsimp only
        split at h
        · rename_i hc
          rw [if_pos hc]
          split at h
          · obtain ⟨b, h1, h2⟩ := nilTK_some h
            exact ⟨_, by (try dsimp only); rw [h1]; rfl, h2⟩
          · obtain ⟨b, h1, h2⟩ := nilTK_some h
            exact ⟨_, by (try dsimp only); rw [h1]; rfl, h2⟩
          · cases h
        · cases h
      · rename_i e1
        try rw [e1]
        try dsimp only
        split at h
        · rename_i a b e2 e3
          try rw [e2, e3]
          obtain ⟨d, h1, h2⟩ := binK_some h
          exact ⟨_, by (try dsimp only); rw [h1]; rfl, h2⟩
        · cases h
  · rename_i src dst x e
    unfold aop0; rw [e]; dsimp only
    split at h
    · rename_i kk n e3
      rw [e3]
      split at h
      · rename_i s q e1 e2
        rw [letN_eq] at h
        exact ⟨_, by dsimp only; rw [e1, e2], h⟩
      · cases h
    · rename_i hni
      split at h
      · rename_i hc
        obtain ⟨l, h1, h2⟩ := elsK_some h
        obtain ⟨h3, h4⟩ := sif_some h2
        refine ⟨_, ?_, h4⟩
        split
        · rename_i e3; exact (hni _ _ e3).elim
        · rw [if_pos hc, h1]; exact if_pos h3
      · cases h
  · rename_i ty n c e
    unfold aop0; rw [e]; dsimp only
    unfold amakeSlice
    split at h
    · rename_i et n' c' e1 e2 e3
      rw [e1, e2, e3]
      dsimp only
      split at h
      · rename_i z sz i z1 z2 z3
        rw [z1, z2, z3]
        obtain ⟨hc, hk⟩ := sif6_some h
        exact ⟨_, by dsimp only; rw [if_pos hc], hk⟩
      · cases h
    · cases h
  · rename_i ty x lo hi mx e
    unfold aop0; rw [e]; dsimp only
    obtain ⟨v, h1, h2⟩ := sliceK_some h
    exact ⟨_, by rw [h1]; rfl, h2⟩
  · rename_i s x f e
    unfold aop0; rw [e]; dsimp only
    obtain ⟨h1, h2⟩ := okPtrK_some h
    obtain ⟨v, h3, h4⟩ := dflV_some h2
    rw [if_pos h1, h3]
    exact ⟨_, rfl, h4⟩
  · rename_i s x f e
    unfold aop0; rw [e]; dsimp only
    obtain ⟨v, h1, h2, h3⟩ := fieldK_some h
    refine ⟨v, h1, ?_⟩
    rw [h3]; exact h2
  · rename_i ty x i e
    unfold aop0; rw [e]; dsimp only
    obtain ⟨hp, h0⟩ := okPtrK_some h
    rw [if_pos hp]
    obtain ⟨v, h1, h2⟩ := indexAddrK_some h0
    exact ⟨_, by rw [h1]; rfl, h2⟩
  · rename_i ty x i e
    unfold aop0; rw [e]; dsimp only
    split at h
    · rename_i cs kk n e1 e2
      rw [e1, e2]
      dsimp only
      split at h
      · rename_i q sz ag e3
        rw [e3]
        obtain ⟨hc, h1⟩ := sif2_some h
        obtain ⟨d, h2, h3⟩ := partK_some h1
        exact ⟨_, by dsimp only; rw [if_pos hc, h2]; rfl, h3⟩
      · cases h
    · cases h
  · rename_i ty m x ok e
    unfold aop0; rw [e]; dsimp only
    unfold alookup
    split at h
    · rename_i kk et e1
      rw [e1]
      split at h
      · rename_i z n e5 e6
        obtain ⟨es, h1, h2⟩ := esK_some h
        rw [h1]
        dsimp only
        rw [e5, e6]
        dsimp only
        have h := decT_some h2
        simp only [lookD, hasD] at h
        rw [if_pos rfl]
        cases hf : findD n es with
        | some y => rw [hf] at h; exact ⟨_, rfl, h⟩
        | none => rw [hf] at h; exact ⟨_, rfl, h⟩
      · cases h
    · cases h
  · rename_i ty m kx v e
    have hred : aop0 P Γ o ρ L = amapUpdate P L ty (ρ m) (ρ kx) (ρ v).unp := by unfold aop0; rw [e]
    rw [hred]
    exact mapUpK_some h
  · rename_i ty m kx v e
    have hred : aop0 P Γ o ρ L = amapUpdate P L ty (ρ m) (ρ kx) (ρ v).unp := by unfold aop0; rw [e]
    rw [hred]
    exact mapUpK_some h
  · rename_i x e
    split at h
    · rename_i q y e1
      obtain ⟨i, h1, h2⟩ := asH_some h
      subst h1
      unfold aop0; rw [e]; dsimp only
      rw [e1]
      exact ⟨_, by dsimp only; rw [if_pos ⟨rfl, rfl⟩], h2⟩
    · rename_i g n i j e1
      obtain ⟨h1, h2⟩ := okPtrK_some h
      unfold aop0; rw [e]; dsimp only
      rw [e1]
      exact ⟨_, by dsimp only; rw [if_pos h1], h2⟩
    · rename_i e1
      obtain ⟨h1, h2⟩ := okPtrK_some h
      unfold aop0; rw [e]; dsimp only
      rw [e1]
      exact ⟨_, by dsimp only; rw [if_pos h1], h2⟩
    · exact dfl_some h
  · rename_i args argTypes _ e
    unfold aop0; rw [e]; dsimp only
    split at h
    · rename_i x ty e1 e2
      rw [e1, e2]
      dsimp only
      split at h
      · rename_i kk et e3
        obtain ⟨es, h1, h2⟩ := esK_some h
        refine ⟨_, ?_, h2⟩
        have : alen P L ty (ρ x) = some es.length := by
          have hs : (tyMap P ty).isSome = true := by rw [e3]; rfl
          generalize ρ x = v at *
          unfold alen
          split
          · cases h1
          · rw [if_pos hs, h1]; rfl
          · rw [if_pos hs, h1]; rfl
          · rw [if_pos hs, h1]; rfl
          · rename_i n1 n2 n3 n4
            exfalso
            cases v with
            | d d => cases d <;> first | exact n2 _ _ _ rfl | cases h1
            | map g n => exact n3 _ _ rfl
            | vmap q n i o => exact n4 _ _ _ _ rfl
            | _ => cases h1
        rw [this]; rfl
      · split at h
        · rename_i s e3
          rw [e3]
          split at h
          · rename_i hs
            exact ⟨_, by simp [alen, hs], h⟩
          · cases h
        · rename_i hns
          split at h
          · rename_i hs
            obtain ⟨n, h1, h2⟩ := lenK_some h
            refine ⟨_, ?_, h2⟩
            have : alen P L ty (ρ x) = some n := by
              generalize ρ x = v at *
              unfold alen
              split
              · exact (hns _ rfl).elim
              · cases h1
              · cases h1
              · cases h1
              · rw [if_pos hs]; exact h1
            rw [this]; rfl
          · cases h
    · cases h
  · rename_i args _ _ e
    unfold aop0; rw [e]; dsimp only
    split at h
    · rename_i a b e1
      rw [letN_eq] at h
      rw [e1]; exact ⟨_, rfl, h⟩
    · cases h
  · rename_i args _ _ e
    unfold aop0; rw [e]; dsimp only
    split at h
    · rename_i a b e1
      rw [letN_eq] at h
      rw [e1]; exact ⟨_, rfl, h⟩
    · cases h
  · rename_i args argTypes _ e
    unfold aop0; rw [e]; dsimp only
    split at h
    · rename_i s x ty ty2 e1 e2
      rw [e1, e2]
      dsimp only
      split at h
      · rename_i hs
        rw [if_pos hs]
        exact appendK_some h
      · cases h
    · cases h
  · rename_i args argTypes _ e
    unfold aop0; rw [e]; dsimp only
    split at h
    · rename_i s x ty tys e1 e2
      rw [e1, e2]
      exact copyK_some h
    · cases h
  · rename_i f args _ e
    unfold aop0; rw [e]; dsimp only
    exact callK_some h
  · rename_i arr x e
    unfold aop0; rw [e]; dsimp only
    split at h
    · rename_i t l e1
      rw [e1]
      dsimp only
      split at h
      · rename_i n et e2
        obtain ⟨hc, hk⟩ := sif4_some h
        rw [e2]
        exact ⟨_, if_pos hc, hk⟩
      · cases h
    · cases h
  · exact dfl_some h

theorem aopK_some {P : Program} {Γ : Env} {o : Oper} {ρ : Operand → V} {L : Loc} {k : Out → Option R} (h : aopK P Γ o ρ L k = some r) :
    ∃ out, aop P Γ o ρ L = some out ∧ k out = some r := by
  unfold aopK at h
  obtain ⟨out, h1, h2⟩ := aopK0_some h
  exact ⟨_, by unfold aop; rw [h1]; rfl, h2⟩
end
end Wf

/-
  What a loop, or a meeting of two ways, keeps of a state.
-/
namespace Wf
open Go Go.RowKit

/-- What is kept of a slot. -/
inductive SS where
  | dead
  | val (s : Sh)
  | own (sz : Nat)
  | box (ag : Bool) (ls : List Lf)
  | map (k : MK)
  | same (j : Nat)
  | fnc (f : FuncId)
  | ptr (k : Nat)
  | view (k o : Nat)
  | vmp (k o : Nat)
  deriving DecidableEq, Inhabited

@[reducible] def SST : List SS → Type
  | [] => Unit
  | .dead :: r => SST r
  | .val s :: r => s.T × SST r
  | .own _ :: r => List D × SST r
  | .box _ ls :: r => LfT ls × SST r
  | .map _ :: r => List (Int × D) × SST r
  | .same _ :: r => SST r
  | .fnc _ :: r => SST r
  | .ptr _ :: r => D × SST r
  | .view _ _ :: r => (Nat × Nat × Nat) × SST r
  | .vmp _ _ :: r => Nat × SST r
@[reducible] def TbT : List (Nat × Bool) → Type
  | [] => Unit
  | _ :: r => Tb × TbT r

def base : Nat := 50000
/-- Where slot j's row is. -/
def refAt : (i j : Nat) → (ss : List SS) → SST ss → V
  | _, _, [], _ => .d .undef
  | i, j, .dead :: r, x => refAt (i + 1) j r x
  | i, j, .same _ :: r, x => refAt (i + 1) j r x
  | i, j, .fnc _ :: r, x => refAt (i + 1) j r x
  | i, j, .val _ :: r, x => refAt (i + 1) j r x.2
  | i, j, .map _ :: r, x => refAt (i + 1) j r x.2
  | i, j, .ptr _ :: r, x => refAt (i + 1) j r x.2
  | i, j, .view _ _ :: r, x => refAt (i + 1) j r x.2
  | i, j, .vmp _ _ :: r, x => refAt (i + 1) j r x.2
  | i, j, .box _ _ :: r, x => if i = j then .ptr (base + i) 1 0 else refAt (i + 1) j r x.2
  | i, j, .own _ :: r, x => if i = j then .ref (base + i) 1 0 x.1.length else refAt (i + 1) j r x.2

def entries (sj : Nat → V) : (i : Nat) → (ss : List SS) → SST ss → List (V × HObj)
  | _, [], _ => []
  | i, .dead :: r, x => (.d .undef, .dead) :: entries sj (i + 1) r x
  | i, .val s :: r, x => (.d (s.mk x.1), .dead) :: entries sj (i + 1) r x.2
  | i, .own sz :: r, x => (.ref (base + i) 1 0 x.1.length, .arr sz x.1 true) :: entries sj (i + 1) r x.2
  | i, .box ag ls :: r, x => (.ptr (base + i) 1 0, .box ag (mkCells ls x.1)) :: entries sj (i + 1) r x.2
  | i, .map kk :: r, x => (.map (base + i) 1, .map kk x.1) :: entries sj (i + 1) r x.2
  | i, .same j :: r, x => (sj j, .dead) :: entries sj (i + 1) r x
  | i, .fnc f :: r, x => (.clo f [] [], .dead) :: entries sj (i + 1) r x
  | i, .ptr k :: r, x => (.p k x.1, .dead) :: entries sj (i + 1) r x.2
  | i, .view k o :: r, x => (.vref k 1 x.1.1 o x.1.2.1 x.1.2.2, .dead) :: entries sj (i + 1) r x.2
  | i, .vmp k o :: r, x => (.vmap k 1 x.1 o, .dead) :: entries sj (i + 1) r x.2

def locOf (es : List (V × HObj)) : Loc := fun g => if base ≤ g ∧ g < 90000 then (match es[g - base]? with
  | some (_, .dead) => (0, .dead)
  | some (_, o) => (1, o)
  | none => (0, .dead)) else (0, .dead)
def locTab (L : Loc) : (tks : List (Nat × Bool)) → TbT tks → Loc
  | [], _ => L
  | (k, w) :: r, Ts => (locTab L r Ts.2).set (tb k) (1, .tbl w Ts.1)
def stOf (es : List (V × HObj)) (n : Nat) (tks : List (Nat × Bool)) (Ts : TbT tks) : St := { slots := es.map (·.1) ++ List.replicate (n - es.length) (.d .undef), L := locTab (locOf es) tks Ts }
def SSJ (tks : List (Nat × Bool)) (ss : List SS) (n : Nat) (x : SST ss) (Ts : TbT tks) : St := stOf (entries (fun j => refAt 0 j ss x) 0 ss x) n tks Ts

section
variable {R : Type}
def coGo (tq : List Nat) (L : Loc) (all : List V) (sh : List SS) : (ss : List SS) → List V → (SST ss → List (Option Nat) → Option R) → Option R
  | [], _, k => k () []
  | .dead :: r, _ :: vs, k => coGo tq L all sh r vs fun x ks => k x (none :: ks)
  | .val s :: r, v :: vs, k => match v with
    | .d d => s.get d fun y => coGo tq L all sh r vs fun x ks => k (y, x) (none :: ks)
    | _ => none
  | .own sz :: r, v :: vs, k => match v with
    | .ref g n off len => match off, L.get g n with
      | 0, .arr sz' els true => if sz' = sz ∧ g < 90000 then sif (len = els.length) (coGo tq L all sh r vs fun x ks => k (els, x) (some g :: ks)) else none
      | _, _ => none
    | .d (.sl .full []) => coGo tq L all sh r vs fun x ks => k ([], x) (none :: ks)
    | .d (.sl .nil []) => coGo tq L all sh r vs fun x ks => k ([], x) (none :: ks)
    | _ => none
  | .box ag ls :: r, v :: vs, k => match v with
    | .ptr g n off => match off, L.get g n with
      | 0, .box ag' ds => if ag' = ag ∧ g < 90000 then getCells ls ds fun y => coGo tq L all sh r vs fun x ks => k (y, x) (some g :: ks) else none
      | _, _ => none
    | _ => none
  | .map kk :: r, v :: vs, k => match v with
    | .map g n => match L.get g n with
      | .map kk' es => if kk' = kk ∧ g < 90000 then coGo tq L all sh r vs fun x ks => k (es, x) (some g :: ks) else none
      | _ => none
    | _ => none
  | .same j :: r, v :: vs, k => match v, all[j]?, sh[j]? with
    | .ref g n off len, some (.ref g' n' off' len'), some (.own _) => if g' = g ∧ n' = n ∧ off' = off then sif (len' = len) (coGo tq L all sh r vs fun x ks => k x (none :: ks)) else none
    | .ptr g n off, some (.ptr g' n' off'), some (.box _ _) => if g' = g ∧ n' = n ∧ off' = off then coGo tq L all sh r vs fun x ks => k x (none :: ks) else none
    | _, _, _ => none
  | .fnc f :: r, v :: vs, k => match v with
    | .clo f' [] [] => if f' = f then coGo tq L all sh r vs fun x ks => k x (none :: ks) else none
    | .d (.fn f' [] []) => if f' = f then coGo tq L all sh r vs fun x ks => k x (none :: ks) else none
    | _ => none
  | .ptr _ :: r, v :: vs, k => match v with
    | .p _ y => coGo tq L all sh r vs fun x ks => k (y, x) (none :: ks)
    | .d y => coGo tq L all sh r vs fun x ks => k (y, x) (none :: ks)
    | _ => none
  | .view q o :: r, v :: vs, k => match v with
    | .vref q' n i o' lo len => if q' = q ∧ o' = o ∧ n = (L (tb q)).1 ∧ q ∈ tq then coGo tq L all sh r vs fun x ks => k ((i, lo, len), x) (none :: ks) else none
    | _ => none
  | .vmp q o :: r, v :: vs, k => match v with
    | .vmap q' n i o' => if q' = q ∧ o' = o ∧ n = (L (tb q)).1 ∧ q ∈ tq then coGo tq L all sh r vs fun x ks => k (i, x) (none :: ks) else none
    | _ => none
  | _ :: _, [], _ => none
def coTab (L : Loc) : (tks : List (Nat × Bool)) → (TbT tks → Option R) → Option R
  | [], k => k ()
  | (q, w) :: r, k => match tabOf L q with
    | some (w', T) => if w' = w then coTab L r fun Ts => k (T, Ts) else none
    | none => none

def co (tks : List (Nat × Bool)) (ss : List SS) (s : St) (k : SST ss → TbT tks → Option R) : Option R :=
  if ss.length ≤ s.slots.length ∧ ss.length ≤ 1000 ∧ (tks.map (·.1)).Nodup then coGo (tks.map (·.1)) s.L s.slots ss ss s.slots fun x ks => if distinct ks then coTab s.L tks fun Ts => k x Ts else none else none
end

/-- How an entry stands to what was there. -/
inductive Ext (tq : List Nat) (L : Loc) (all : List V) (sh : List SS) (sj : Nat → V) (id : Nat) : V → Option Nat → V → HObj → Prop where
  | drop (v) : Ext tq L all sh sj id v none (.d .undef) .dead
  | keep (d) : Ext tq L all sh sj id (.d d) none (.d d) .dead
  | own (g n sz els) : g < 90000 → L.get g n = .arr sz els true → Ext tq L all sh sj id (.ref g n 0 els.length) (some g) (.ref id 1 0 els.length) (.arr sz els true)
  | nil (sz t) : (t = .full ∨ t = .nil) → Ext tq L all sh sj id (.d (.sl t [])) none (.ref id 1 0 0) (.arr sz [] true)
  | box (g n ag ds) : g < 90000 → L.get g n = .box ag ds → Ext tq L all sh sj id (.ptr g n 0) (some g) (.ptr id 1 0) (.box ag ds)
  | map (g n kk es) : g < 90000 → L.get g n = .map kk es → Ext tq L all sh sj id (.map g n) (some g) (.map id 1) (.map kk es)
  | sameR (j g n off len) : all[j]? = some (.ref g n off len) → (∃ z, sh[j]? = some (.own z)) → Ext tq L all sh sj id (.ref g n off len) none (sj j) .dead
  | sameP (j g n off) : all[j]? = some (.ptr g n off) → (∃ a l, sh[j]? = some (.box a l)) → Ext tq L all sh sj id (.ptr g n off) none (sj j) .dead
  | ptr (k y v) : ((∃ k', v = .p k' y) ∨ v = .d y) → Ext tq L all sh sj id v none (.p k y) .dead
  | view (q n i o lo len) : n = (L (tb q)).1 → q ∈ tq → Ext tq L all sh sj id (.vref q n i o lo len) none (.vref q 1 i o lo len) .dead
  | vmp (q n i o) : n = (L (tb q)).1 → q ∈ tq → Ext tq L all sh sj id (.vmap q n i o) none (.vmap q 1 i o) .dead
  | clo (f v) : (v = .clo f [] [] ∨ v = .d (.fn f [] [])) → Ext tq L all sh sj id v none (.clo f [] []) .dead


theorem getE {α : Type} {a : α} {l : List α} {i : Nat} : (a :: l)[i + 1]? = l[i]? := by simp

theorem entries_len {sj : Nat → V} : ∀ (ss : List SS) (i : Nat) (x : SST ss), (entries sj i ss x).length = ss.length
  | [], _, _ => rfl
  | .dead :: r, i, x => by simp only [entries, List.length_cons, entries_len r (i + 1) x]
  | .val s :: r, i, x => by simp only [entries, List.length_cons, entries_len r (i + 1) x.2]
  | .own sz :: r, i, x => by simp only [entries, List.length_cons, entries_len r (i + 1) x.2]
  | .box ag ls :: r, i, x => by simp only [entries, List.length_cons, entries_len r (i + 1) x.2]
  | .map kk :: r, i, x => by simp only [entries, List.length_cons, entries_len r (i + 1) x.2]
  | .same j :: r, i, x => by simp only [entries, List.length_cons, entries_len r (i + 1) x]
  | .fnc f :: r, i, x => by simp only [entries, List.length_cons, entries_len r (i + 1) x]
  | .ptr k :: r, i, x => by simp only [entries, List.length_cons, entries_len r (i + 1) x.2]
  | .view k o :: r, i, x => by simp only [entries, List.length_cons, entries_len r (i + 1) x.2]
  | .vmp k o :: r, i, x => by simp only [entries, List.length_cons, entries_len r (i + 1) x.2]

theorem entries_at {sj : Nat → V} : ∀ (ss : List SS) (i j : Nat) (x : SST ss), ((∃ z, ss[j]? = some (.own z)) ∨ ∃ a l, ss[j]? = some (.box a l)) →
    ∃ e, (entries sj i ss x)[j]? = some e ∧ e.2 ≠ .dead ∧ e.1 = refAt i (i + j) ss x
  | [], i, j, x, h => by simp at h
  | sh :: r, i, 0, x, h => by
    rcases h with ⟨z, h⟩ | ⟨a, l, h⟩ <;> injection h with h <;> subst h
    · exact ⟨_, rfl, by simp, by simp [refAt]⟩
    · exact ⟨_, rfl, by simp, by simp [refAt]⟩
  | sh :: r, i, j + 1, x, h => by
    have hij : i + (j + 1) = (i + 1) + j := by omega
    have hne : i ≠ i + (j + 1) := by omega
    simp only [getE] at h
    cases sh <;> simp only [entries, getE, refAt, if_neg hne] <;> rw [hij] <;> exact entries_at r (i + 1) j _ h

section
variable {R : Type} {r : R} {tq : List Nat} {L : Loc} {all : List V} {sh : List SS} {sj : Nat → V}

theorem coGo_some : ∀ (ss : List SS) (i : Nat) (vs : List V) (k : SST ss → List (Option Nat) → Option R), ss.length ≤ vs.length → coGo tq L all sh ss vs k = some r →
    ∃ x ks, k x ks = some r ∧ ks.length = ss.length ∧ ∀ sj : (Nat → V), ∀ (j : Nat) (v : V), vs[j]? = some v → j < ss.length → ∃ e q, (entries sj i ss x)[j]? = some e ∧ ks[j]? = some q ∧ Ext tq L all sh sj (base + (i + j)) v q e.1 e.2
  | [], i, vs, k, _, h => ⟨(), [], h, rfl, fun sj j v _ hj => absurd hj (by simp)⟩
  | _ :: _, i, [], k, hl, _ => absurd hl (by simp)
  | sh0 :: ss, i, v :: vs, k, hl, h => by
    have hl' : ss.length ≤ vs.length := by simpa using hl
    have step : ∀ {x' : SST ss} {ks : List (Option Nat)} {x : SST (sh0 :: ss)} {q : Option Nat} {e : (Nat → V) → V × HObj}, ks.length = ss.length →
        (∀ sj : (Nat → V), ∀ (j : Nat) (v : V), vs[j]? = some v → j < ss.length → ∃ e q, (entries sj (i + 1) ss x')[j]? = some e ∧ ks[j]? = some q ∧ Ext tq L all sh sj (base + (i + 1 + j)) v q e.1 e.2) →
        (∀ sj, entries sj i (sh0 :: ss) x = e sj :: entries sj (i + 1) ss x') → (∀ sj, Ext tq L all sh sj (base + i) v q (e sj).1 (e sj).2) →
        (q :: ks).length = (sh0 :: ss).length ∧ ∀ sj : (Nat → V), ∀ (j : Nat) (w : V), (v :: vs)[j]? = some w → j < (sh0 :: ss).length → ∃ e q', (entries sj i (sh0 :: ss) x)[j]? = some e ∧ (q :: ks)[j]? = some q' ∧ Ext tq L all sh sj (base + (i + j)) w q' e.1 e.2 := by
      intro x' ks x q e h1 h2 h3 h4
      refine ⟨by simp [h1], fun sj j w hw hj => ?_⟩
      rw [h3]
      cases j with
      | zero => simp at hw; subst hw; exact ⟨_, _, rfl, rfl, h4 sj⟩
      | succ j =>
        simp only [getE] at hw
        obtain ⟨e', q', k1, k2, k3⟩ := h2 sj j w hw (by simpa using hj)
        exact ⟨e', q', by simpa using k1, by simpa using k2, by rw [show i + (j + 1) = i + 1 + j by omega]; exact k3⟩
    cases sh0 with
    | dead =>
      obtain ⟨x, ks, h1, h2, h3⟩ := coGo_some ss (i + 1) vs (fun x ks => k x (none :: ks)) hl' h
      exact ⟨x, none :: ks, h1, step (e := fun _ => (.d .undef, .dead)) h2 h3 (fun _ => rfl) (fun _ => .drop _)⟩
    | val s =>
      simp only [coGo] at h
      split at h
      · rename_i d
        obtain ⟨y, e, h⟩ := Sh.get_some h
        obtain ⟨x, ks, h1, h2, h3⟩ := coGo_some ss (i + 1) vs (fun x ks => k (y, x) (none :: ks)) hl' h
        subst e
        exact ⟨(y, x), none :: ks, h1, step (e := fun _ => (.d (s.mk y), .dead)) h2 h3 (fun _ => rfl) (fun _ => .keep _)⟩
      · cases h
    | own sz =>
      simp only [coGo] at h
      split at h
      · rename_i g n off len
        split at h
        · rename_i sz' els hL
          split at h
          · rename_i hsz
            obtain ⟨hsz, hg⟩ := hsz; subst hsz
            obtain ⟨hlen, h4⟩ := sif_some h
            subst hlen
            obtain ⟨x, ks, h1, h2, h3⟩ := coGo_some ss (i + 1) vs (fun x ks => k (els, x) (some g :: ks)) hl' h4
            exact ⟨(els, x), some g :: ks, h1, step (e := fun _ => (.ref (base + i) 1 0 els.length, .arr sz' els true)) h2 h3 (fun _ => rfl) (fun _ => .own _ _ _ _ hg hL)⟩
          · cases h
        · cases h
      · obtain ⟨x, ks, h1, h2, h3⟩ := coGo_some ss (i + 1) vs (fun x ks => k ([], x) (none :: ks)) hl' h
        exact ⟨([], x), none :: ks, h1, step (e := fun _ => (.ref (base + i) 1 0 0, .arr sz [] true)) h2 h3 (fun _ => rfl) (fun _ => .nil _ _ (.inl rfl))⟩
      · obtain ⟨x, ks, h1, h2, h3⟩ := coGo_some ss (i + 1) vs (fun x ks => k ([], x) (none :: ks)) hl' h
        exact ⟨([], x), none :: ks, h1, step (e := fun _ => (.ref (base + i) 1 0 0, .arr sz [] true)) h2 h3 (fun _ => rfl) (fun _ => .nil _ _ (.inr rfl))⟩
      · cases h
    | box ag ls =>
      simp only [coGo] at h
      split at h
      · rename_i g n off
        split at h
        · rename_i ag' ds hL
          split at h
          · rename_i hag
            obtain ⟨hag, hg⟩ := hag; subst hag
            obtain ⟨y, e, h⟩ := getCells_some h
            obtain ⟨x, ks, h1, h2, h3⟩ := coGo_some ss (i + 1) vs (fun x ks => k (y, x) (some g :: ks)) hl' h
            subst e
            exact ⟨(y, x), some g :: ks, h1, step (e := fun _ => (.ptr (base + i) 1 0, .box ag' (mkCells ls y))) h2 h3 (fun _ => rfl) (fun _ => .box _ _ _ _ hg hL)⟩
          · cases h
        · cases h
      · cases h
    | map kk =>
      simp only [coGo] at h
      split at h
      · rename_i g n
        split at h
        · rename_i kk' es hL
          split at h
          · rename_i hk
            obtain ⟨hk, hg⟩ := hk; subst hk
            obtain ⟨x, ks, h1, h2, h3⟩ := coGo_some ss (i + 1) vs (fun x ks => k (es, x) (some g :: ks)) hl' h
            exact ⟨(es, x), some g :: ks, h1, step (e := fun _ => (.map (base + i) 1, .map kk' es)) h2 h3 (fun _ => rfl) (fun _ => .map _ _ _ _ hg hL)⟩
          · cases h
        · cases h
      · cases h
    | same j =>
      simp only [coGo] at h
      split at h
      · rename_i g n off len g' n' off' len' z e1 e2
        split at h
        · rename_i hc
          obtain ⟨rfl, rfl, rfl⟩ := hc
          obtain ⟨hlen, h4⟩ := sif_some h
          subst hlen
          obtain ⟨x, ks, h1, h2, h3⟩ := coGo_some ss (i + 1) vs (fun x ks => k x (none :: ks)) hl' h4
          exact ⟨x, none :: ks, h1, step (e := fun sj => (sj j, .dead)) h2 h3 (fun _ => rfl) (fun _ => .sameR _ _ _ _ _ e1 ⟨_, e2⟩)⟩
        · cases h
      · rename_i g n off g' n' off' a l e1 e2
        split at h
        · rename_i hc
          obtain ⟨rfl, rfl, rfl⟩ := hc
          obtain ⟨x, ks, h1, h2, h3⟩ := coGo_some ss (i + 1) vs (fun x ks => k x (none :: ks)) hl' h
          exact ⟨x, none :: ks, h1, step (e := fun sj => (sj j, .dead)) h2 h3 (fun _ => rfl) (fun _ => .sameP _ _ _ _ e1 ⟨_, _, e2⟩)⟩
        · cases h
      · cases h
    | fnc f =>
      simp only [coGo] at h
      split at h
      · split at h
        · rename_i hf; subst hf
          obtain ⟨x, ks, h1, h2, h3⟩ := coGo_some ss (i + 1) vs (fun x ks => k x (none :: ks)) hl' h
          exact ⟨x, none :: ks, h1, step (e := fun _ => (.clo _ [] [], .dead)) h2 h3 (fun _ => rfl) (fun _ => .clo _ _ (.inl rfl))⟩
        · cases h
      · split at h
        · rename_i hf; subst hf
          obtain ⟨x, ks, h1, h2, h3⟩ := coGo_some ss (i + 1) vs (fun x ks => k x (none :: ks)) hl' h
          exact ⟨x, none :: ks, h1, step (e := fun _ => (.clo _ [] [], .dead)) h2 h3 (fun _ => rfl) (fun _ => .clo _ _ (.inr rfl))⟩
        · cases h
      · cases h
    | ptr q =>
      simp only [coGo] at h
      split at h
      · rename_i k' y
        obtain ⟨x, ks, h1, h2, h3⟩ := coGo_some ss (i + 1) vs (fun x ks => k (y, x) (none :: ks)) hl' h
        exact ⟨(y, x), none :: ks, h1, step (e := fun _ => (.p q y, .dead)) h2 h3 (fun _ => rfl) (fun _ => .ptr _ _ _ (.inl ⟨_, rfl⟩))⟩
      · rename_i y
        obtain ⟨x, ks, h1, h2, h3⟩ := coGo_some ss (i + 1) vs (fun x ks => k (y, x) (none :: ks)) hl' h
        exact ⟨(y, x), none :: ks, h1, step (e := fun _ => (.p q y, .dead)) h2 h3 (fun _ => rfl) (fun _ => .ptr _ _ _ (.inr rfl))⟩
      · cases h
    | view q o =>
      simp only [coGo] at h
      split at h
      · rename_i q' n i' o' lo len
        split at h
        · rename_i hc
          obtain ⟨rfl, rfl, rfl, hq⟩ := hc
          obtain ⟨x, ks, h1, h2, h3⟩ := coGo_some ss (i + 1) vs (fun x ks => k ((i', lo, len), x) (none :: ks)) hl' h
          exact ⟨((i', lo, len), x), none :: ks, h1, step (e := fun _ => (.vref _ 1 i' _ lo len, .dead)) h2 h3 (fun _ => rfl) (fun _ => .view _ _ _ _ _ _ rfl hq)⟩
        · cases h
      · cases h
    | vmp q o =>
      simp only [coGo] at h
      split at h
      · rename_i q' n i' o'
        split at h
        · rename_i hc
          obtain ⟨rfl, rfl, rfl, hq⟩ := hc
          obtain ⟨x, ks, h1, h2, h3⟩ := coGo_some ss (i + 1) vs (fun x ks => k (i', x) (none :: ks)) hl' h
          exact ⟨(i', x), none :: ks, h1, step (e := fun _ => (.vmap _ 1 i' _, .dead)) h2 h3 (fun _ => rfl) (fun _ => .vmp _ _ _ _ rfl hq)⟩
        · cases h
      · cases h
theorem coTab_some : ∀ {tks : List (Nat × Bool)} {k : TbT tks → Option R}, coTab L tks k = some r → ∃ Ts, k Ts = some r ∧ ∀ (L0 : Loc), (tks.map (·.1)).Nodup → ∀ q,
    ((∃ w T, (locTab L0 tks Ts) (tb q) = (1, .tbl w T) ∧ tabOf L q = some (w, T)) ∨ (q ∉ tks.map (·.1) ∧ (locTab L0 tks Ts) (tb q) = L0 (tb q)))
  | [], k, h => ⟨(), h, fun _ _ _ => .inr ⟨by simp, rfl⟩⟩
  | (q0, w0) :: tks, k, h => by
    simp only [coTab] at h
    split at h
    · rename_i w' T e
      split at h
      · rename_i hw
        subst hw
        obtain ⟨Ts, h1, h2⟩ := coTab_some (k := fun Ts => k (T, Ts)) h
        refine ⟨(T, Ts), h1, fun L0 hn q => ?_⟩
        simp only [List.map_cons, List.nodup_cons] at hn
        simp only [locTab]
        by_cases eq : q = q0
        · subst eq; rw [Loc.set_same]; exact .inl ⟨_, _, rfl, e⟩
        · rw [Loc.set_ne _ _ (fun h => eq (tb_inj h))]
          rcases h2 L0 hn.2 q with h | ⟨h, h'⟩
          · exact .inl h
          · exact .inr ⟨by simp only [List.map_cons, List.mem_cons, not_or]; exact ⟨eq, h⟩, h'⟩
      · cases h
    · cases h
end
theorem locTab_ne {L0 : Loc} {g : Nat} (hg : ∀ q, g ≠ tb q) : ∀ (tks : List (Nat × Bool)) (Ts : TbT tks), locTab L0 tks Ts g = L0 g
  | [], _ => rfl
  | (q, w) :: tks, Ts => by simp only [locTab]; rw [Loc.set_ne _ _ (hg q), locTab_ne hg tks]

end Wf

/-
  .. and that what is kept stands.
-/
namespace Wf
open Go Go.RowKit

theorem locOf_at {es : List (V × HObj)} {j : Nat} {e : V × HObj} (h : es[j]? = some e) (hd : e.2 ≠ .dead) (hl : base + j < 90000) : locOf es (base + j) = (1, e.2) := by
  obtain ⟨v, o⟩ := e
  unfold locOf
  rw [if_pos ⟨by omega, hl⟩, show base + j - base = j by omega, h]
  cases o <;> first | rfl | exact absurd rfl hd
theorem locOf_some {es : List (V × HObj)} {g : Nat} (hd : (locOf es g).2 ≠ .dead) : ∃ j v o, g = base + j ∧ g < 90000 ∧ es[j]? = some (v, o) ∧ o ≠ .dead ∧ locOf es g = (1, o) := by
  by_cases hg : base ≤ g ∧ g < 90000
  · refine ⟨g - base, ?_⟩
    have hg2 : g = base + (g - base) := by omega
    cases he : es[g - base]? with
    | none => exfalso; apply hd; unfold locOf; rw [if_pos hg, he]
    | some e =>
      obtain ⟨v, o⟩ := e
      have ho : o ≠ .dead := by
        rintro rfl; apply hd; unfold locOf; rw [if_pos hg, he]
      exact ⟨v, o, hg2, hg.2, rfl, ho, by have := locOf_at (e := (v, o)) he ho (by omega); rwa [← hg2] at this⟩
  · exfalso; apply hd; unfold locOf; rw [if_neg hg]
theorem locOf_tb (es : List (V × HObj)) (q : Nat) : locOf es (tb q) = (0, .dead) := by
  unfold locOf; rw [if_neg (by unfold tb; omega)]

section
variable {N : Nat} {w0 : World} {O0 : Nat → Prop} {γ0 : E0} {R : Type} {r : R}

theorem co_ok {tks : List (Nat × Bool)} {ss : List SS} {s : St} {k : SST ss → TbT tks → Option R} (h : co tks ss s k = some r) :
    ∃ x Ts, k x Ts = some r ∧ ∀ {a : Act} {w : World}, Rel N w0 O0 γ0 s a w → Rel N w0 O0 γ0 (SSJ tks ss s.slots.length x Ts) a w := by
  unfold co at h
  split at h
  rotate_left
  · cases h
  rename_i hlen
  obtain ⟨hlen, hle, hnd⟩ := hlen
  obtain ⟨x, ks, h1, h2, h3⟩ := coGo_some ss 0 s.slots _ hlen h
  split at h1
  rotate_left
  · cases h1
  rename_i hdis
  obtain ⟨Ts, h1, htb⟩ := coTab_some h1
  refine ⟨x, Ts, h1, ?_⟩
  rintro a w ⟨c, hr⟩
  have hdis := @distinct_spec ks hdis
  let sj := fun j => refAt 0 j ss x
  have h3 := h3 sj
  simp only [Nat.zero_add] at h3
  let es := entries sj 0 ss x
  let L' : Loc := locTab (locOf es) tks Ts
  have hes : es.length = ss.length := entries_len ss 0 x
  have hLo : ∀ g, (∀ q, g ≠ tb q) → L' g = locOf es g := fun g hg => locTab_ne hg tks Ts
  have hLb : ∀ j, base + j < 90000 → L' (base + j) = locOf es (base + j) := fun j hj => hLo _ fun q e => by unfold tb at e; omega
  have hLt : ∀ q, (∃ wr T, L' (tb q) = (1, .tbl wr T) ∧ tabOf s.L q = some (wr, T)) ∨ L' (tb q) = (0, .dead) := fun q => by
    rcases htb (locOf es) hnd q with h | ⟨_, h⟩
    · exact .inl h
    · rw [locOf_tb] at h; exact .inr h
  have hLi : ∀ q, q ∈ tks.map (·.1) → (L' (tb q)).1 = 1 := fun q hq => by
    rcases htb (locOf es) hnd q with ⟨wr, T, h, _⟩ | ⟨h, _⟩
    · exact congrArg Prod.fst h
    · exact absurd hq h
  have hTab : ∀ q y, tabOf L' q = some y → tabOf s.L q = some y := by
    intro q y hy
    rcases hLt q with ⟨wr, T, e1, e2⟩ | e
    · have : tabOf L' q = some (wr, T) := tab_get.2 (by rw [e1])
      rw [this] at hy; rw [e2]; exact hy
    · unfold tabOf at hy; rw [e] at hy; cases hy
  let c' : Ctx := { ι := fun g => if base ≤ g ∧ g < 90000 then (ks[g - base]?.join).bind c.ι else none, γ := c.γ, ρ := c.ρ, O := c.O }
  have hι : ∀ j q, base + j < 90000 → ks[j]? = some q → c'.ι (base + j) = q.bind c.ι := by
    intro j q hj hq
    show (if base ≤ base + j ∧ base + j < 90000 then _ else _) = _
    rw [if_pos ⟨by omega, hj⟩, show base + j - base = j by omega, hq]; rfl
  have hjl : ∀ j e, es[j]? = some e → base + j < 90000 := by
    intro j e he
    have := (List.getElem?_eq_some_iff.1 he).1
    unfold base; omega
  have hent : ∀ j e, es[j]? = some e → ∃ v q, s.slots[j]? = some v ∧ ks[j]? = some q ∧ Ext (tks.map (·.1)) s.L s.slots ss sj (base + j) v q e.1 e.2 := by
    intro j e he
    have hj : j < ss.length := by
      have := (List.getElem?_eq_some_iff.1 he).1; omega
    have hv : s.slots[j]? = some (s.slots[j]'(by omega)) := List.getElem?_eq_getElem _
    obtain ⟨e', q, k1, k2, k3⟩ := h3 j _ hv hj
    have : e' = e := by
      have he2 : es[j]? = some e' := k1
      rw [he] at he2; exact (Option.some.inj he2).symm
    subst this
    exact ⟨_, q, hv, k2, k3⟩
  have hnt : ∀ g b, c'.ι g = some b → ∀ q, g ≠ tb q := by
    rintro g b hb q rfl
    have : c'.ι (tb q) = none := by
      show (if base ≤ tb q ∧ tb q < 90000 then _ else none) = none
      rw [if_neg (by unfold tb; omega)]
    rw [this] at hb; cases hb
  -- what lives
  have hlive : ∀ g b, (L' g).2 ≠ .dead → c'.ι g = some b → ∃ g0 n, s.L.get g0 n = (L' g).2 ∧ c.ι g0 = some b ∧ g0 < 90000 ∧ ∃ j, g = base + j ∧ ks[j]? = some (some g0) := by
    intro g b hd hb
    rw [hLo g (hnt g b hb)] at hd ⊢
    obtain ⟨j, v, o, rfl, hg9, he, ho, hl⟩ := locOf_some hd
    rw [hl]
    obtain ⟨v0, q, k1, k2, k3⟩ := hent j _ he
    rw [hι j q hg9 k2] at hb
    dsimp only at k3
    cases k3 with
    | own g n sz els hg hL => exact ⟨g, n, hL, hb, hg, j, rfl, k2⟩
    | nil => cases hb
    | box g n ag ds hg hL => exact ⟨g, n, hL, hb, hg, j, rfl, k2⟩
    | map g n kk es hg hL => exact ⟨g, n, hL, hb, hg, j, rfl, k2⟩
    | _ => exact absurd rfl ho
  have hkind : ∀ g, (∀ q, g ≠ tb q) → (L' g).2 ≠ .dead → (∀ a ds ks vs, (L' g).2 ≠ .vbox a ds ks vs) ∧ (∀ a ds, (L' g).2 ≠ .fbox a ds) ∧ (∀ sz els, (L' g).2 ≠ .trow sz els) ∧ ∀ wr T, (L' g).2 ≠ .tbl wr T := by
    intro g hg hd
    rw [hLo g hg] at hd ⊢
    obtain ⟨j, v, o, rfl, hg9, he, ho, hl⟩ := locOf_some hd
    rw [hl]
    obtain ⟨v0, q, k1, k2, k3⟩ := hent j _ he
    dsimp only at k3 ⊢
    cases k3 <;> first | exact absurd rfl ho | exact ⟨by simp, by simp, by simp, by simp⟩
  have hown : ∀ b, own c' L' b → own c s.L b := by
    rintro b (hb | ⟨g, hg, hl⟩)
    · exact .inl hb
    · have hd : (L' g).2 ≠ .dead := by intro e; rw [e] at hl; cases hl
      obtain ⟨g0, n, k1, k2, _⟩ := hlive g b hd hg
      obtain ⟨_, e2⟩ := get_at k1 hd
      exact .inr ⟨g0, k2, by rw [e2]; exact hl⟩
  have hval : ∀ j v v' q o u, s.slots[j]? = some v → es[j]? = some (v', o) → ks[j]? = some q → Ext (tks.map (·.1)) s.L s.slots ss sj (base + j) v q v' o → Val c s.L w N v u → o ≠ .dead → Val c' L' w N v' u := by
    intro j v v' q o u hv he hq hx hu ho
    have hj9 := hjl j _ he
    have hl := locOf_at he ho hj9
    rw [← hLb j hj9] at hl
    dsimp only at hl
    have hi := hι j q hj9 hq
    cases hx with
    | own g n sz els hg hL =>
      cases hu with
      | ref _ _ _ _ _ p1 p2 p3 =>
        refine .ref _ _ _ _ _ (by rw [hl]; exact Nat.le_refl _) (fun sz' els' l' hg => ?_) (fun sz' els' hg => ?_)
        · unfold Loc.get at hg; rw [hl] at hg; simp only [if_true] at hg
          injection hg with e1 e2 e3
          subst e1; subst e2
          rw [hi]
          exact p2 _ _ _ hL
        · unfold Loc.get at hg; rw [hl] at hg; simp at hg
    | nil sz t ht =>
      have hu := hu.dat
      refine .ref _ _ _ _ _ (by rw [hl]; exact Nat.le_refl _) (fun sz' els' l' hg => ?_) (fun sz' els' hg => ?_)
      · cases hu with
        | slE _ a cap hc hc2 _ =>
          have : cap = 0 := by
            rcases ht with rfl | rfl
            · exact hc rfl
            · exact (hc2 rfl).2
          exact ⟨by simp, a, cap, rfl, Nat.zero_le _, .inl this⟩
        | sl _ _ _ _ _ _ _ h0 => exact absurd rfl h0
      · unfold Loc.get at hg; rw [hl] at hg; simp at hg
    | box g n ag ds hg hL =>
      cases hu with
      | ptr _ _ _ _ p1 p2 =>
        refine .ptr _ _ _ _ (by rw [hl]; exact Nat.le_refl _) fun _ => ?_
        rw [hi]
        exact p2 (by rw [hL]; simp)
    | map g n kk es hg hL =>
      cases hu with
      | map _ _ _ p1 p2 =>
        refine .map _ _ _ (by rw [hl]; exact Nat.le_refl _) fun _ => ?_
        rw [hi]
        exact p2 (by rw [hL]; simp)
    | _ => exact absurd rfl ho
  have hL0 : ∀ q n T, tabAt L' q n = some T → n = 1 ∧ tabAt s.L q (s.L (tb q)).1 = some T ∧ (L' (tb q)).1 = 1 := by
    intro q n T hT
    obtain ⟨wr, e1, e2, e3⟩ := tabAt_spec hT
    rcases hLt q with ⟨wr', T', e4, e5⟩ | e4
    · have := hTab q _ e3
      have hn : n = 1 := by rw [← e2, e4]
      refine ⟨hn, ?_, by rw [e4]⟩
      unfold tabAt Loc.get
      rw [if_pos rfl, tab_get.1 this]
    · unfold tabOf at e3; rw [e4] at e3; cases e3
  have hone : ∀ q, (∃ T, tabOf s.L q = some T) ∨ True := fun q => .inr trivial
  refine ⟨c', ⟨fun g => ?_, fun g g' b e1 e2 d1 d2 => ?_, fun g b e d => ?_, fun g b e d _ hg => ?_, (hr.mem.tab.fewer (L' := L') hTab).swap rfl rfl (fun _ => Iff.rfl) (fun _ h => h), fun q => ?_, fun q => ?_, hr.mem.size, hr.mem.size0,
      hr.mem.os, hr.mem.tape, hr.mem.output, hr.mem.keep, hr.mem.osub⟩, ⟨?_, fun i v u hv hu => ?_⟩, hr.defers, hr.hγ, fun q hq => ?_, fun g hg => ?_, hr.cells⟩
  · show ObjOk c' L' w N (c'.ι g) (L' g).2
    by_cases hgt : ∃ q, g = tb q
    · obtain ⟨q, rfl⟩ := hgt
      rcases hLt q with ⟨wr, T, e, _⟩ | e <;> rw [e] <;> trivial
    have hgt : ∀ q, g ≠ tb q := fun q e => hgt ⟨q, e⟩
    by_cases hd : (L' g).2 = .dead
    · rw [hd]; trivial
    · obtain ⟨n1, n2, n3, n4⟩ := hkind g hgt hd
      cases hb : c'.ι g with
      | some b =>
        obtain ⟨g0, n, k1, k2, _⟩ := hlive g b hd hb
        obtain ⟨_, e2⟩ := get_at k1 hd
        have := hr.mem.obj g0
        rw [e2, k2] at this
        revert this
        generalize (L' g).2 = y at *
        intro this
        cases y with
        | dead => trivial
        | tbl => trivial
        | box ag ds =>
          obtain ⟨b, x, T, fz, p1, p2, p3, p4, p5⟩ := this
          exact ⟨b, x, T, fz, p1, p2, p3, p4, fun i d u hd hu => ⟨(p5 i d u hd hu).1.out hown (Nat.le_refl _), (p5 i d u hd hu).2⟩⟩
        | vbox => exact absurd rfl (n1 _ _ _ _)
        | fbox => exact absurd rfl (n2 _ _)
        | trow => exact absurd rfl (n3 _ _)
        | arr sz els lv =>
          simp only [ObjOk] at this ⊢
          obtain ⟨x, T, fz, p1, p2, p3, vs, p4⟩ := this
          exact ⟨x, T, fz, p1, p2, p3, vs, fun i d hd => ⟨(p4 i d hd).1.out hown (Nat.le_refl _), (p4 i d hd).2⟩⟩
        | map kk es =>
          obtain ⟨b, m, k, p1, p2, p3, p4⟩ := this
          exact ⟨b, m, k, p1, p2, p3, fun i p q hp hq => ⟨(p4 i p q hp hq).1, (p4 i p q hp hq).2.out hown (Nat.le_refl _)⟩⟩
      | none =>
        rw [hLo g hgt] at hd ⊢
        obtain ⟨j, v, o, rfl, hg9, he, ho, hl⟩ := locOf_some hd
        obtain ⟨v0, q, k1, k2, k3⟩ := hent j _ he
        rw [hι j q hg9 k2] at hb
        rw [hl]
        dsimp only at k3 ⊢
        cases k3 with
        | own g n sz els hg hL =>
          have hb : c.ι g = none := hb
          have := hr.mem.obj g
          obtain ⟨_, e2⟩ := get_at hL (by simp)
          rw [e2, hb] at this
          exact this
        | nil => exact rfl
        | box g n ag ds hg hL =>
          have hb : c.ι g = none := hb
          have := hr.mem.obj g
          obtain ⟨_, e2⟩ := get_at hL (by simp)
          rw [e2, hb] at this
          obtain ⟨b, _, _, _, p, _⟩ := this
          cases p
        | map g n kk es hg hL =>
          have hb : c.ι g = none := hb
          have := hr.mem.obj g
          obtain ⟨_, e2⟩ := get_at hL (by simp)
          rw [e2, hb] at this
          obtain ⟨b, _, _, p, _⟩ := this
          cases p
        | _ => exact absurd rfl ho
  · obtain ⟨g0, n, k1, k2, _, j, rfl, kj⟩ := hlive g b d1 e1
    obtain ⟨g0', n', k1', k2', _, j', rfl, kj'⟩ := hlive g' b d2 e2
    obtain ⟨_, q1⟩ := get_at k1 d1
    obtain ⟨_, q2⟩ := get_at k1' d2
    have := hr.mem.inj g0 g0' b k2 k2' (by rw [q1]; exact d1) (by rw [q2]; exact d2)
    subst this
    rw [hdis j j' g0 kj kj']
  · obtain ⟨g0, n, k1, k2, _⟩ := hlive g b d e
    obtain ⟨_, q1⟩ := get_at k1 d
    exact hr.mem.mine g0 b k2 (by rw [q1]; exact d)
  · obtain ⟨g0, n, k1, k2, k9, _⟩ := hlive g b d e
    obtain ⟨_, q1⟩ := get_at k1 d
    refine hr.mem.mineN g0 b k2 (by rw [q1]; exact d) (fun sz els e3 => ?_) k9
    rw [q1] at e3
    exact (hkind g (hnt g b e) d).2.2.1 sz els e3
  · show (if base ≤ tb q ∧ tb q < 90000 then _ else none) = none
    rw [if_neg (by unfold tb; omega)]
  · show (L' (tb q)).2 = .dead ∨ ∃ wr T, (L' (tb q)).2 = .tbl wr T
    rcases hLt q with ⟨wr, T, e, _⟩ | e
    · rw [e]; exact .inr ⟨_, _, rfl⟩
    · rw [e]; exact .inl rfl
  · show a.tmps.toList.length = (es.map (·.1) ++ List.replicate (s.slots.length - es.length) (V.d .undef)).length
    have := hr.slots.1
    simp only [List.length_append, List.length_map, List.length_replicate]; omega
  · show Val c' L' w N v u
    have hv : (es.map (·.1) ++ List.replicate (s.slots.length - es.length) (V.d .undef))[i]? = some v := hv
    by_cases hi : i < es.length
    · rw [List.getElem?_append_left (by simpa using hi), List.getElem?_map] at hv
      cases he : es[i]? with
      | none => rw [he] at hv; cases hv
      | some e =>
        rw [he] at hv
        obtain ⟨v', o⟩ := e
        have hv' : v' = v := by simpa using hv
        subst hv'
        obtain ⟨v0, q, k1, k2, k3⟩ := hent i _ he
        dsimp only at k3
        have hu0 := hr.slots.2 i v0 u k1 hu
        by_cases ho : o = .dead
        · subst ho
          cases k3 with
          | drop => exact .d _ _ (.undef _)
          | keep d => exact .d _ _ (hu0.dat.out hown (Nat.le_refl _))
          | sameR j g n off len e1 e2 =>
            obtain ⟨e', p1, p2, p3⟩ := entries_at (sj := sj) ss 0 j x (.inl e2)
            simp only [Nat.zero_add] at p3
            obtain ⟨v1, q1, r1, r2, r3⟩ := hent j e' p1
            rw [e1] at r1; cases r1
            have := hval j _ e'.1 q1 e'.2 u e1 p1 r2 r3 hu0 p2
            rw [p3] at this
            exact this
          | sameP j g n off e1 e2 =>
            obtain ⟨e', p1, p2, p3⟩ := entries_at (sj := sj) ss 0 j x (.inr e2)
            simp only [Nat.zero_add] at p3
            obtain ⟨v1, q1, r1, r2, r3⟩ := hent j e' p1
            rw [e1] at r1; cases r1
            have := hval j _ e'.1 q1 e'.2 u e1 p1 r2 r3 hu0 p2
            rw [p3] at this
            exact this
          | ptr q y _ hq =>
            rcases hq with ⟨k', hq⟩ | hq <;> rw [hq] at hu0
            · cases hu0 with
              | p _ _ _ hr => exact .p _ _ _ (hr.out hown (Nat.le_refl _))
            · exact .p _ _ _ (hu0.dat.out hown (Nat.le_refl _))
          | view q n i' o' lo len hn hq =>
            cases hu0 with
            | vref _ _ _ _ _ _ _ p1 p2 =>
              refine .vref _ _ _ _ _ _ _ (by rw [hLi q hq]; exact Nat.le_refl _) fun l hl => ?_
              obtain ⟨wr, T, f1, f2, f3, f4⟩ := rowOf_spec hl
              have f5 := hTab q _ f3
              exact p2 l (rowOf_mk (wr := wr) (T := T) (by unfold Loc.get; rw [if_pos hn.symm, tab_get.1 f5]) f4)
          | vmp q n i' o' hn hq =>
            cases hu0 with
            | vmap _ _ _ _ _ p1 p2 =>
              refine .vmap _ _ _ _ _ (by rw [hLi q hq]; exact Nat.le_refl _) fun l hl => ?_
              obtain ⟨wr, T, f1, f2, f3, f4⟩ := mapOf_spec hl
              have f5 := hTab q _ f3
              exact p2 l (mapOf_mk (wr := wr) (T := T) (by unfold Loc.get; rw [if_pos hn.symm, tab_get.1 f5]) f4)
          | clo f _ hq =>
            rcases hq with hq | hq <;> rw [hq] at hu0
            · cases hu0 with
              | clo _ _ _ va vb q1 q2 _ _ => exact .clo _ _ _ va vb q1 q2 (fun i v u h _ => by cases h) (fun i v u h _ => by cases h)
            · have := hu0.dat
              cases this with
              | fn _ _ _ va vb q1 q2 _ _ => exact .clo _ _ _ va vb q1 q2 (fun i v u h _ => by cases h) (fun i v u h _ => by cases h)
        · exact hval i _ v' q o u k1 he k2 k3 hu0 ho
    · rw [List.getElem?_append_right (by simpa using hi)] at hv
      have := List.mem_of_getElem? hv
      rw [List.mem_replicate] at this
      rw [this.2]
      exact .d _ _ (.undef _)
  · obtain ⟨a1, a2, a3⟩ := hr.stay q hq
    exact ⟨fun T e => a1 T (hTab q _ e), a2, a3⟩
  · have hg : (L' g).1 = 0 := hg
    refine .inl ?_
    show (L' g).2 = .dead
    by_cases hgt : ∃ q, g = tb q
    · obtain ⟨q, rfl⟩ := hgt
      rcases hLt q with ⟨wr, T, e, _⟩ | e
      · rw [e] at hg; cases hg
      · rw [e]
    · have hgt : ∀ q, g ≠ tb q := fun q e => hgt ⟨q, e⟩
      rw [hLo g hgt] at hg ⊢
      refine Classical.byContradiction fun hd => ?_
      obtain ⟨j, v, o, rfl, hg9, he, ho, hl⟩ := locOf_some hd
      rw [hl] at hg; cases hg
end
end Wf

/-
  Code, so that what it comes to can be read off; and that it does come to that.
-/
namespace Wf
open Go Go.RowKit

def nl : Code → Nat
  | .seq a b => nl a + nl b
  | .cond _ a b => 1 + nl a + nl b
  | .block _ b => nl b
  | .scope b => nl b
  | .loop b => 1 + nl b
  | _ => 0

/-- What is told ahead about a function: shapes at loops and meetings; variables that become objects of tables, behind which region; parameters; its tables. -/
structure Ann where
  loops : List (Nat × List SS) := []
  pubs : List (Nat × List (Nat × TypeId × Nat)) := []
  hints : Hints := []
  pms : List (PM × Nat) := []
  ks : List (Nat × Bool) := []
def findA {α : Type} : List (Nat × α) → Nat → Option α
  | [], _ => none
  | (i, ss) :: r, j => if i = j then some ss else findA r j
def Ann.at (a : Ann) (i : Nat) : Option (List SS) := findA a.loops i
def Ann.pub (a : Ann) (i : Nat) : List (Nat × TypeId × Nat) := (findA a.pubs i).getD []

def setO (slots : List V) (c : Operand) (b : Bool) : List V := match c with
  | .tmp t => slots.set t (.d (.bool b))
  | _ => slots

section
variable {R : Type}

def updK (L : Loc) : Wr → (Loc → Option R) → Option R
  | [], k => k L
  | (g, x) :: w, k => updK (L.set g x) w k
def drun (P : Program) (Γ : Env) (o : Oper) (s : St) (k : St → Foot → Option R) : Option R :=
  forceL (o.op.operands.toList.map (evalV s.slots)) fun vs =>
  forceL (rdOf Γ o vs s.L) fun rd =>
  if 90000 ≤ o.dst.getD 0 then none else
  aopK P Γ o (evalV s.slots) (s.L.only rd) fun out => match out with
    | ⟨v, wr⟩ => forceL (putV s.slots o.dst v) fun slots => updK s.L wr fun L => k { slots, L } { rd, wr := wr.map (·.1) }

def dstep (P : Program) (Γ : Env) (ops : Array Oper) (o : Oper) (s : St) (k : St → Foot → Option R) : Option R :=
  match o.guard with
  | none => drun P Γ o s k
  | some (j, want) => match (ops[j]?).bind (·.dst) with
    | some d => match s.slots[d]? with
      | some (.d (.bool b)) => br b fun b => forceL (s.slots.set d (.d (.bool b))) fun slots => if b == want then drun P Γ o { s with slots } k
          else forceL (putV slots o.dst (.d (.tup []))) fun slots => k { s with slots } {}
      | some (.d (.tup [])) => forceL (putV s.slots o.dst (.d (.tup []))) fun slots => k { s with slots } {}
      | _ => none
    | none => none

def dreg (P : Program) (Γ : Env) (ops : Array Oper) : List Oper → St → List Foot → (St → List Foot → Option R) → Option R
  | [], s, acc, k => k s acc.reverse
  | o :: r, s, acc, k => dstep P Γ ops o s fun s f => dreg P Γ ops r s (f :: acc) k

/-- Slot j's variable becomes table q's last object. -/
def pubK (P : Program) (t : TypeId) (q j : Nat) (s : St) (k : St → Option R) : Option R :=
  match s.slots[j]? with
  | some (.ptr g n 0) => match tabOf s.L q with
    | some (true, T) => match s.L.get g n with
      | .box true ds => sif (tySize P t = some ds.length) (sif (ds.all D.own0ok = true) (letT (T ++ [ds.map D.own0]) fun T' =>
          forceL (s.slots.set j (.d (.h q T.length 0))) fun slots => k { slots, L := ((s.L.set g ((s.L g).1, .dead)).set (tb q) ((s.L (tb q)).1, .tbl true (T ++ [List.replicate ds.length .undef]))).set (tb q) ((s.L (tb q)).1 + 1, .tbl true T') }))
      | .vbox true ds ks vs => sif (tySize P t = some ds.length) (cellD1sK (appT s.L q g ds.length T) (ks.map fun z => rowSz q (0 + z)) vs fun xs w => sif (ds.all D.own0ok = true) (sif ((w.map (·.1)).Nodup) (sif (okOv ds.length ks vs = true)
          (letT (T ++ [setL (ds.map D.own0) ks xs]) fun T' => forceL (s.slots.set j (.d (.h q T.length 0))) fun slots => updK (appT s.L q g ds.length T) (w ++ [(tb q, ((s.L (tb q)).1 + 1, .tbl true T'))]) fun L => k { slots, L }))))
      | _ => none
    | _ => none
  | _ => none
def pubsK (P : Program) : List (Nat × TypeId × Nat) → St → (St → Option R) → Option R
  | [], s, k => k s
  | (j, t, q) :: r, s, k => pubK P t q j s fun s => pubsK P r s k

def coN (tks : List (Nat × Bool)) (n : Nat) (ss : List SS) (s : St) (k : SST ss → TbT tks → Option R) : Option R :=
  if s.slots.length = n then co tks ss s k else none
def SSK (tks : List (Nat × Bool)) (ss : List SS) (n : Nat) (x : SST ss) (Ts : TbT tks) (k : St → Option R) : Option R :=
  forceL (SSJ tks ss n x Ts).slots fun slots => k { slots, L := (SSJ tks ss n x Ts).L }
def setK (s : St) (c : Operand) (b : Bool) (k : St → Option R) : Option R := forceL (setO s.slots c b) fun slots => k { s with slots }

/-- What code comes to. -/
noncomputable def den (P : Program) (Γ : Env) (ann : Ann) (n : Nat) : Nat → Code → (AExit → St → Option R) → St → Option R
  | _, .skip, K, s => K .normal s
  | _, .label _, K, s => K .normal s
  | _, .exit id, K, s => K (.exit id) s
  | _, .ret, K, s => K .ret s
  | _, .region id ops false, K, s => dreg P Γ ops ops.toList s [] fun s _ => pubsK P (ann.pub id) s fun s => K .normal s
  | _, .region id ops true, K, s => if Region.lexB .any ops = true then dreg P Γ ops ops.toList s [] fun s log => if chk ops log = true then pubsK P (ann.pub id) s fun s => K .normal s else none else none
  | i, .seq a b, K, s => den P Γ ann n i a (fun e s => match e with
    | .normal => den P Γ ann n (i + nl a) b K s
    | e => K e s) s
  | i, .cond c x y, K, s => match evalV s.slots c with
    | .d (.bool b) => match ann.at i with
      | none => br b fun b => setK s c b fun s => if b then den P Γ ann n (i + 1) x K s else den P Γ ann n (i + 1 + nl x) y K s
      | some ss => jn (fun (a : SST ss × TbT ann.ks) => SSK ann.ks ss n a.1 a.2 fun s => K .normal s) fun j =>
        let K' : AExit → St → Option R := fun e s => match e with
          | .normal => coN ann.ks n ss s fun x Ts => j (x, Ts)
          | e => K e s
        br b fun b => setK s c b fun s => if b then den P Γ ann n (i + 1) x K' s else den P Γ ann n (i + 1 + nl x) y K' s
    | _ => none
  | i, .block id b, K, s => den P Γ ann n i b (fun e s => match e with
    | .exit id' => if id' = id then K .normal s else K (.exit id') s
    | e => K e s) s
  | i, .scope b, K, s => den P Γ ann n i b K s
  | i, .loop b, K, s => match ann.at i with
    | some ss => coN ann.ks n ss s fun x Ts => loopN (fun again (a : SST ss × TbT ann.ks) => SSK ann.ks ss n a.1 a.2 fun s => den P Γ ann n (i + 1) b (fun e s => match e with
        | .normal => coN ann.ks n ss s fun x Ts => again (x, Ts)
        | e => K e s) s) (x, Ts)
    | none => loopS i (fun again s => den P Γ ann n (i + 1) b (fun e s => match e with
        | .normal => again s
        | e => K e s) s) s
  | _, _, _, _ => none

end

section
variable {P : Program} {Γ : Env} {N : Nat} {w0 : World} {O0 : Nat → Prop} {γ0 : E0} {R : Type} {r : R}

theorem updK_eq (wr : Wr) (L : Loc) (k : Loc → Option R) : updK L wr k = k (L.upd wr) := by
  induction wr generalizing L with
  | nil => rfl
  | cons x w ih => exact ih _
theorem SSK_eq (tks : List (Nat × Bool)) (ss : List SS) (n : Nat) (x : SST ss) (Ts : TbT tks) (k : St → Option R) : SSK tks ss n x Ts k = k (SSJ tks ss n x Ts) := by unfold SSK; rw [forceL_eq]
theorem setK_eq {s : St} {c : Operand} {b : Bool} (k : St → Option R) : setK s c b k = k { s with slots := setO s.slots c b } := by unfold setK; rw [forceL_eq]
theorem drun_some {o : Oper} {ops : Array Oper} {s : St} {k : St → Foot → Option R} (h : drun P Γ o s k = some r) (hgu : aguard ops s.slots o = some true) :
    ∃ s' f, astep P Γ ops o s = some (s', f) ∧ k s' f = some r := by
  unfold drun at h
  rw [forceL_eq, forceL_eq] at h
  split at h
  · cases h
  rename_i hlt
  obtain ⟨out, h1, h2⟩ := aopK_some h
  obtain ⟨v, wr⟩ := out
  dsimp only at h2
  rw [forceL_eq, updK_eq] at h2
  refine ⟨_, _, ?_, h2⟩
  unfold astep
  rw [hgu]
  dsimp only
  rw [if_neg hlt, h1]
  rfl

theorem set_same {α : Type} {l : List α} {i : Nat} {x : α} (h : l[i]? = some x) : l.set i x = l := by
  apply List.ext_getElem?
  intro j
  rw [List.getElem?_set]
  split
  · rename_i e; subst e
    rw [h]
    split
    · rfl
    · rename_i hn
      exact absurd (List.getElem?_eq_some_iff.1 h).1 hn
  · rfl

theorem dstep_some {o : Oper} {ops : Array Oper} {s : St} {k : St → Foot → Option R} (h : dstep P Γ ops o s k = some r) : ∃ s' f, astep P Γ ops o s = some (s', f) ∧ k s' f = some r := by
  unfold dstep at h
  split at h
  · rename_i hg
    exact drun_some h (by unfold aguard; rw [hg])
  · rename_i j want hg
    split at h
    · rename_i d hd
      split at h
      · rename_i b hb
        have h := br_some h
        have hs := set_same hb
        rw [forceL_eq, hs] at h
        split at h
        · rename_i hw
          exact drun_some h (by unfold aguard; rw [hg]; dsimp only; rw [hd]; dsimp only [Option.bind_some]; rw [hb]; dsimp only; rw [hw])
        · rename_i hw
          simp only [Bool.not_eq_true] at hw
          rw [forceL_eq] at h
          refine ⟨_, _, ?_, h⟩
          unfold astep aguard
          rw [hg]; dsimp only; rw [hd]; dsimp only [Option.bind_some]; rw [hb]; dsimp only; rw [hw]
      · rename_i hb
        rw [forceL_eq] at h
        refine ⟨_, _, ?_, h⟩
        unfold astep aguard
        rw [hg]; dsimp only; rw [hd]; dsimp only [Option.bind_some]; rw [hb]
      · cases h
    · cases h

theorem dreg_some {ops : Array Oper} : ∀ {l : List Oper} {s : St} {acc : List Foot} {k : St → List Foot → Option R}, dreg P Γ ops l s acc k = some r →
    ∃ s' log, arunD P Γ ops l s = some (s', log) ∧ k s' (acc.reverse ++ log) = some r
  | [], s, acc, k, h => ⟨s, [], rfl, by have h : k s acc.reverse = some r := h; simpa using h⟩
  | o :: l, s, acc, k, h => by
    obtain ⟨s1, f, h1, h2⟩ := dstep_some h
    obtain ⟨s2, log, h3, h4⟩ := dreg_some h2
    exact ⟨s2, f :: log, by simp only [arunD, h1, Option.bind_some, h3, Option.map_some], by simpa using h4⟩

theorem arun_arunD {ops : Array Oper} : ∀ {l : List Oper} {s s' : St} {log : List Foot}, arunD P Γ ops l s = some (s', log) → arun P Γ ops l s = some s'
  | [], s, s', log, h => by injection h with h; injection h with h1 h2; subst h1; rfl
  | o :: l, s, s', log, h => by
    simp only [arunD] at h
    cases h1 : astep P Γ ops o s with
    | none => rw [h1] at h; cases h
    | some x =>
      rw [h1] at h
      simp only [Option.bind_some] at h
      cases h2 : arunD P Γ ops l x.1 with
      | none => rw [h2] at h; cases h
      | some y =>
        rw [h2] at h
        injection h with h; injection h with h3 h4
        simp only [arun, h1, Option.bind_some]
        exact arun_arunD (log := y.2) (by rw [h2, ← h3])

theorem setCells_last {T : Tb} {m : Nat} {xs : List D} (h : xs.length = m) : setCells (T ++ [List.replicate m .undef]) T.length 0 xs = T ++ [xs] := by
  unfold setCells
  rw [List.getElem?_append_right (Nat.le_refl _)]
  simp [h]
theorem get_last {T : Tb} {y : List D} : (T ++ [y])[T.length]? = some y := by rw [List.getElem?_append_right (Nat.le_refl _)]; simp
theorem appT_tab {L : Loc} {k g m : Nat} {T : Tb} : tabOf (appT L k g m T) k = some (true, T ++ [List.replicate m .undef]) := by
  unfold appT; rw [tabOf_set, if_pos rfl]
theorem appT_ver {L : Loc} {k g m : Nat} {T : Tb} : (appT L k g m T).new (tb k) = (L (tb k)).1 + 1 := by
  unfold appT Loc.new; rw [Loc.set_same]
theorem pubK_some {t : TypeId} {q j : Nat} {s : St} {k : St → Option R} (h : pubK P t q j s k = some r) : ∃ s', pubS P t q j s = some s' ∧ k s' = some r := by
  unfold pubK at h
  split at h
  rotate_left
  · cases h
  rename_i g n hs
  split at h
  rotate_left
  · cases h
  rename_i T hT
  have key : ∀ {x : D × Loc}, pubL P t q g n s.L = some x → k { slots := s.slots.set j (.d x.1), L := x.2 } = some r → ∃ s', pubS P t q j s = some s' ∧ k s' = some r := by
    intro x hx hk
    exact ⟨_, by unfold pubS; rw [hs]; show (pubL P t q g n s.L).map _ = _; rw [hx]; rfl, hk⟩
  split at h
  · rename_i ds e
    obtain ⟨h1, h2⟩ := sif_some h
    obtain ⟨h3, h4⟩ := sif_some h2
    have h5 := letT_some h4
    rw [forceL_eq] at h5
    have this : storeT (appT s.L q g ds.length T) q T.length 0 ds.length true false (.d (.agg ds)) = some { v := .d (.tup []), wr := [(tb q, ((s.L (tb q)).1 + 1, .tbl true (T ++ [ds.map D.own0])))] } := by
      unfold storeT
      rw [appT_tab]
      dsimp only
      rw [get_last]
      dsimp only
      rw [if_pos (by simp), if_neg (by simp), if_pos rfl, if_pos ⟨rfl, h3⟩, appT_ver, setCells_last (by simp)]
    refine key (x := (_, _)) ?_ h5
    unfold pubL
    simp only [hT, e]
    rw [if_pos h1, this]
    rfl
  · rename_i ds ks vs e
    obtain ⟨h1, h2⟩ := sif_some h
    obtain ⟨xs, w, h3, h4⟩ := cellD1sK_some h2
    obtain ⟨hc, h5⟩ := sif3_some h4
    have h5 := letT_some h5
    rw [forceL_eq, updK_eq] at h5
    have this : storeT (appT s.L q g ds.length T) q T.length 0 ds.length true false (.agg ds ks vs) = some { v := .d (.tup []), wr := w ++ [(tb q, ((s.L (tb q)).1 + 1, .tbl true (T ++ [setL (ds.map D.own0) ks xs])))] } := by
      unfold storeT
      rw [appT_tab]
      dsimp only
      rw [get_last]
      dsimp only
      rw [if_pos (by simp), if_neg (by simp), if_pos rfl, h3]
      dsimp only [Option.bind_some]
      rw [if_pos ⟨rfl, hc⟩, appT_ver, setCells_last (by rw [setL_len]; simp)]
    refine key (x := (_, _)) ?_ h5
    unfold pubL
    simp only [hT, e]
    rw [if_pos h1, this]
    rfl
  · cases h
theorem pubsK_some {r : R} : ∀ {l : List (Nat × TypeId × Nat)} {s : St} {k : St → Option R}, pubsK P l s k = some r →
    ∃ s', k s' = some r ∧ ∀ {a : Act} {w : World}, Rel N w0 O0 γ0 s a w → Rel N w0 O0 γ0 s' a w
  | [], s, k, h => ⟨s, h, fun hr => hr⟩
  | (j, t, q) :: l, s, k, h => by
    obtain ⟨s1, h1, h2⟩ := pubK_some h
    obtain ⟨s2, h3, h4⟩ := pubsK_some h2
    exact ⟨s2, h3, fun hr => h4 (pubS_ok h1 hr)⟩

theorem coN_ok {tks : List (Nat × Bool)} {n : Nat} {ss : List SS} {s : St} {k : SST ss → TbT tks → Option R} (h : coN tks n ss s k = some r) :
    ∃ x Ts, k x Ts = some r ∧ ∀ {a : Act} {w : World}, Rel N w0 O0 γ0 s a w → Rel N w0 O0 γ0 (SSJ tks ss n x Ts) a w := by
  unfold coN at h
  split at h
  · rename_i e; rw [← e]; exact co_ok h
  · cases h

theorem setO_rel {s : St} {c : Operand} {b : Bool} (h : evalV s.slots c = .d (.bool b)) : ({ s with slots := setO s.slots c b } : St) = s := by
  unfold setO
  cases c with
  | tmp t =>
    simp only [evalV] at h
    have : s.slots[t]? = some (.d (.bool b)) := by
      rw [List.getD_eq_getElem?_getD] at h
      cases hx : s.slots[t]? with
      | none => rw [hx] at h; cases h
      | some v => rw [hx] at h; exact congrArg some h
    dsimp only
    rw [set_same this]
  | _ => rfl

theorem den_ok (hΓ : ∀ f sp, Γ f = some sp → Sound P f sp) (hP : P.follows .mixedOrders = true) {ann : Ann} {n : Nat} : ∀ (c : Code) (i : Nat) (K : AExit → St → Option R) (s : St) (a : Act) (w : World),
    den P Γ ann n i c K s = some r → Rel N w0 O0 γ0 s a w → ∀ Q' : Exit → Act → World → Prop, (∀ e s a w, K e s = some r → Rel N w0 O0 γ0 s a w → Q' e.real a w) → c.wp P Q' a w
  | .skip, i, K, s, a, w, h, hr, Q', hQ => wp_skip (hQ .normal s a w h hr)
  | .label _, i, K, s, a, w, h, hr, Q', hQ => wp_label (hQ .normal s a w h hr)
  | .exit id, i, K, s, a, w, h, hr, Q', hQ => wp_exit (hQ (.exit id) s a w h hr)
  | .ret, i, K, s, a, w, h, hr, Q', hQ => wp_ret (hQ .ret s a w h hr)
  | .region id ops false, i, K, s, a, w, h, hr, Q', hQ => by
    obtain ⟨s', log, h1, h2⟩ := dreg_some h
    obtain ⟨s2, h3, h4⟩ := pubsK_some (N := N) (w0 := w0) (O0 := O0) (γ0 := γ0) h2
    exact region_text hΓ (arun_arunD h1) hr fun a w hr' => hQ .normal s2 a w h3 (h4 hr')
  | .region id ops true, i, K, s, a, w, h, hr, Q', hQ => by
    simp only [den] at h
    split at h
    · rename_i hl
      obtain ⟨s', log, h1, h2⟩ := dreg_some h
      split at h2
      · rename_i hc
        obtain ⟨s2, h3, h4⟩ := pubsK_some (N := N) (w0 := w0) (O0 := O0) (γ0 := γ0) h2
        exact region_drawn hΓ hP hl h1 (by simpa using hc) hr fun a w hr' => hQ .normal s2 a w h3 (h4 hr')
      · cases h2
    · cases h
  | .seq x y, i, K, s, a, w, h, hr, Q', hQ => by
    refine wp_seq (den_ok hΓ hP x i _ s a w h hr _ fun e s' a' w' he hr' => ?_)
    cases e with
    | normal => exact den_ok hΓ hP y _ K s' a' w' he hr' Q' hQ
    | exit id => exact hQ (.exit id) s' a' w' he hr'
    | ret => exact hQ .ret s' a' w' he hr'
  | .cond cc x y, i, K, s, a, w, h, hr, Q', hQ => by
    simp only [den] at h
    have hrx := hr
    obtain ⟨c, hr'⟩ := hr
    have hv := evalV_ok hr'.slots cc
    split at h
    · rename_i b e
      rw [e] at hv
      split at h
      · have h := br_some h
        rw [setK_eq, setO_rel e] at h
        cases b with
        | true => exact wp_cond_true hv.bool (den_ok hΓ hP x _ K s a w h hrx Q' hQ)
        | false => exact wp_cond_false hv.bool (den_ok hΓ hP y _ K s a w h hrx Q' hQ)
      · rename_i ss _
        unfold jn at h
        have h := br_some h
        rw [setK_eq, setO_rel e] at h
        have hj : ∀ (e : AExit) (s : St) (a : Act) (w : World), (match e with
            | .normal => coN ann.ks n ss s fun x G => SSK ann.ks ss n x G fun s => K .normal s
            | e => K e s) = some r → Rel N w0 O0 γ0 s a w → Q' e.real a w := by
          intro e s a w hk hr
          cases e with
          | normal =>
            obtain ⟨x, G, h1, h2⟩ := coN_ok (N := N) (w0 := w0) (O0 := O0) (γ0 := γ0) (k := fun x G => SSK ann.ks ss n x G fun s => K .normal s) hk
            rw [SSK_eq] at h1
            exact hQ .normal _ a w h1 (h2 hr)
          | exit id => exact hQ (.exit id) s a w hk hr
          | ret => exact hQ .ret s a w hk hr
        cases b with
        | true => exact wp_cond_true hv.bool (den_ok hΓ hP x _ _ s a w h hrx Q' hj)
        | false => exact wp_cond_false hv.bool (den_ok hΓ hP y _ _ s a w h hrx Q' hj)
    · cases h
  | .block id b, i, K, s, a, w, h, hr, Q', hQ => by
    refine wp_block (den_ok hΓ hP b i _ s a w h hr _ fun e s' a' w' he hr' => ?_)
    cases e with
    | normal => exact hQ .normal s' a' w' he hr'
    | exit id' =>
      dsimp only at he
      simp only [AExit.real, Exit.inBlock]
      split
      · rename_i hid
        rw [if_pos hid] at he
        exact hQ .normal s' a' w' he hr'
      · rename_i hid
        rw [if_neg hid] at he
        exact hQ (.exit id') s' a' w' he hr'
    | ret => exact hQ .ret s' a' w' he hr'
  | .scope b, i, K, s, a, w, h, hr, Q', hQ => by
    refine wp_scope_straight (den_ok hΓ hP b i K s a w h hr _ fun e s' a' w' he hr' => ?_)
    have := hQ e s' a' w' he hr'
    cases e <;> exact this
  | .loop b, i, K, s, a, w, h, hr, Q', hQ => by
    -- one way of going round for both
    have go : ∀ (α : Type) (J : α → St) (B : (α → Option R) → α → Option R) (a0 : α), loopN B a0 = some r → Rel N w0 O0 γ0 (J a0) a w →
        (∀ again x a w, B again x = some r → Rel N w0 O0 γ0 (J x) a w → ∀ Q'' : Exit → Act → World → Prop, (∀ x' a' w', again x' = some r → Rel N w0 O0 γ0 (J x') a' w' → Q'' .normal a' w') →
          (∀ e a' w', e ≠ AExit.normal → Q' e.real a' w' → Q'' e.real a' w') → b.wp P Q'' a w) → (Code.loop b).wp P Q' a w := by
      intro α J B a0 h0 hr0 hB
      classical
      let p : Act → World → Nat → Prop := fun a w m => ∃ x, fixN B m x = some r ∧ Rel N w0 O0 γ0 (J x) a w
      let m : Act → World → Nat := fun a w => if h : ∃ n, p a w n then Classical.choose (least (p a w) h) else 0
      have hm : ∀ a w, (∃ n, p a w n) → p a w (m a w) ∧ ∀ q, p a w q → m a w ≤ q := by
        intro a w he
        have hs := Classical.choose_spec (least (p a w) he)
        have hmm : m a w = Classical.choose (least (p a w) he) := dif_pos he
        rw [hmm]
        exact hs
      refine wp_loop (fun a w => ∃ n, p a w n) m ⟨fuel, a0, h0, hr0⟩ fun a w hI => ?_
      obtain ⟨⟨x, hx1, hx2⟩, hmin⟩ := hm a w hI
      cases hn : m a w with
      | zero => rw [hn] at hx1; cases hx1
      | succ q =>
        rw [hn] at hx1
        refine hB (fixN B q) x a w hx1 hx2 _ (fun x' a' w' he hr' => ?_) (fun e a' w' hne he => ?_)
        · refine ⟨⟨q, x', he, hr'⟩, ?_⟩
          have := (hm a' w' ⟨q, x', he, hr'⟩).2 q ⟨x', he, hr'⟩
          omega
        · cases e with
          | normal => exact absurd rfl hne
          | exit id => exact he
          | ret => exact he
    simp only [den] at h
    split at h
    · rename_i ss _
      obtain ⟨x, Ts, h1, h2⟩ := coN_ok (N := N) (w0 := w0) (O0 := O0) (γ0 := γ0) h
      refine go (SST ss × TbT ann.ks) (fun a => SSJ ann.ks ss n a.1 a.2) _ _ h1 (h2 hr) fun again x a w hB hr' Q'' hq1 hq2 => ?_
      rw [SSK_eq] at hB
      refine den_ok hΓ hP b _ _ _ a w hB hr' Q'' fun e s' a' w' he hr'' => ?_
      cases e with
      | normal =>
        obtain ⟨x', Ts', k1, k2⟩ := coN_ok (N := N) (w0 := w0) (O0 := O0) (γ0 := γ0) (k := fun x G => again (x, G)) he
        exact hq1 _ a' w' k1 (k2 hr'')
      | exit id => exact hq2 (.exit id) a' w' (by simp) (hQ (.exit id) s' a' w' he hr'')
      | ret => exact hq2 .ret a' w' (by simp) (hQ .ret s' a' w' he hr'')
    · refine go St id _ _ h hr fun again x a w hB hr' Q'' hq1 hq2 => ?_
      refine den_ok hΓ hP b _ _ _ a w hB hr' Q'' fun e s' a' w' he hr'' => ?_
      cases e with
      | normal => exact hq1 _ a' w' he hr''
      | exit id => exact hq2 (.exit id) a' w' (by simp) (hQ (.exit id) s' a' w' he hr'')
      | ret => exact hq2 .ret a' w' (by simp) (hQ .ret s' a' w' he hr'')
  | .rangeFunc _ _ _ _, i, K, s, a, w, h, hr, Q', hQ => by simp [den] at h
  | .goto _, i, K, s, a, w, h, hr, Q', hQ => by simp [den] at h
  | .refuse _, i, K, s, a, w, h, hr, Q', hQ => by simp [den] at h
end
end Wf

