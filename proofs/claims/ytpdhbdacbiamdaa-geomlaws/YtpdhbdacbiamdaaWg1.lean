/-
  A region of the machine over plain data, in whatever order.
-/
import Derived.Test.YtpdhbdacbiamdaaWfZ
set_option linter.unusedVariables false
set_option linter.unusedSimpArgs false
set_option linter.unnecessarySimpa false
namespace Wf
open Go Go.RowKit

section
variable {P : Program} {M : GM} {Γ : Env M} {ops : Array Oper}

/-- What an operation comes to, before it is laid down. -/
def comp (P : Program) (Γ : Env M) (ops : Array Oper) (o : Oper) (s : St M) : Option (Out M.S × Foot) :=
  match aguard ops s.slots o with
  | none => none
  | some false => some ({ v := .d (.tup []) }, {})
  | some true =>
    let vs := o.op.operands.toList.map (evalV s.slots)
    let rd := rdOf o vs s.L
    let g := gOf Γ o vs
    (aop P Γ o (evalV s.slots) (s.L.only rd) (if g = 0 then none else some s.G)).bind fun out =>
      if g = 2 ∨ out.gs = none then some (out, { rd, wr := out.wr.map (·.1), g }) else none

def act (s : St M) (dst : Option Tmp) (out : Out M.S) : St M := { slots := putV s.slots dst out.v, L := s.L.upd out.wr, G := out.gs.getD s.G }

theorem astep_comp (o : Oper) (s : St M) : astep P Γ ops o s = (comp P Γ ops o s).map fun x => (act s o.dst x.1, x.2) := by
  unfold astep comp
  cases aguard ops s.slots o with
  | none => rfl
  | some b =>
    cases b with
    | false => rfl
    | true =>
      dsimp only
      cases aop P Γ o (evalV s.slots) (s.L.only (rdOf o (o.op.operands.toList.map (evalV s.slots)) s.L)) (if gOf Γ o (o.op.operands.toList.map (evalV s.slots)) = 0 then none else some s.G) with
      | none => rfl
      | some out =>
        simp only [Option.bind_some]
        split <;> rfl

theorem comp_foot {o : Oper} {s : St M} {out : Out M.S} {f : Foot} (h : comp P Γ ops o s = some (out, f)) : f.wr = out.wr.map (·.1) ∧ (f.g = 2 ∨ out.gs = none) := by
  unfold comp at h
  split at h
  · cases h
  · injection h with h; injection h with h1 h2; subst h1; subst h2; exact ⟨rfl, .inr rfl⟩
  · dsimp only at h
    cases ha : aop P Γ o (evalV s.slots) (s.L.only (rdOf o (o.op.operands.toList.map (evalV s.slots)) s.L)) (if gOf Γ o (o.op.operands.toList.map (evalV s.slots)) = 0 then none else some s.G) with
    | none => rw [ha] at h; cases h
    | some x =>
      rw [ha] at h
      simp only [Option.bind_some] at h
      split at h
      · rename_i hg
        injection h with h; injection h with h1 h2; subst h1; subst h2
        exact ⟨rfl, hg⟩
      · cases h

theorem map_pair_congr {ρ ρ' : Operand → V} {ps : Array (Nat × Operand)} (h : ∀ x ∈ (ps.toList.map (·.2)), ρ x = ρ' x) : (ps.toList.map fun (i, x) => (i, ρ x)) = ps.toList.map fun (i, x) => (i, ρ' x) :=
  List.map_congr_left fun p hp => by obtain ⟨i, x⟩ := p; dsimp only; rw [h x (List.mem_map.2 ⟨_, hp, rfl⟩)]

theorem opt_map_congr {ρ ρ' : Operand → V} {x : Option Operand} (h : ∀ y ∈ x.toArray, ρ y = ρ' y) : x.map ρ = x.map ρ' := by
  cases x with
  | none => rfl
  | some y => simp [h y (by simp)]

theorem aop_congr {o : Oper} {ρ ρ' : Operand → V} (h : ∀ x ∈ o.op.operands, ρ x = ρ' x) (L : Loc) (G : Option M.S) : aop P Γ o ρ L G = aop P Γ o ρ' L G := by
  unfold aop
  cases hop : o.op <;> rw [hop] at h <;> try rfl
  case call cl =>
    obtain ⟨callee, args, argTypes⟩ := cl
    have hm : (∀ x ∈ args, ρ x = ρ' x) → args.toList.map ρ = args.toList.map ρ' := fun hh => List.map_congr_left fun x hx => hh x (by simpa using hx)
    cases callee with
    | invoke _ _ => rfl
    | value f =>
      have h1 : ρ f = ρ' f := h f (by simp [Op.operands, Call.operands])
      have h2 := hm fun x hx => h x (by simp [Op.operands, Call.operands, hx])
      dsimp only
      rw [h1, h2]
    | builtin b =>
      have h2 : ∀ x ∈ args, ρ x = ρ' x := fun x hx => h x (by simp [Op.operands, Call.operands, hx])
      have h3 := hm h2
      have h4 : ∀ l, args.toList = l → ∀ x ∈ l, ρ x = ρ' x := fun l hl x hx => h2 x (by rw [← Array.mem_toList_iff, hl]; exact hx)
      cases b <;> try rfl
      case len =>
        dsimp only
        generalize hl : args.toList = l
        split
        · rw [h4 _ hl _ (by simp)]
        · rename_i hn
          rfl
      case min => dsimp only; rw [h3]
      case max => dsimp only; rw [h3]
      case append =>
        dsimp only
        generalize hl : args.toList = l
        split
        · rw [h4 _ hl _ (by simp), h4 _ hl _ (List.mem_cons_of_mem _ (by simp))]
        · rfl
      case copy =>
        dsimp only
        generalize hl : args.toList = l
        split
        · rw [h4 _ hl _ (by simp), h4 _ hl _ (List.mem_cons_of_mem _ (by simp))]
        · rfl
  case build t ps =>
    dsimp only
    rw [map_pair_congr (ρ := ρ) (ρ' := ρ') fun x hx => h x (by simpa [Op.operands] using hx)]
  case buildSlice t n ps =>
    dsimp only
    rw [map_pair_congr (ρ := ρ) (ρ' := ρ') fun x hx => h x (by simpa [Op.operands] using hx)]
  case makeFunc fn a b =>
    have h1 : a.toList.map ρ = a.toList.map ρ' := List.map_congr_left fun x hx => h x (by simp [Op.operands]; exact .inl (by simpa using hx))
    have h2 : b.toList.map ρ = b.toList.map ρ' := List.map_congr_left fun x hx => h x (by simp [Op.operands]; exact .inr (by simpa using hx))
    cases fn <;> simp only [h1, h2]
  case makeMap t r => cases r <;> rfl
  case slice t x lo hi mx =>
    dsimp only
    have h0 : ρ x = ρ' x := h x (by simp [Op.operands])
    rw [h0, opt_map_congr (x := lo) (ρ := ρ) (ρ' := ρ') fun y hy => h y (by simp only [Op.operands, Array.mem_append]; simp at hy ⊢; simp [hy]),
      opt_map_congr (x := hi) (ρ := ρ) (ρ' := ρ') fun y hy => h y (by simp only [Op.operands, Array.mem_append]; simp at hy ⊢; simp [hy]),
      opt_map_congr (x := mx) (ρ := ρ) (ρ' := ρ') fun y hy => h y (by simp only [Op.operands, Array.mem_append]; simp at hy ⊢; simp [hy])]
  all_goals
    simp [Op.operands] at h
    simp only [h]

theorem evalV_put {slots : List V} {dst : Option Tmp} {v : V} {x : Operand} (h : ∀ d, dst = some d → x ≠ .tmp d) : evalV (putV slots dst v) x = evalV slots x := by
  cases dst with
  | none => rfl
  | some d =>
    cases x with
    | tmp t =>
      have : d ≠ t := fun e => h d rfl (by rw [e])
      simp only [evalV, putV, List.getD_eq_getElem?_getD, List.getElem?_set_ne this]
    | _ => rfl

theorem aguard_put {o : Oper} {slots : List V} {dst : Option Tmp} {v : V} (h : ∀ d, dst = some d → d ∉ o.looksAt ops) : aguard ops (putV slots dst v) o = aguard ops slots o := by
  cases dst with
  | none => rfl
  | some d =>
    unfold aguard
    cases hg : o.guard with
    | none => rfl
    | some gw =>
      obtain ⟨g, want⟩ := gw
      dsimp only
      cases hd : (ops[g]?).bind (·.dst) with
      | none => rfl
      | some d' =>
        have : d ≠ d' := by
          rintro rfl
          exact h d rfl (List.mem_append_right _ (by simp [hg, hd]))
        simp only [Option.bind_some, putV, List.getElem?_set_ne this]

theorem idsL_rd {o : Oper} {vs : List V} {L L' : Loc} (h : ∀ g ∈ rdOf o vs L', L g = L' g) : rdOf o vs L = rdOf o vs L' := by
  unfold rdOf at *
  congr 1
  split
  · rename_i hl
    simp only [hl, if_true] at h
    have hc : ∀ l : List Nat, (∀ g ∈ l, L g = L' g) → (l.flatMap fun g => g :: (match (L g).2 with | .vbox v => v.ids | _ => [])) = l.flatMap fun g => g :: (match (L' g).2 with | .vbox v => v.ids | _ => []) := by
      intro l
      induction l with
      | nil => intro _; rfl
      | cons g l ih =>
        intro hh
        simp only [List.flatMap_cons]
        rw [hh g (by simp), ih fun g' hg' => hh g' (by simp [hg'])]
    exact hc _ fun g hg => h g (List.mem_append_left _ (List.mem_flatMap.2 ⟨g, hg, by simp⟩))
  · rfl

theorem only_congr {L L' : Loc} {rd : List Nat} (h : ∀ g ∈ rd, L g = L' g) : L.only rd = L'.only rd := by
  funext g
  unfold Loc.only
  split
  · rename_i hg; exact h g hg
  · rfl

theorem comp_congr {o : Oper} {s s' : St M} {out : Out M.S} {f : Foot} (he : ∀ x ∈ o.op.operands, evalV s'.slots x = evalV s.slots x) (hg : aguard ops s'.slots o = aguard ops s.slots o)
    (hL : ∀ g ∈ f.rd, s'.L g = s.L g) (hG : f.g = 0 ∨ s'.G = s.G) (h : comp P Γ ops o s = some (out, f)) : comp P Γ ops o s' = some (out, f) := by
  unfold comp at h ⊢
  rw [hg]
  split at h
  · cases h
  · exact h
  · dsimp only at h ⊢
    have hvs : o.op.operands.toList.map (evalV s'.slots) = o.op.operands.toList.map (evalV s.slots) := List.map_congr_left fun x hx => he x (by simpa using hx)
    rw [hvs]
    cases ha : aop P Γ o (evalV s.slots) (s.L.only (rdOf o (o.op.operands.toList.map (evalV s.slots)) s.L)) (if gOf Γ o (o.op.operands.toList.map (evalV s.slots)) = 0 then none else some s.G) with
    | none => rw [ha] at h; cases h
    | some x =>
      rw [ha] at h
      simp only [Option.bind_some] at h
      split at h
      · rename_i hgg
        injection h with h; injection h with h1 h2; subst h1; subst h2
        dsimp only at hL hG
        rw [idsL_rd hL, only_congr hL, aop_congr he]
        have : (if gOf Γ o (o.op.operands.toList.map (evalV s.slots)) = 0 then none else some s'.G) = (if gOf Γ o (o.op.operands.toList.map (evalV s.slots)) = 0 then none else some s.G) := by
          rcases hG with hG | hG
          · simp only [hG, if_true]
          · rw [hG]
        rw [this, ha]
        simp only [Option.bind_some, if_pos hgg]
      · cases h

theorem upd_ne {wr : Wr} : ∀ {L : Loc} {g : Nat}, g ∉ wr.map (·.1) → L.upd wr g = L g := by
  induction wr with
  | nil => intros; rfl
  | cons x wr ih =>
    intro L g h
    obtain ⟨k, y⟩ := x
    simp only [List.map_cons, List.mem_cons, not_or] at h
    rw [Loc.upd, ih h.2, Loc.set_ne _ _ h.1]

theorem upd_congr {wr : Wr} : ∀ {L L' : Loc} {g : Nat}, L g = L' g → L.upd wr g = L'.upd wr g := by
  induction wr with
  | nil => intro L L' g h; exact h
  | cons x wr ih =>
    intro L L' g h
    obtain ⟨k, y⟩ := x
    rw [Loc.upd, Loc.upd]
    apply ih
    unfold Loc.set
    split
    · rfl
    · exact h

theorem upd_in {wr : Wr} : ∀ {L L' : Loc} {g : Nat}, g ∈ wr.map (·.1) → L.upd wr g = L'.upd wr g := by
  induction wr with
  | nil => intro L L' g h; simp at h
  | cons x wr ih =>
    intro L L' g h
    obtain ⟨k, y⟩ := x
    rw [Loc.upd, Loc.upd]
    by_cases hg : g ∈ wr.map (·.1)
    · exact ih hg
    · apply upd_congr
      simp only [List.map_cons, List.mem_cons] at h
      rcases h with h | h
      · subst h; rw [Loc.set_same, Loc.set_same]
      · exact absurd h hg

theorem upd_comm {a b : Wr} {L : Loc} (h : ∀ g ∈ a.map (·.1), g ∉ b.map (·.1)) : (L.upd a).upd b = (L.upd b).upd a := by
  funext g
  by_cases ha : g ∈ a.map (·.1)
  · rw [upd_ne (h g ha)]; exact upd_in ha
  · rw [upd_ne (wr := a) ha]
    exact upd_congr (upd_ne ha)

def indep' (a b : Foot) : Bool := (a.quiet && b.quiet) || indep a b

theorem indep_spec {a b : Foot} (h : indep' a b = true) : (∀ g ∈ a.wr, g ∉ b.rd) ∧ (∀ g ∈ b.wr, g ∉ a.rd) ∧ (∀ g ∈ a.wr, g ∉ b.wr) ∧ (a.g = 2 → b.g = 0) ∧ (b.g = 2 → a.g = 0) := by
  unfold indep' at h
  rw [Bool.or_eq_true] at h
  rcases h with h | h
  · simp [Foot.quiet] at h
    obtain ⟨⟨h1, h2⟩, h3, h4⟩ := h
    rw [h1, h3]
    exact ⟨by simp, by simp, by simp, fun e => absurd e h2, fun e => absurd e h4⟩
  · simp only [indep, Bool.and_eq_true, List.all_eq_true, Bool.not_eq_true', Bool.or_eq_true, beq_iff_eq] at h
    obtain ⟨⟨h1, h2⟩, h3⟩ := h
    refine ⟨fun g hg hb => ?_, fun g hg hb => ?_, fun g hg hb => ?_, fun e => ?_, fun e => ?_⟩
    · have := (h1 g hg).1; simp [hb] at this
    · have := h2 g hg; simp [hb] at this
    · have := (h1 g hg).2; simp [hb] at this
    · omega
    · omega

theorem astep_swap {oi oj : Oper} {s s1 s2 : St M} {fi fj : Foot} (hap : oi.apart ops oj = true) (hin : indep' fi fj = true) (h1 : astep P Γ ops oi s = some (s1, fi)) (h2 : astep P Γ ops oj s1 = some (s2, fj)) :
    ∃ s1', astep P Γ ops oj s = some (s1', fj) ∧ astep P Γ ops oi s1' = some (s2, fi) := by
  rw [astep_comp] at h1 h2
  cases hc1 : comp P Γ ops oi s with
  | none => rw [hc1] at h1; cases h1
  | some p1 =>
  obtain ⟨out1, f1⟩ := p1
  rw [hc1] at h1
  injection h1 with h1; injection h1 with e1 e2; subst e1; subst e2
  dsimp only at h2 hin ⊢
  cases hc2 : comp P Γ ops oj (act s oi.dst out1) with
  | none => rw [hc2] at h2; cases h2
  | some p2 =>
  obtain ⟨out2, f2⟩ := p2
  rw [hc2] at h2
  injection h2 with h2; injection h2 with e1 e2; subst e1; subst e2
  dsimp only at hin ⊢
  obtain ⟨a1, a2, a3⟩ := Oper.apart_spec hap
  obtain ⟨i1, i2, i3, i4, i5⟩ := indep_spec hin
  obtain ⟨w1, g1⟩ := comp_foot hc1
  obtain ⟨w2, g2⟩ := comp_foot hc2
  have hlook : ∀ {o : Oper} {dst : Option Tmp} {v : V} {slots : List V}, (∀ d, dst = some d → d ∉ o.looksAt ops) → ∀ x ∈ o.op.operands, evalV (putV slots dst v) x = evalV slots x := by
    intro o dst v slots hd x hx
    refine evalV_put fun d hdd hxd => hd d hdd ?_
    subst hxd
    exact List.mem_append_left _ (List.mem_filterMap.2 ⟨.tmp d, by simpa using hx, rfl⟩)
  have c2 : comp P Γ ops oj s = some (out2, f2) := by
    refine comp_congr (s := act s oi.dst out1) (fun x hx => (hlook a1 x hx).symm) (aguard_put a1).symm (fun g hg => ?_) ?_ hc2
    · refine (upd_ne ?_).symm
      rw [← w1]; exact fun hh => i1 g hh hg
    · rcases g1 with g1 | g1
      · exact .inl (i4 g1)
      · refine .inr ?_
        simp [act, g1]
  have c1 : comp P Γ ops oi (act s oj.dst out2) = some (out1, f1) := by
    refine comp_congr (s := s) (fun x hx => hlook a3 x hx) (aguard_put a3) (fun g hg => ?_) ?_ hc1
    · refine upd_ne ?_
      rw [← w2]; exact fun hh => i2 g hh hg
    · rcases g2 with g2 | g2
      · exact .inl (i5 g2)
      · refine .inr ?_
        simp [act, g2]
  refine ⟨act s oj.dst out2, ?_, ?_⟩
  · rw [astep_comp, c2]; rfl
  · rw [astep_comp, c1]
    simp only [Option.map_some]
    congr 2
    unfold act
    congr 1
    · cases hd1 : oi.dst with
      | none => rfl
      | some d1 =>
        cases hd2 : oj.dst with
        | none => rfl
        | some d2 =>
          have : d2 ≠ d1 := fun e => a2 d1 hd1 (by rw [hd2, e])
          exact List.set_comm _ _ this
    · refine (upd_comm ?_).symm
      rw [← w1, ← w2]; exact i3
    · rcases g1 with g1 | g1
      · have := i4 g1
        rcases g2 with g2 | g2
        · omega
        · simp [g2]
      · simp [g1]

/-- Every order, in the machine over plain data. -/
def AAny (P : Program) (Γ : Env M) (ops : Array Oper) (fp : Nat → Foot) (Q : St M → Prop) : Nat → Array Bool → St M → Prop
  | 0, listed, s => Region.ready .any ops listed = [] ∧ Q s
  | n + 1, listed, s => (Region.ready .any ops listed = [] → Q s) ∧
    ∀ i ∈ Region.ready .any ops listed, ∃ o s', ops[i]? = some o ∧ astep P Γ ops o s = some (s', fp i) ∧ AAny P Γ ops fp Q n (listed.setIfInBounds i true) s'

theorem aany_wp {N : Nat} {w0 : World} {O0 : Nat → Prop} {γ0 : Nat → Option Addr} (hM : M.Ok) (hΓ : ∀ f sp, Γ f = some sp → Sound P M f sp) {fp : Nat → Foot} {K : St M → Prop} {Q : Exit → Act → World → Prop}
    (hQ : ∀ s a w, K s → Rel M N w0 O0 γ0 s a w → Q .normal a w) : ∀ (n : Nat) (listed : Array Bool) (s : St M) (a : Act) (w : World), AAny P Γ ops fp K n listed s → Rel M N w0 O0 γ0 s a w → wpAny P .any ops Q n listed a w
  | 0, _, s, a, w, h, hr => ⟨h.1, hQ s a w h.2 hr⟩
  | n + 1, listed, s, a, w, h, hr => ⟨fun h0 => hQ s a w (h.1 h0) hr, fun i hi => by
      obtain ⟨o, s', ho, hst, hn⟩ := h.2 i hi
      exact astep_ok hM hΓ ho hst hr fun a' w' hr' => aany_wp hM hΓ hQ n _ s' a' w' hn hr'⟩

theorem aany_first {fp : Nat → Foot} {K : St M → Prop} {i : Nat} {oi : Oper} (hi : ops[i]? = some oi) : ∀ (fuel : Nat) (listed : Array Bool) (s s1 : St M),
    (∀ j oj, ops[j]? = some oj → j ≠ i → listed.getD j true = false → (∀ e ∈ oj.after, Region.binds .any e = true → e.on ≠ i) → oi.apart ops oj = true ∧ indep' (fp i) (fp j) = true) →
    i ∈ Region.ready .any ops listed → astep P Γ ops oi s = some (s1, fp i) → AAny P Γ ops fp K fuel (listed.setIfInBounds i true) s1 → AAny P Γ ops fp K (fuel + 1) listed s := by
  intro fuel
  induction fuel with
  | zero =>
    intro listed s s1 _ hr hst H
    refine ⟨fun h => (by rw [h] at hr; cases hr), fun j hj => ?_⟩
    by_cases hji : j = i
    · subst hji; exact ⟨oi, s1, hi, hst, H⟩
    · have := ready_mono hj hji
      rw [H.1] at this
      cases this
  | succ fuel ih =>
    intro listed s s1 hfree hr hst H
    refine ⟨fun h => (by rw [h] at hr; cases hr), fun j hj => ?_⟩
    by_cases hji : j = i
    · subst hji; exact ⟨oi, s1, hi, hst, H⟩
    · obtain ⟨oj, s2, hoj, hst2, H2⟩ := H.2 j (ready_mono hj hji)
      obtain ⟨hjun, oj', hoj', hall⟩ := mem_ready.1 hj
      rw [hoj] at hoj'; injection hoj' with hoj'; subst hoj'
      have hnot : ∀ e ∈ oj.after, Region.binds .any e = true → e.on ≠ i := fun e he hb heq => by
        have h1 := hall e he hb
        have h0 := (mem_ready.1 hr).1
        rw [heq] at h1
        rcases Nat.lt_or_ge i listed.size with h' | h'
        · simp [h'] at h0 h1; rw [h0] at h1; cases h1
        · simp [Array.getElem?_eq_none h'] at h1
      obtain ⟨hap, hin⟩ := hfree j oj hoj hji hjun hnot
      obtain ⟨s1', k1, k2⟩ := astep_swap hap hin hst hst2
      refine ⟨oj, s1', hoj, k1, ?_⟩
      refine ih (listed.setIfInBounds j true) s1' s2 (fun k ok hk hki hun hno => ?_) (ready_mono hr (Ne.symm hji)) k2 ?_
      · refine hfree k ok hk hki ?_ hno
        by_cases hjk : j = k
        · subst hjk; exact hjun
        · rw [getD_set_ne true hjk] at hun; exact hun
      · rw [Array.setIfInBounds_comm _ _ hji]
        exact H2

theorem aany_lex {fp : Nat → Foot} {K : St M → Prop} (hfp : ∀ i j oj, i < j → ops[j]? = some oj → (∀ e ∈ oj.after, Region.binds .any e = true → e.on ≠ i) → indep' (fp i) (fp j) = true) :
    ∀ (l : List Oper) (k : Nat) (listed : Array Bool) (s s' : St M) (log : List Foot), (∀ j, l[j]? = ops[k + j]?) → (∀ j, listed.getD j true = false → k ≤ j) →
    Region.lexFrom .any ops l.length k listed = true → arunD P Γ ops l s = some (s', log) → (∀ j, j < l.length → log[j]? = some (fp (k + j))) → K s' → AAny P Γ ops fp K l.length listed s
  | [], _, _, s, s', log, _, _, hB, h, _, hK => by
    simp only [arunD, Option.some.injEq, Prod.mk.injEq] at h
    rw [h.1]
    exact ⟨by simpa [Region.lexFrom] using hB, hK⟩
  | o :: l, k, listed, s, s', log, hl, hk, hB, h, hlog, hK => by
    have h0 : ops[k]? = some o := by simpa using (hl 0).symm
    simp only [List.length_cons, Region.lexFrom, Bool.and_eq_true] at hB
    obtain ⟨⟨hr, hf⟩, hB'⟩ := hB
    simp only [arunD] at h
    cases hst : astep P Γ ops o s with
    | none => rw [hst] at h; cases h
    | some p =>
      obtain ⟨s1, f⟩ := p
      rw [hst] at h
      simp only [Option.bind_some] at h
      cases hrest : arunD P Γ ops l s1 with
      | none => rw [hrest] at h; cases h
      | some q =>
        obtain ⟨s2, log'⟩ := q
        rw [hrest] at h
        simp only [Option.map_some, Option.some.injEq, Prod.mk.injEq] at h
        obtain ⟨e1, e2⟩ := h
        subst e1; subst e2
        have hf0 : f = fp k := by simpa using hlog 0 (by simp)
        subst hf0
        refine aany_first h0 l.length listed s s1 (fun j oj hj hne hun hno => ⟨Region.free_spec h0 hf j oj hj hne hun hno, hfp k j oj ?_ hj hno⟩) (by simpa using hr) hst ?_
        · have := hk j hun; omega
        · refine aany_lex hfp l (k + 1) _ s1 s2 log' (fun j => by have := hl (j + 1); simpa [Nat.add_assoc, Nat.add_comm 1 j] using this) (fun j hj => ?_) hB' hrest (fun j hj => ?_) hK
          · by_cases hjk : k = j
            · subst hjk
              have hlt : k < listed.size ∨ ¬ k < listed.size := Nat.lt_or_ge _ _ |>.imp id (by omega)
              rcases hlt with hlt | hlt
              · simp [hlt] at hj
              · simp [hlt] at hj
            · rw [getD_set_ne true hjk] at hj
              have := hk j hj; omega
          · have := hlog (j + 1) (by simpa using hj)
            simpa [Nat.add_assoc, Nat.add_comm 1 j] using this

theorem arunD_length : ∀ {l : List Oper} {s s' : St M} {log : List Foot}, arunD P Γ ops l s = some (s', log) → log.length = l.length
  | [], _, _, _, h => by simp only [arunD, Option.some.injEq, Prod.mk.injEq] at h; rw [← h.2]; rfl
  | o :: l, s, s', log, h => by
    simp only [arunD] at h
    cases hst : astep P Γ ops o s with
    | none => rw [hst] at h; cases h
    | some p =>
      rw [hst] at h
      simp only [Option.bind_some] at h
      cases hrest : arunD P Γ ops l p.1 with
      | none => rw [hrest] at h; cases h
      | some q =>
        rw [hrest] at h
        simp only [Option.map_some, Option.some.injEq, Prod.mk.injEq] at h
        rw [← h.2]
        simp [arunD_length (s' := q.1) (log := q.2) hrest]

theorem chk_spec {log : List Foot} (h : chk ops log = true) {i j : Nat} {a b : Foot} {oj : Oper} (hij : i < j) (ha : log[i]? = some a) (hb : log[j]? = some b) (hj : ops[j]? = some oj)
    (hno : ∀ e ∈ oj.after, Region.binds .any e = true → e.on ≠ i) : indep' a b = true := by
  unfold chk at h
  rw [Bool.or_eq_true] at h
  rcases h with h | h
  · rw [List.all_eq_true] at h
    unfold indep'
    rw [h a (List.mem_of_getElem? ha), h b (List.mem_of_getElem? hb)]; rfl
  · rw [List.all_eq_true] at h
    have h1 := h i (List.mem_range.2 (List.getElem?_eq_some_iff.1 ha).1)
    rw [List.all_eq_true] at h1
    have h2 := h1 j (List.mem_range.2 (List.getElem?_eq_some_iff.1 hb).1)
    rw [ha, hb] at h2
    simp only [Bool.or_eq_true, Bool.not_eq_true', decide_eq_false_iff_not] at h2
    rcases h2 with (h2 | h2) | h2
    · exact absurd hij h2
    · simp only [edge, hj] at h2
      obtain ⟨e, he, hbb⟩ := Array.any_eq_true'.1 h2
      simp only [Bool.and_eq_true, beq_iff_eq] at hbb
      exact absurd hbb.2 (hno e he hbb.1)
    · unfold indep'; simpa using h2

section
variable {N : Nat} {w0 : World} {O0 : Nat → Prop} {γ0 : Nat → Option Addr}

theorem Rel.drew (hM : M.Ok) {s : St M} {a : Act} {w : World} (h : Rel M N w0 O0 γ0 s a w) : Rel M N w0 O0 γ0 s a w.drew := by
  obtain ⟨c, h⟩ := h
  obtain ⟨m, g⟩ := h.mem.drew hM
  exact ⟨c, m, h.slots.grow g, h.defers, h.hγ, h.cells⟩

theorem region_drawn (hM : M.Ok) (hΓ : ∀ f sp, Γ f = some sp → Sound P M f sp) (hP : P.follows .mixedOrders = true) (hlex : Region.lexB .any ops = true) {id : Nat} {s s' : St M} {log : List Foot}
    (h : arunD P Γ ops ops.toList s = some (s', log)) (hc : chk ops log = true) {a : Act} {w : World} (hr : Rel M N w0 O0 γ0 s a w) {Q : Exit → Act → World → Prop}
    (hQ : ∀ a w, Rel M N w0 O0 γ0 s' a w → Q .normal a w) : (Code.region id ops true).wp P Q a w := by
  simp only [Region.lexB, Bool.and_eq_true] at hlex
  refine wp_region_any hP ?_
  have hA : AAny P Γ ops (fun i => log.getD i {}) (fun s => s = s') ops.toList.length (Array.replicate ops.size false) s := by
    refine aany_lex ?_ ops.toList 0 _ s s' log (by simp) (by simp) (by simpa using hlex.2) h (fun j hj => ?_) rfl
    · intro i j oj hij hj hno
      have hjl : j < log.length := by rw [arunD_length h]; simpa using (Array.getElem?_eq_some_iff.1 hj).1
      have e1 := List.getElem?_eq_getElem hjl
      have e2 := List.getElem?_eq_getElem (show i < log.length by omega)
      rw [List.getD_eq_getElem?_getD, List.getD_eq_getElem?_getD, e1, e2]
      exact chk_spec hc hij e2 e1 hj hno
    · have hjl : j < log.length := by rw [arunD_length h]; exact hj
      have e1 := List.getElem?_eq_getElem hjl
      rw [Nat.zero_add, List.getD_eq_getElem?_getD, e1]; rfl
  have := aany_wp (N := N) (w0 := w0) (O0 := O0) (γ0 := γ0) (Q := Q) hM hΓ (K := fun s => s = s') (fun s a w hs hr => by subst hs; exact hQ a w hr) _ _ s a w.drew hA (hr.drew hM)
  simpa using this

theorem arun_ok (hM : M.Ok) (hΓ : ∀ f sp, Γ f = some sp → Sound P M f sp) {Q : Exit → Act → World → Prop} : ∀ (l : List Oper) (k : Nat) (s s' : St M) (a : Act) (w : World), (∀ j, l[j]? = ops[k + j]?) →
    arun P Γ ops l s = some s' → Rel M N w0 O0 γ0 s a w → (∀ a w, Rel M N w0 O0 γ0 s' a w → Q .normal a w) → wpOps P ops Q (List.range' k l.length) a w
  | [], k, s, s', a, w, _, h, hr, hQ => by
    simp only [arun, Option.some.injEq] at h
    subst h
    exact hQ a w hr
  | o :: l, k, s, s', a, w, hl, h, hr, hQ => by
    have h0 : ops[k]? = some o := by simpa using (hl 0).symm
    simp only [arun] at h
    cases hst : astep P Γ ops o s with
    | none => rw [hst] at h; cases h
    | some p =>
      obtain ⟨s1, f⟩ := p
      rw [hst] at h
      simp only [Option.bind_some] at h
      simp only [List.length_cons, List.range'_succ]
      rw [wpOps_cons]
      exact astep_ok hM hΓ h0 hst hr fun a' w' hr' => arun_ok hM hΓ l (k + 1) s1 s' a' w' (fun j => by have := hl (j + 1); simpa [Nat.add_assoc, Nat.add_comm 1 j] using this) h hr' hQ

theorem region_text (hM : M.Ok) (hΓ : ∀ f sp, Γ f = some sp → Sound P M f sp) {id : Nat} {s s' : St M} (h : arun P Γ ops ops.toList s = some s') {a : Act} {w : World} (hr : Rel M N w0 O0 γ0 s a w)
    {Q : Exit → Act → World → Prop} (hQ : ∀ a w, Rel M N w0 O0 γ0 s' a w → Q .normal a w) : (Code.region id ops false).wp P Q a w := by
  refine wp_region ?_
  have := arun_ok (Q := Q) hM hΓ ops.toList 0 s s' a w (by simp) h hr hQ
  rw [List.range_eq_range']
  simpa using this
end
end
end Wf
