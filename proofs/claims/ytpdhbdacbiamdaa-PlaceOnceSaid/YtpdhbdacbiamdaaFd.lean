/-
  A region of the machine over plain data, in whatever order.
-/
import Derived.Scope
import Derived.ProofKit
import Derived.Test.YtpdhbdacbiamdaaFc
set_option linter.unusedVariables false
set_option linter.unusedSimpArgs false
set_option linter.unnecessarySimpa false
namespace Wf
open Go Go.RowKit

section
variable {P : Program} {M : GM} {Γ : Env M} {ops : Array Oper}

/-- What an operation comes to, before it is laid down. -/
def comp (P : Program) (Γ : Env M) (ops : Array Oper) (o : Oper) (s : St M) : Option (Out M.S × Foot) :=
  match aguard ops s.slots o with
  | none => none
  | some false => some ({ v := .d (.tup []) }, {})
  | some true =>
    let vs := o.op.operands.toList.map (evalV s.slots)
    let rd := rdOf o vs s.L
    let g := gOf Γ o vs
    (aop P Γ o (evalV s.slots) (s.L.only rd) (if g = 0 then none else some s.G)).bind fun out =>
      if g = 2 ∨ out.gs = none then some (out, { rd, wr := out.wr.map (·.1), g }) else none

def act (s : St M) (dst : Option Tmp) (out : Out M.S) : St M := { slots := putV s.slots dst out.v, L := s.L.upd out.wr, G := out.gs.getD s.G }

theorem astep_comp (o : Oper) (s : St M) : astep P Γ ops o s = (comp P Γ ops o s).map fun x => (act s o.dst x.1, x.2) := by
  unfold astep comp
  cases aguard ops s.slots o with
  | none => rfl
  | some b =>
    cases b with
    | false => rfl
    | true =>
      dsimp only
      cases aop P Γ o (evalV s.slots) (s.L.only (rdOf o (o.op.operands.toList.map (evalV s.slots)) s.L)) (if gOf Γ o (o.op.operands.toList.map (evalV s.slots)) = 0 then none else some s.G) with
      | none => rfl
      | some out =>
        simp only [Option.bind_some]
        split <;> rfl

theorem comp_foot {o : Oper} {s : St M} {out : Out M.S} {f : Foot} (h : comp P Γ ops o s = some (out, f)) : f.wr = out.wr.map (·.1) ∧ (f.g = 2 ∨ out.gs = none) := by
  unfold comp at h
  split at h
  · cases h
  · injection h with h; injection h with h1 h2; subst h1; subst h2; exact ⟨rfl, .inr rfl⟩
  · dsimp only at h
    cases ha : aop P Γ o (evalV s.slots) (s.L.only (rdOf o (o.op.operands.toList.map (evalV s.slots)) s.L)) (if gOf Γ o (o.op.operands.toList.map (evalV s.slots)) = 0 then none else some s.G) with
    | none => rw [ha] at h; cases h
    | some x =>
      rw [ha] at h
      simp only [Option.bind_some] at h
      split at h
      · rename_i hg
        injection h with h; injection h with h1 h2; subst h1; subst h2
        exact ⟨rfl, hg⟩
      · cases h

theorem map_pair_congr {ρ ρ' : Operand → V} {ps : Array (Nat × Operand)} (h : ∀ x ∈ (ps.toList.map (·.2)), ρ x = ρ' x) : (ps.toList.map fun (i, x) => (i, ρ x)) = ps.toList.map fun (i, x) => (i, ρ' x) :=
  List.map_congr_left fun p hp => by obtain ⟨i, x⟩ := p; dsimp only; rw [h x (List.mem_map.2 ⟨_, hp, rfl⟩)]

theorem opt_map_congr {ρ ρ' : Operand → V} {x : Option Operand} (h : ∀ y ∈ x.toArray, ρ y = ρ' y) : x.map ρ = x.map ρ' := by
  cases x with
  | none => rfl
  | some y => simp [h y (by simp)]

theorem aop_congr {o : Oper} {ρ ρ' : Operand → V} (h : ∀ x ∈ o.op.operands, ρ x = ρ' x) (L : Loc) (G : Option M.S) : aop P Γ o ρ L G = aop P Γ o ρ' L G := by
  unfold aop
  cases hop : o.op <;> rw [hop] at h <;> try rfl
  case call cl =>
    obtain ⟨callee, args, argTypes⟩ := cl
    have hm : (∀ x ∈ args, ρ x = ρ' x) → args.toList.map ρ = args.toList.map ρ' := fun hh => List.map_congr_left fun x hx => hh x (by simpa using hx)
    cases callee with
    | invoke _ _ => rfl
    | value f =>
      have h1 : ρ f = ρ' f := h f (by simp [Op.operands, Call.operands])
      have h2 := hm fun x hx => h x (by simp [Op.operands, Call.operands, hx])
      dsimp only
      rw [h1, h2]
    | builtin b =>
      have h2 : ∀ x ∈ args, ρ x = ρ' x := fun x hx => h x (by simp [Op.operands, Call.operands, hx])
      have h3 := hm h2
      have h4 : ∀ l, args.toList = l → ∀ x ∈ l, ρ x = ρ' x := fun l hl x hx => h2 x (by rw [← Array.mem_toList_iff, hl]; exact hx)
      cases b <;> try rfl
      case len =>
        dsimp only
        generalize hl : args.toList = l
        split
        · rw [h4 _ hl _ (by simp)]
        · rename_i hn
          rfl
      case min => dsimp only; rw [h3]
      case max => dsimp only; rw [h3]
      case append =>
        dsimp only
        generalize hl : args.toList = l
        split
        · rw [h4 _ hl _ (by simp), h4 _ hl _ (List.mem_cons_of_mem _ (by simp))]
        · rfl
      case copy =>
        dsimp only
        generalize hl : args.toList = l
        split
        · rw [h4 _ hl _ (by simp), h4 _ hl _ (List.mem_cons_of_mem _ (by simp))]
        · rfl
  case build t ps =>
    dsimp only
    rw [map_pair_congr (ρ := ρ) (ρ' := ρ') fun x hx => h x (by simpa [Op.operands] using hx)]
  case buildSlice t n ps =>
    dsimp only
    rw [map_pair_congr (ρ := ρ) (ρ' := ρ') fun x hx => h x (by simpa [Op.operands] using hx)]
  case makeFunc fn a b =>
    have h1 : a.toList.map ρ = a.toList.map ρ' := List.map_congr_left fun x hx => h x (by simp [Op.operands]; exact .inl (by simpa using hx))
    have h2 : b.toList.map ρ = b.toList.map ρ' := List.map_congr_left fun x hx => h x (by simp [Op.operands]; exact .inr (by simpa using hx))
    cases fn <;> simp only [h1, h2]
  case makeMap t r => cases r <;> rfl
  case slice t x lo hi mx =>
    dsimp only
    have h0 : ρ x = ρ' x := h x (by simp [Op.operands])
    rw [h0, opt_map_congr (x := lo) (ρ := ρ) (ρ' := ρ') fun y hy => h y (by simp only [Op.operands, Array.mem_append]; simp at hy ⊢; simp [hy]),
      opt_map_congr (x := hi) (ρ := ρ) (ρ' := ρ') fun y hy => h y (by simp only [Op.operands, Array.mem_append]; simp at hy ⊢; simp [hy]),
      opt_map_congr (x := mx) (ρ := ρ) (ρ' := ρ') fun y hy => h y (by simp only [Op.operands, Array.mem_append]; simp at hy ⊢; simp [hy])]
  all_goals
    simp [Op.operands] at h
    simp only [h]

theorem evalV_put {slots : List V} {dst : Option Tmp} {v : V} {x : Operand} (h : ∀ d, dst = some d → x ≠ .tmp d) : evalV (putV slots dst v) x = evalV slots x := by
  cases dst with
  | none => rfl
  | some d =>
    cases x with
    | tmp t =>
      have : d ≠ t := fun e => h d rfl (by rw [e])
      simp only [evalV, putV, List.getD_eq_getElem?_getD, List.getElem?_set_ne this]
    | _ => rfl

theorem aguard_put {o : Oper} {slots : List V} {dst : Option Tmp} {v : V} (h : ∀ d, dst = some d → d ∉ o.looksAt ops) : aguard ops (putV slots dst v) o = aguard ops slots o := by
  cases dst with
  | none => rfl
  | some d =>
    unfold aguard
    cases hg : o.guard with
    | none => rfl
    | some gw =>
      obtain ⟨g, want⟩ := gw
      dsimp only
      cases hd : (ops[g]?).bind (·.dst) with
      | none => rfl
      | some d' =>
        have : d ≠ d' := by
          rintro rfl
          exact h d rfl (List.mem_append_right _ (by simp [hg, hd]))
        simp only [Option.bind_some, putV, List.getElem?_set_ne this]

theorem idsL_rd {o : Oper} {vs : List V} {L L' : Loc} (h : ∀ g ∈ rdOf o vs L', L g = L' g) : rdOf o vs L = rdOf o vs L' := by
  unfold rdOf at *
  congr 1
  split
  · rename_i hl
    simp only [hl, if_true] at h
    have hc : ∀ l : List Nat, (∀ g ∈ l, L g = L' g) → (l.flatMap fun g => g :: (match (L g).2 with | .vbox v => v.ids | _ => [])) = l.flatMap fun g => g :: (match (L' g).2 with | .vbox v => v.ids | _ => []) := by
      intro l
      induction l with
      | nil => intro _; rfl
      | cons g l ih =>
        intro hh
        simp only [List.flatMap_cons]
        rw [hh g (by simp), ih fun g' hg' => hh g' (by simp [hg'])]
    exact hc _ fun g hg => h g (List.mem_append_left _ (List.mem_flatMap.2 ⟨g, hg, by simp⟩))
  · rfl

theorem only_congr {L L' : Loc} {rd : List Nat} (h : ∀ g ∈ rd, L g = L' g) : L.only rd = L'.only rd := by
  funext g
  unfold Loc.only
  split
  · rename_i hg; exact h g hg
  · rfl

theorem comp_congr {o : Oper} {s s' : St M} {out : Out M.S} {f : Foot} (he : ∀ x ∈ o.op.operands, evalV s'.slots x = evalV s.slots x) (hg : aguard ops s'.slots o = aguard ops s.slots o)
    (hL : ∀ g ∈ f.rd, s'.L g = s.L g) (hG : f.g = 0 ∨ s'.G = s.G) (h : comp P Γ ops o s = some (out, f)) : comp P Γ ops o s' = some (out, f) := by
  unfold comp at h ⊢
  rw [hg]
  split at h
  · cases h
  · exact h
  · dsimp only at h ⊢
    have hvs : o.op.operands.toList.map (evalV s'.slots) = o.op.operands.toList.map (evalV s.slots) := List.map_congr_left fun x hx => he x (by simpa using hx)
    rw [hvs]
    cases ha : aop P Γ o (evalV s.slots) (s.L.only (rdOf o (o.op.operands.toList.map (evalV s.slots)) s.L)) (if gOf Γ o (o.op.operands.toList.map (evalV s.slots)) = 0 then none else some s.G) with
    | none => rw [ha] at h; cases h
    | some x =>
      rw [ha] at h
      simp only [Option.bind_some] at h
      split at h
      · rename_i hgg
        injection h with h; injection h with h1 h2; subst h1; subst h2
        dsimp only at hL hG
        rw [idsL_rd hL, only_congr hL, aop_congr he]
        have : (if gOf Γ o (o.op.operands.toList.map (evalV s.slots)) = 0 then none else some s'.G) = (if gOf Γ o (o.op.operands.toList.map (evalV s.slots)) = 0 then none else some s.G) := by
          rcases hG with hG | hG
          · simp only [hG, if_true]
          · rw [hG]
        rw [this, ha]
        simp only [Option.bind_some, if_pos hgg]
      · cases h

theorem upd_ne {wr : Wr} : ∀ {L : Loc} {g : Nat}, g ∉ wr.map (·.1) → L.upd wr g = L g := by
  induction wr with
  | nil => intros; rfl
  | cons x wr ih =>
    intro L g h
    obtain ⟨k, y⟩ := x
    simp only [List.map_cons, List.mem_cons, not_or] at h
    rw [Loc.upd, ih h.2, Loc.set_ne _ _ h.1]

theorem upd_congr {wr : Wr} : ∀ {L L' : Loc} {g : Nat}, L g = L' g → L.upd wr g = L'.upd wr g := by
  induction wr with
  | nil => intro L L' g h; exact h
  | cons x wr ih =>
    intro L L' g h
    obtain ⟨k, y⟩ := x
    rw [Loc.upd, Loc.upd]
    apply ih
    unfold Loc.set
    split
    · rfl
    · exact h

theorem upd_in {wr : Wr} : ∀ {L L' : Loc} {g : Nat}, g ∈ wr.map (·.1) → L.upd wr g = L'.upd wr g := by
  induction wr with
  | nil => intro L L' g h; simp at h
  | cons x wr ih =>
    intro L L' g h
    obtain ⟨k, y⟩ := x
    rw [Loc.upd, Loc.upd]
    by_cases hg : g ∈ wr.map (·.1)
    · exact ih hg
    · apply upd_congr
      simp only [List.map_cons, List.mem_cons] at h
      rcases h with h | h
      · subst h; rw [Loc.set_same, Loc.set_same]
      · exact absurd h hg

theorem upd_comm {a b : Wr} {L : Loc} (h : ∀ g ∈ a.map (·.1), g ∉ b.map (·.1)) : (L.upd a).upd b = (L.upd b).upd a := by
  funext g
  by_cases ha : g ∈ a.map (·.1)
  · rw [upd_ne (h g ha)]; exact upd_in ha
  · rw [upd_ne (wr := a) ha]
    exact upd_congr (upd_ne ha)

def indep' (a b : Foot) : Bool := (a.quiet && b.quiet) || indep a b

theorem indep_spec {a b : Foot} (h : indep' a b = true) : (∀ g ∈ a.wr, g ∉ b.rd) ∧ (∀ g ∈ b.wr, g ∉ a.rd) ∧ (∀ g ∈ a.wr, g ∉ b.wr) ∧ (a.g = 2 → b.g = 0) ∧ (b.g = 2 → a.g = 0) := by
  unfold indep' at h
  rw [Bool.or_eq_true] at h
  rcases h with h | h
  · simp [Foot.quiet] at h
    obtain ⟨⟨h1, h2⟩, h3, h4⟩ := h
    rw [h1, h3]
    exact ⟨by simp, by simp, by simp, fun e => absurd e h2, fun e => absurd e h4⟩
  · simp only [indep, Bool.and_eq_true, List.all_eq_true, Bool.not_eq_true', Bool.or_eq_true, beq_iff_eq] at h
    obtain ⟨⟨h1, h2⟩, h3⟩ := h
    refine ⟨fun g hg hb => ?_, fun g hg hb => ?_, fun g hg hb => ?_, fun e => ?_, fun e => ?_⟩
    · have := (h1 g hg).1; simp [hb] at this
    · have := h2 g hg; simp [hb] at this
    · have := (h1 g hg).2; simp [hb] at this
    · omega
    · omega

theorem astep_swap {oi oj : Oper} {s s1 s2 : St M} {fi fj : Foot} (hap : oi.apart ops oj = true) (hin : indep' fi fj = true) (h1 : astep P Γ ops oi s = some (s1, fi)) (h2 : astep P Γ ops oj s1 = some (s2, fj)) :
    ∃ s1', astep P Γ ops oj s = some (s1', fj) ∧ astep P Γ ops oi s1' = some (s2, fi) := by
  rw [astep_comp] at h1 h2
  cases hc1 : comp P Γ ops oi s with
  | none => rw [hc1] at h1; cases h1
  | some p1 =>
  obtain ⟨out1, f1⟩ := p1
  rw [hc1] at h1
  injection h1 with h1; injection h1 with e1 e2; subst e1; subst e2
  dsimp only at h2 hin ⊢
  cases hc2 : comp P Γ ops oj (act s oi.dst out1) with
  | none => rw [hc2] at h2; cases h2
  | some p2 =>
  obtain ⟨out2, f2⟩ := p2
  rw [hc2] at h2
  injection h2 with h2; injection h2 with e1 e2; subst e1; subst e2
  dsimp only at hin ⊢
  obtain ⟨a1, a2, a3⟩ := Oper.apart_spec hap
  obtain ⟨i1, i2, i3, i4, i5⟩ := indep_spec hin
  obtain ⟨w1, g1⟩ := comp_foot hc1
  obtain ⟨w2, g2⟩ := comp_foot hc2
  have hlook : ∀ {o : Oper} {dst : Option Tmp} {v : V} {slots : List V}, (∀ d, dst = some d → d ∉ o.looksAt ops) → ∀ x ∈ o.op.operands, evalV (putV slots dst v) x = evalV slots x := by
    intro o dst v slots hd x hx
    refine evalV_put fun d hdd hxd => hd d hdd ?_
    subst hxd
    exact List.mem_append_left _ (List.mem_filterMap.2 ⟨.tmp d, by simpa using hx, rfl⟩)
  have c2 : comp P Γ ops oj s = some (out2, f2) := by
    refine comp_congr (s := act s oi.dst out1) (fun x hx => (hlook a1 x hx).symm) (aguard_put a1).symm (fun g hg => ?_) ?_ hc2
    · refine (upd_ne ?_).symm
      rw [← w1]; exact fun hh => i1 g hh hg
    · rcases g1 with g1 | g1
      · exact .inl (i4 g1)
      · refine .inr ?_
        simp [act, g1]
  have c1 : comp P Γ ops oi (act s oj.dst out2) = some (out1, f1) := by
    refine comp_congr (s := s) (fun x hx => hlook a3 x hx) (aguard_put a3) (fun g hg => ?_) ?_ hc1
    · refine upd_ne ?_
      rw [← w2]; exact fun hh => i2 g hh hg
    · rcases g2 with g2 | g2
      · exact .inl (i5 g2)
      · refine .inr ?_
        simp [act, g2]
  refine ⟨act s oj.dst out2, ?_, ?_⟩
  · rw [astep_comp, c2]; rfl
  · rw [astep_comp, c1]
    simp only [Option.map_some]
    congr 2
    unfold act
    congr 1
    · cases hd1 : oi.dst with
      | none => rfl
      | some d1 =>
        cases hd2 : oj.dst with
        | none => rfl
        | some d2 =>
          have : d2 ≠ d1 := fun e => a2 d1 hd1 (by rw [hd2, e])
          exact List.set_comm _ _ this
    · refine (upd_comm ?_).symm
      rw [← w1, ← w2]; exact i3
    · rcases g1 with g1 | g1
      · have := i4 g1
        rcases g2 with g2 | g2
        · omega
        · simp [g2]
      · simp [g1]

/-- Every order, in the machine over plain data. -/
def AAny (P : Program) (Γ : Env M) (ops : Array Oper) (fp : Nat → Foot) (Q : St M → Prop) : Nat → Array Bool → St M → Prop
  | 0, listed, s => Region.ready .any ops listed = [] ∧ Q s
  | n + 1, listed, s => (Region.ready .any ops listed = [] → Q s) ∧
    ∀ i ∈ Region.ready .any ops listed, ∃ o s', ops[i]? = some o ∧ astep P Γ ops o s = some (s', fp i) ∧ AAny P Γ ops fp Q n (listed.setIfInBounds i true) s'

theorem aany_wp {N : Nat} {w0 : World} {O0 : Nat → Prop} {γ0 : Nat → Option Addr} (hM : M.Ok) (hΓ : ∀ f sp, Γ f = some sp → Sound P M f sp) {fp : Nat → Foot} {K : St M → Prop} {Q : Exit → Act → World → Prop}
    (hQ : ∀ s a w, K s → Rel M N w0 O0 γ0 s a w → Q .normal a w) : ∀ (n : Nat) (listed : Array Bool) (s : St M) (a : Act) (w : World), AAny P Γ ops fp K n listed s → Rel M N w0 O0 γ0 s a w → wpAny P .any ops Q n listed a w
  | 0, _, s, a, w, h, hr => ⟨h.1, hQ s a w h.2 hr⟩
  | n + 1, listed, s, a, w, h, hr => ⟨fun h0 => hQ s a w (h.1 h0) hr, fun i hi => by
      obtain ⟨o, s', ho, hst, hn⟩ := h.2 i hi
      exact astep_ok hM hΓ ho hst hr fun a' w' hr' => aany_wp hM hΓ hQ n _ s' a' w' hn hr'⟩

theorem aany_first {fp : Nat → Foot} {K : St M → Prop} {i : Nat} {oi : Oper} (hi : ops[i]? = some oi) : ∀ (fuel : Nat) (listed : Array Bool) (s s1 : St M),
    (∀ j oj, ops[j]? = some oj → j ≠ i → listed.getD j true = false → (∀ e ∈ oj.after, Region.binds .any e = true → e.on ≠ i) → oi.apart ops oj = true ∧ indep' (fp i) (fp j) = true) →
    i ∈ Region.ready .any ops listed → astep P Γ ops oi s = some (s1, fp i) → AAny P Γ ops fp K fuel (listed.setIfInBounds i true) s1 → AAny P Γ ops fp K (fuel + 1) listed s := by
  intro fuel
  induction fuel with
  | zero =>
    intro listed s s1 _ hr hst H
    refine ⟨fun h => (by rw [h] at hr; cases hr), fun j hj => ?_⟩
    by_cases hji : j = i
    · subst hji; exact ⟨oi, s1, hi, hst, H⟩
    · have := ready_mono hj hji
      rw [H.1] at this
      cases this
  | succ fuel ih =>
    intro listed s s1 hfree hr hst H
    refine ⟨fun h => (by rw [h] at hr; cases hr), fun j hj => ?_⟩
    by_cases hji : j = i
    · subst hji; exact ⟨oi, s1, hi, hst, H⟩
    · obtain ⟨oj, s2, hoj, hst2, H2⟩ := H.2 j (ready_mono hj hji)
      obtain ⟨hjun, oj', hoj', hall⟩ := mem_ready.1 hj
      rw [hoj] at hoj'; injection hoj' with hoj'; subst hoj'
      have hnot : ∀ e ∈ oj.after, Region.binds .any e = true → e.on ≠ i := fun e he hb heq => by
        have h1 := hall e he hb
        have h0 := (mem_ready.1 hr).1
        rw [heq] at h1
        rcases Nat.lt_or_ge i listed.size with h' | h'
        · simp [h'] at h0 h1; rw [h0] at h1; cases h1
        · simp [Array.getElem?_eq_none h'] at h1
      obtain ⟨hap, hin⟩ := hfree j oj hoj hji hjun hnot
      obtain ⟨s1', k1, k2⟩ := astep_swap hap hin hst hst2
      refine ⟨oj, s1', hoj, k1, ?_⟩
      refine ih (listed.setIfInBounds j true) s1' s2 (fun k ok hk hki hun hno => ?_) (ready_mono hr (Ne.symm hji)) k2 ?_
      · refine hfree k ok hk hki ?_ hno
        by_cases hjk : j = k
        · subst hjk; exact hjun
        · rw [getD_set_ne true hjk] at hun; exact hun
      · rw [Array.setIfInBounds_comm _ _ hji]
        exact H2

theorem aany_lex {fp : Nat → Foot} {K : St M → Prop} (hfp : ∀ i j oj, i < j → ops[j]? = some oj → (∀ e ∈ oj.after, Region.binds .any e = true → e.on ≠ i) → indep' (fp i) (fp j) = true) :
    ∀ (l : List Oper) (k : Nat) (listed : Array Bool) (s s' : St M) (log : List Foot), (∀ j, l[j]? = ops[k + j]?) → (∀ j, listed.getD j true = false → k ≤ j) →
    Region.lexFrom .any ops l.length k listed = true → arunD P Γ ops l s = some (s', log) → (∀ j, j < l.length → log[j]? = some (fp (k + j))) → K s' → AAny P Γ ops fp K l.length listed s
  | [], _, _, s, s', log, _, _, hB, h, _, hK => by
    simp only [arunD, Option.some.injEq, Prod.mk.injEq] at h
    rw [h.1]
    exact ⟨by simpa [Region.lexFrom] using hB, hK⟩
  | o :: l, k, listed, s, s', log, hl, hk, hB, h, hlog, hK => by
    have h0 : ops[k]? = some o := by simpa using (hl 0).symm
    simp only [List.length_cons, Region.lexFrom, Bool.and_eq_true] at hB
    obtain ⟨⟨hr, hf⟩, hB'⟩ := hB
    simp only [arunD] at h
    cases hst : astep P Γ ops o s with
    | none => rw [hst] at h; cases h
    | some p =>
      obtain ⟨s1, f⟩ := p
      rw [hst] at h
      simp only [Option.bind_some] at h
      cases hrest : arunD P Γ ops l s1 with
      | none => rw [hrest] at h; cases h
      | some q =>
        obtain ⟨s2, log'⟩ := q
        rw [hrest] at h
        simp only [Option.map_some, Option.some.injEq, Prod.mk.injEq] at h
        obtain ⟨e1, e2⟩ := h
        subst e1; subst e2
        have hf0 : f = fp k := by simpa using hlog 0 (by simp)
        subst hf0
        refine aany_first h0 l.length listed s s1 (fun j oj hj hne hun hno => ⟨Region.free_spec h0 hf j oj hj hne hun hno, hfp k j oj ?_ hj hno⟩) (by simpa using hr) hst ?_
        · have := hk j hun; omega
        · refine aany_lex hfp l (k + 1) _ s1 s2 log' (fun j => by have := hl (j + 1); simpa [Nat.add_assoc, Nat.add_comm 1 j] using this) (fun j hj => ?_) hB' hrest (fun j hj => ?_) hK
          · by_cases hjk : k = j
            · subst hjk
              have hlt : k < listed.size ∨ ¬ k < listed.size := Nat.lt_or_ge _ _ |>.imp id (by omega)
              rcases hlt with hlt | hlt
              · simp [hlt] at hj
              · simp [hlt] at hj
            · rw [getD_set_ne true hjk] at hj
              have := hk j hj; omega
          · have := hlog (j + 1) (by simpa using hj)
            simpa [Nat.add_assoc, Nat.add_comm 1 j] using this

theorem arunD_length : ∀ {l : List Oper} {s s' : St M} {log : List Foot}, arunD P Γ ops l s = some (s', log) → log.length = l.length
  | [], _, _, _, h => by simp only [arunD, Option.some.injEq, Prod.mk.injEq] at h; rw [← h.2]; rfl
  | o :: l, s, s', log, h => by
    simp only [arunD] at h
    cases hst : astep P Γ ops o s with
    | none => rw [hst] at h; cases h
    | some p =>
      rw [hst] at h
      simp only [Option.bind_some] at h
      cases hrest : arunD P Γ ops l p.1 with
      | none => rw [hrest] at h; cases h
      | some q =>
        rw [hrest] at h
        simp only [Option.map_some, Option.some.injEq, Prod.mk.injEq] at h
        rw [← h.2]
        simp [arunD_length (s' := q.1) (log := q.2) hrest]

theorem chk_spec {log : List Foot} (h : chk ops log = true) {i j : Nat} {a b : Foot} {oj : Oper} (hij : i < j) (ha : log[i]? = some a) (hb : log[j]? = some b) (hj : ops[j]? = some oj)
    (hno : ∀ e ∈ oj.after, Region.binds .any e = true → e.on ≠ i) : indep' a b = true := by
  unfold chk at h
  rw [Bool.or_eq_true] at h
  rcases h with h | h
  · rw [List.all_eq_true] at h
    unfold indep'
    rw [h a (List.mem_of_getElem? ha), h b (List.mem_of_getElem? hb)]; rfl
  · rw [List.all_eq_true] at h
    have h1 := h i (List.mem_range.2 (List.getElem?_eq_some_iff.1 ha).1)
    rw [List.all_eq_true] at h1
    have h2 := h1 j (List.mem_range.2 (List.getElem?_eq_some_iff.1 hb).1)
    rw [ha, hb] at h2
    simp only [Bool.or_eq_true, Bool.not_eq_true', decide_eq_false_iff_not] at h2
    rcases h2 with (h2 | h2) | h2
    · exact absurd hij h2
    · simp only [edge, hj] at h2
      obtain ⟨e, he, hbb⟩ := Array.any_eq_true'.1 h2
      simp only [Bool.and_eq_true, beq_iff_eq] at hbb
      exact absurd hbb.2 (hno e he hbb.1)
    · unfold indep'; simpa using h2

section
variable {N : Nat} {w0 : World} {O0 : Nat → Prop} {γ0 : Nat → Option Addr}

theorem Rel.drew (hM : M.Ok) {s : St M} {a : Act} {w : World} (h : Rel M N w0 O0 γ0 s a w) : Rel M N w0 O0 γ0 s a w.drew := by
  obtain ⟨c, h⟩ := h
  obtain ⟨m, g⟩ := h.mem.drew hM
  exact ⟨c, m, h.slots.grow g, h.defers, h.hγ, h.cells⟩

theorem region_drawn (hM : M.Ok) (hΓ : ∀ f sp, Γ f = some sp → Sound P M f sp) (hP : P.follows .mixedOrders = true) (hlex : Region.lexB .any ops = true) {id : Nat} {s s' : St M} {log : List Foot}
    (h : arunD P Γ ops ops.toList s = some (s', log)) (hc : chk ops log = true) {a : Act} {w : World} (hr : Rel M N w0 O0 γ0 s a w) {Q : Exit → Act → World → Prop}
    (hQ : ∀ a w, Rel M N w0 O0 γ0 s' a w → Q .normal a w) : (Code.region id ops true).wp P Q a w := by
  simp only [Region.lexB, Bool.and_eq_true] at hlex
  refine wp_region_any hP ?_
  have hA : AAny P Γ ops (fun i => log.getD i {}) (fun s => s = s') ops.toList.length (Array.replicate ops.size false) s := by
    refine aany_lex ?_ ops.toList 0 _ s s' log (by simp) (by simp) (by simpa using hlex.2) h (fun j hj => ?_) rfl
    · intro i j oj hij hj hno
      have hjl : j < log.length := by rw [arunD_length h]; simpa using (Array.getElem?_eq_some_iff.1 hj).1
      have e1 := List.getElem?_eq_getElem hjl
      have e2 := List.getElem?_eq_getElem (show i < log.length by omega)
      rw [List.getD_eq_getElem?_getD, List.getD_eq_getElem?_getD, e1, e2]
      exact chk_spec hc hij e2 e1 hj hno
    · have hjl : j < log.length := by rw [arunD_length h]; exact hj
      have e1 := List.getElem?_eq_getElem hjl
      rw [Nat.zero_add, List.getD_eq_getElem?_getD, e1]; rfl
  have := aany_wp (N := N) (w0 := w0) (O0 := O0) (γ0 := γ0) (Q := Q) hM hΓ (K := fun s => s = s') (fun s a w hs hr => by subst hs; exact hQ a w hr) _ _ s a w.drew hA (hr.drew hM)
  simpa using this

theorem arun_ok (hM : M.Ok) (hΓ : ∀ f sp, Γ f = some sp → Sound P M f sp) {Q : Exit → Act → World → Prop} : ∀ (l : List Oper) (k : Nat) (s s' : St M) (a : Act) (w : World), (∀ j, l[j]? = ops[k + j]?) →
    arun P Γ ops l s = some s' → Rel M N w0 O0 γ0 s a w → (∀ a w, Rel M N w0 O0 γ0 s' a w → Q .normal a w) → wpOps P ops Q (List.range' k l.length) a w
  | [], k, s, s', a, w, _, h, hr, hQ => by
    simp only [arun, Option.some.injEq] at h
    subst h
    exact hQ a w hr
  | o :: l, k, s, s', a, w, hl, h, hr, hQ => by
    have h0 : ops[k]? = some o := by simpa using (hl 0).symm
    simp only [arun] at h
    cases hst : astep P Γ ops o s with
    | none => rw [hst] at h; cases h
    | some p =>
      obtain ⟨s1, f⟩ := p
      rw [hst] at h
      simp only [Option.bind_some] at h
      simp only [List.length_cons, List.range'_succ]
      rw [wpOps_cons]
      exact astep_ok hM hΓ h0 hst hr fun a' w' hr' => arun_ok hM hΓ l (k + 1) s1 s' a' w' (fun j => by have := hl (j + 1); simpa [Nat.add_assoc, Nat.add_comm 1 j] using this) h hr' hQ

theorem region_text (hM : M.Ok) (hΓ : ∀ f sp, Γ f = some sp → Sound P M f sp) {id : Nat} {s s' : St M} (h : arun P Γ ops ops.toList s = some s') {a : Act} {w : World} (hr : Rel M N w0 O0 γ0 s a w)
    {Q : Exit → Act → World → Prop} (hQ : ∀ a w, Rel M N w0 O0 γ0 s' a w → Q .normal a w) : (Code.region id ops false).wp P Q a w := by
  refine wp_region ?_
  have := arun_ok (Q := Q) hM hΓ ops.toList 0 s s' a w (by simp) h hr hQ
  rw [List.range_eq_range']
  simpa using this
end
end
end Wf

/-
  Code, by the machine over plain data.
-/
namespace Wf
open Go Go.RowKit

theorem V.idsL_mem {v : V} {g : Nat} : ∀ {l : List V}, v ∈ l → g ∈ v.ids → g ∈ V.idsL l
  | [], h, _ => by cases h
  | x :: l, h, hg => by
    simp only [V.idsL, List.mem_append]
    rcases List.mem_cons.1 h with h | h
    · subst h; exact .inl hg
    · exact .inr (V.idsL_mem h hg)

theorem get_eq {L L' : Loc} {g : Nat} (h : L' g = L g) (n : Nat) : L'.get g n = L.get g n := by unfold Loc.get; rw [h]

theorem Val.drop {c : Ctx} {L L' : Loc} {w : World} {N : Nat} {v : V} {u : Value} (h : Val c L w N v u) (hown : ∀ b, own c L' b → own c L b) : (∀ g ∈ v.ids, L' g = L g) → Val c L' w N v u := by
  induction h with
  | d x v h => exact fun _ => .d _ _ (h.out hown (Nat.le_refl _))
  | ptr g n off v h1 h2 =>
    intro hi
    have e := hi g (by simp [V.ids])
    exact .ptr g n off v (by rw [e]; exact h1) (by rw [get_eq e]; exact h2)
  | ept g n i off v h1 h2 =>
    intro hi
    have e := hi g (by simp [V.ids])
    exact .ept g n i off v (by rw [e]; exact h1) (by rw [get_eq e]; exact h2)
  | ref g n off len v h1 h2 =>
    intro hi
    have e := hi g (by simp [V.ids])
    exact .ref g n off len v (by rw [e]; exact h1) (by rw [get_eq e]; exact h2)
  | bref g n off len v h1 h2 =>
    intro hi
    have e := hi g (by simp [V.ids])
    exact .bref g n off len v (by rw [e]; exact h1) (by rw [get_eq e]; exact h2)
  | map g n v h1 h2 =>
    intro hi
    have e := hi g (by simp [V.ids])
    exact .map g n v (by rw [e]; exact h1) (by rw [get_eq e]; exact h2)
  | clo f a b va vb h1 h2 _ _ ih1 ih2 =>
    intro hi
    refine .clo f a b va vb h1 h2 (fun i v u ha hu => ih1 i v u ha hu fun g hg => hi g ?_) (fun i v u ha hu => ih2 i v u ha hu fun g hg => hi g ?_)
    · simp only [V.ids, List.mem_append]; exact .inl (V.idsL_mem (List.mem_of_getElem? ha) hg)
    · simp only [V.ids, List.mem_append]; exact .inr (V.idsL_mem (List.mem_of_getElem? ha) hg)
  | tup l vs h1 _ ih =>
    intro hi
    refine .tup l vs h1 fun i v u ha hu => ih i v u ha hu fun g hg => hi g ?_
    simp only [V.ids]; exact V.idsL_mem (List.mem_of_getElem? ha) hg

section
variable {P : Program} {M : GM} {Γ : Env M} {N : Nat} {w0 : World} {O0 : Nat → Prop} {γ0 : Nat → Option Addr}

theorem Wk.rel (hM : M.Ok) {s t : St M} (h : Wk s t) : ∀ {a : Act} {w : World}, Rel M N w0 O0 γ0 s a w → Rel M N w0 O0 γ0 t a w := by
  induction h with
  | trans s t u _ _ ih1 ih2 => exact fun hr => ih2 (ih1 hr)
  | nil s i g sz hi =>
    rintro a w ⟨c, hr⟩
    have hi' : i < a.tmps.toList.length := by rw [hr.slots.1]; exact (List.getElem?_eq_some_iff.1 hi).1
    have hu := List.getElem?_eq_getElem hi'
    have hv := (hr.slots.2 i _ _ hi hu).dat
    have hcell : ∃ x, a.tmps.toList[i] = .slice x 0 0 := by
      generalize a.tmps.toList[i] = u at hv
      cases hv with
      | slE _ x cap h => rw [h rfl]; exact ⟨x, rfl⟩
      | sl _ _ _ _ _ _ _ h => exact absurd rfl h
    obtain ⟨x, hx⟩ := hcell
    have hd := none_row hM hr.mem g sz x (wr := []) hr.mem (Grow.refl ..) (by simp [Loc.upd, Loc.new])
    have := hr.did hd (some i)
    have e : a.put (some i) (.slice x 0 0) = a := by
      unfold Act.put
      dsimp only
      congr 1
      rw [← hx]
      apply Array.ext'
      rw [Array.toList_setIfInBounds]
      exact List.set_getElem_self hi'
    rw [e] at this
    exact this
  | drop s s' K h1 h2 h3 h4 h5 h6 =>
    rintro a w ⟨c, hr⟩
    have hown : ∀ b, own c s'.L b → own c s.L b := by
      rintro b (hb | ⟨g, hg, hl⟩)
      · exact .inl hb
      · refine .inr ⟨g, hg, ?_⟩
        by_cases hk : g ∈ K
        · rw [← h3 g hk]; exact hl
        · rw [h4 g hk] at hl; cases hl
    have hnd : ∀ g, (s'.L g).2 ≠ .dead → g ∈ K := fun g hg => by
      by_cases hk : g ∈ K
      · exact hk
      · rw [h4 g hk] at hg; exact absurd rfl hg
    have hnd' : ∀ g, (s'.L g).2 ≠ .dead → (s.L g).2 ≠ .dead := fun g hg => by rw [← h3 g (hnd g hg)]; exact hg
    refine ⟨c, ⟨fun g => ?_, fun g g' b e1 e2 d1 d2 => hr.mem.inj g g' b e1 e2 (hnd' g d1) (hnd' g' d2), fun g b e d => hr.mem.mine g b e (hnd' g d), by rw [h2]; exact hr.mem.glob, hr.mem.size, hr.mem.size0,
      hr.mem.os, hr.mem.tape, hr.mem.output, hr.mem.keep, hr.mem.osub⟩, ⟨by rw [h1]; exact hr.slots.1, fun i v u hv hu => ?_⟩, hr.defers, hr.hγ, hr.cells⟩
    · by_cases hk : g ∈ K
      · have ho := hr.mem.obj g
        have h6' := h6 g hk
        rw [h3 g hk] at h6' ⊢
        cases hx : (s.L g).2 with
        | dead => trivial
        | box ag ds =>
          rw [hx] at ho
          obtain ⟨b, x, T, fz, p1, p2, p3, p4, p5⟩ := ho
          exact ⟨b, x, T, fz, p1, p2, p3, p4, fun i d u hd hu => ⟨(p5 i d u hd hu).1.out hown (Nat.le_refl _), (p5 i d u hd hu).2⟩⟩
        | vbox v =>
          rw [hx] at ho
          obtain ⟨b, u, T, fz, p1, p2, p3, p4, p5⟩ := ho
          exact ⟨b, u, T, fz, p1, p2, p3, p4, p5.drop hown fun g' hg' => h3 g' (h6' v hx g' hg')⟩
        | arr sz els lv =>
          rw [hx] at ho
          cases e : c.ι g with
          | none =>
            simp only [ObjOk, e] at ho ⊢
            exact ho
          | some b =>
            simp only [ObjOk, e] at ho ⊢
            obtain ⟨x, T, fz, p1, p2, p3, vs, p4⟩ := ho
            exact ⟨x, T, fz, p1, p2, p3, vs, fun i d hd => ⟨(p4 i d hd).1.out hown (Nat.le_refl _), (p4 i d hd).2⟩⟩
        | map kk es =>
          rw [hx] at ho
          obtain ⟨b, m, k, p1, p2, p3, p4⟩ := ho
          exact ⟨b, m, k, p1, p2, p3, fun i e p he hp => ⟨(p4 i e p he hp).1, (p4 i e p he hp).2.out hown (Nat.le_refl _)⟩⟩
      · rw [h4 g hk]; trivial
    · rcases h5 i v hv with h | ⟨h, hk⟩
      · subst h; exact .d _ _ (.undef _)
      · exact (hr.slots.2 i v u h hu).drop hown fun g hg => h3 g (hk g hg)

def AExit.real : AExit → Exit
  | .normal => .normal
  | .exit id => .exit id
  | .ret => .ret

theorem least (p : Nat → Prop) (h : ∃ n, p n) : ∃ n, p n ∧ ∀ m, p m → n ≤ m := by
  obtain ⟨n, hn⟩ := h
  induction n using Nat.strongRecOn with
  | _ n ih =>
    by_cases hx : ∃ m, m < n ∧ p m
    · obtain ⟨m, h1, h2⟩ := hx; exact ih m h1 h2
    · exact ⟨n, hn, fun m hm => Nat.le_of_not_lt fun hh => hx ⟨m, hh, hm⟩⟩

theorem awp_ok (hM : M.Ok) (hΓ : ∀ f sp, Γ f = some sp → Sound P M f sp) (hP : P.follows .mixedOrders = true) : ∀ (c : Code) (Q : AExit → St M → Prop) (s : St M) (a : Act) (w : World), awp P Γ c Q s → Rel M N w0 O0 γ0 s a w →
    ∀ Q' : Exit → Act → World → Prop, (∀ e s a w, Q e s → Rel M N w0 O0 γ0 s a w → Q' e.real a w) → c.wp P Q' a w
  | .skip, Q, s, a, w, h, hr, Q', hQ => wp_skip (hQ .normal s a w h hr)
  | .label _, Q, s, a, w, h, hr, Q', hQ => wp_label (hQ .normal s a w h hr)
  | .exit id, Q, s, a, w, h, hr, Q', hQ => wp_exit (hQ (.exit id) s a w h hr)
  | .ret, Q, s, a, w, h, hr, Q', hQ => wp_ret (hQ .ret s a w h hr)
  | .region id ops false, Q, s, a, w, h, hr, Q', hQ => by
    obtain ⟨s', h1, h2⟩ := h
    exact region_text hM hΓ h1 hr fun a w hr' => hQ .normal s' a w h2 hr'
  | .region id ops true, Q, s, a, w, h, hr, Q', hQ => by
    obtain ⟨hl, s', log, h1, hc, h2⟩ := h
    exact region_drawn hM hΓ hP hl h1 hc hr fun a w hr' => hQ .normal s' a w h2 hr'
  | .seq x y, Q, s, a, w, h, hr, Q', hQ => by
    refine wp_seq (awp_ok hM hΓ hP x _ s a w h hr _ fun e s' a' w' he hr' => ?_)
    cases e with
    | normal => exact awp_ok hM hΓ hP y Q s' a' w' he hr' Q' hQ
    | exit id => exact hQ (.exit id) s' a' w' he hr'
    | ret => exact hQ .ret s' a' w' he hr'
  | .cond cc x y, Q, s, a, w, h, hr, Q', hQ => by
    simp only [awp] at h
    obtain ⟨c, hr'⟩ := hr
    have hv := evalV_ok hr'.slots cc
    split at h
    · rename_i e
      rw [e] at hv
      exact wp_cond_true hv.bool (awp_ok hM hΓ hP x Q s a w h ⟨c, hr'⟩ Q' hQ)
    · rename_i e
      rw [e] at hv
      exact wp_cond_false hv.bool (awp_ok hM hΓ hP y Q s a w h ⟨c, hr'⟩ Q' hQ)
    · exact h.elim
  | .block id b, Q, s, a, w, h, hr, Q', hQ => by
    refine wp_block (awp_ok hM hΓ hP b _ s a w h hr _ fun e s' a' w' he hr' => ?_)
    cases e with
    | normal => exact hQ .normal s' a' w' he hr'
    | exit id' =>
      dsimp only at he
      simp only [AExit.real, Exit.inBlock]
      split
      · rename_i hid
        rw [if_pos hid] at he
        exact hQ .normal s' a' w' he hr'
      · rename_i hid
        rw [if_neg hid] at he
        exact hQ (.exit id') s' a' w' he hr'
    | ret => exact hQ .ret s' a' w' he hr'
  | .scope b, Q, s, a, w, h, hr, Q', hQ => by
    refine wp_scope_straight (awp_ok hM hΓ hP b Q s a w h hr _ fun e s' a' w' he hr' => ?_)
    have := hQ e s' a' w' he hr'
    cases e <;> exact this
  | .loop b, Q, s, a, w, h, hr, Q', hQ => by
    obtain ⟨α, J, μ, x0, hw, hround⟩ := h
    classical
    let p : Act → World → Nat → Prop := fun a w n => ∃ x, μ x = n ∧ Rel M N w0 O0 γ0 (J x) a w
    let m : Act → World → Nat := fun a w => if h : ∃ n, p a w n then Classical.choose (least (p a w) h) else 0
    have hm : ∀ a w, (∃ x, Rel M N w0 O0 γ0 (J x) a w) → (∃ x, μ x = m a w ∧ Rel M N w0 O0 γ0 (J x) a w) ∧ ∀ x, Rel M N w0 O0 γ0 (J x) a w → m a w ≤ μ x := by
      intro a w ⟨x, hx⟩
      have he : ∃ n, p a w n := ⟨μ x, x, rfl, hx⟩
      have hs := Classical.choose_spec (least (p a w) he)
      have hmm : m a w = Classical.choose (least (p a w) he) := dif_pos he
      rw [hmm]
      exact ⟨hs.1, fun y hy => hs.2 _ ⟨y, rfl, hy⟩⟩
    refine wp_loop (fun a w => ∃ x, Rel M N w0 O0 γ0 (J x) a w) m ⟨x0, hw.rel hM hr⟩ fun a w hI => ?_
    obtain ⟨⟨x, hx1, hx2⟩, _⟩ := hm a w hI
    refine awp_ok hM hΓ hP b _ (J x) a w (hround x) hx2 _ fun e s' a' w' he hr' => ?_
    cases e with
    | normal =>
      obtain ⟨x', hlt, hwk⟩ := he
      have hr'' := hwk.rel hM hr'
      refine ⟨⟨x', hr''⟩, ?_⟩
      have := (hm a' w' ⟨x', hr''⟩).2 x' hr''
      omega
    | exit id => exact hQ (.exit id) s' a' w' he hr'
    | ret => exact hQ .ret s' a' w' he hr'
  | .rangeFunc _ _ _ _, Q, s, a, w, h, hr, Q', hQ => h.elim
  | .goto _, Q, s, a, w, h, hr, Q', hQ => h.elim
  | .refuse _, Q, s, a, w, h, hr, Q', hQ => h.elim
end
end Wf

/-
  Functions: from the machine over plain data to what a call does.
-/
namespace Wf
open Go Go.RowKit

mutual
/-- Data that refers to nothing of the caller's. -/
def D.free : D → Bool
  | .agg cs => D.freeL cs
  | .sl .fresh l | .sl .full l => D.freeL l
  | .fn _ a b => D.freeL a && D.freeL b
  | .sl _ _ | .at_ _ | .tup _ => false
  | _ => true
def D.freeL : List D → Bool
  | [] => true
  | d :: r => d.free && D.freeL r
end

mutual
/-- Data, as a callee sees it. -/
def D.lent : D → D
  | .agg cs => .agg (D.lentL cs)
  | .sl _ l => .sl .lent (D.lentL l)
  | .fn f a b => .fn f (D.lentL a) (D.lentL b)
  | .at_ d => .at_ d.lent
  | .tup l => .tup (D.lentL l)
  | d => d
def D.lentL : List D → List D
  | [] => []
  | d :: r => d.lent :: D.lentL r
end

theorem freeL_mem {d : D} : ∀ {l : List D}, D.freeL l = true → d ∈ l → d.free = true
  | [], _, h => by cases h
  | x :: l, h, hd => by
    simp only [D.freeL, Bool.and_eq_true] at h
    rcases List.mem_cons.1 hd with e | e
    · subst e; exact h.1
    · exact freeL_mem h.2 e
theorem freeL_all {l : List D} : D.freeL l = l.all D.free := by
  induction l with
  | nil => rfl
  | cons d l ih => simp [D.freeL, ih]
theorem lentL_map (l : List D) : D.lentL l = l.map D.lent := by
  induction l with
  | nil => rfl
  | cons d l ih => simp [D.lentL, ih]

theorem Rep.free {w : World} {A A' : Nat → Prop} {N : Nat} {γ} {d : D} {u : Value} (h : Rep w A N γ d u) (hA : ∀ b, A' b → A b ∨ b < N) : d.free = true → Rep w A' N γ d u := by
  induction h with
  | undef v => exact fun _ => .undef v
  | bool b => exact fun _ => .bool b
  | int k n => exact fun _ => .int k n
  | str s => exact fun _ => .str s
  | nilp => exact fun _ => .nilp
  | nilfn => exact fun _ => .nilfn
  | agg cs vs h1 _ h3 ih =>
    intro hf
    simp only [D.free] at hf
    exact .agg cs vs h1 (fun i d v hd hv => ih i d v hd hv (freeL_mem hf (List.mem_of_getElem? hd))) h3
  | tup cs vs h1 _ ih => intro hf; cases hf
  | fn f a b va vb h1 h2 _ _ ih1 ih2 =>
    intro hf
    simp only [D.free, Bool.and_eq_true] at hf
    exact .fn f a b va vb h1 h2 (fun i d v hd hv => ih1 i d v hd hv (freeL_mem hf.1 (List.mem_of_getElem? hd))) (fun i d v hd hv => ih2 i d v hd hv (freeL_mem hf.2 (List.mem_of_getElem? hd)))
  | slE t a cap h => exact fun _ => .slE t a cap h
  | sl t l b o sz cap vs h1 h2 h3 h4 h5 h6 _ h8 ih =>
    intro hf
    have hl : D.freeL l = true ∧ t ≠ .lent := by cases t <;> simp_all [D.free]
    refine .sl t l b o sz cap vs h1 h2 h3 (fun hb => ?_) h5 h6 (fun i d hd => ih i d hd (freeL_mem hl.1 (List.mem_of_getElem? hd))) h8
    rcases hA b hb with h | h
    · exact h4 h
    · have := h5 hl.2; omega
  | at_ d v b o h1 h2 h3 _ ih => intro hf; cases hf
  | h n off b o hn => exact fun _ => .h n off b o hn

theorem Rep.lent {w : World} {A : Nat → Prop} {N : Nat} {γ} {d : D} {u : Value} (h : Rep w A N γ d u) (N' : Nat) : Rep w A N' γ d.lent u := by
  have hget : ∀ {l : List D} {i : Nat} {d : D}, (D.lentL l)[i]? = some d → ∃ e, l[i]? = some e ∧ d = e.lent := by
    intro l i d hd
    rw [lentL_map, List.getElem?_map] at hd
    cases he : l[i]? with
    | none => rw [he] at hd; cases hd
    | some e => rw [he] at hd; injection hd with hd; exact ⟨e, rfl, hd.symm⟩
  have hlen : ∀ l : List D, (D.lentL l).length = l.length := fun l => by rw [lentL_map]; simp
  induction h with
  | undef v => exact .undef v
  | bool b => exact .bool b
  | int k n => exact .int k n
  | str s => exact .str s
  | nilp => exact .nilp
  | nilfn => exact .nilfn
  | agg cs vs h1 _ h3 ih =>
    exact .agg _ vs (by rw [hlen]; exact h1) (fun i d v hd hv => by obtain ⟨e, he, rfl⟩ := hget hd; exact ih i e v he hv) h3
  | tup cs vs h1 _ ih =>
    exact .tup _ vs (by rw [hlen]; exact h1) (fun i d v hd hv => by obtain ⟨e, he, rfl⟩ := hget hd; exact ih i e v he hv)
  | fn f a b va vb h1 h2 _ _ ih1 ih2 =>
    exact .fn f _ _ va vb (by rw [hlen]; exact h1) (by rw [hlen]; exact h2) (fun i d v hd hv => by obtain ⟨e, he, rfl⟩ := hget hd; exact ih1 i e v he hv)
      (fun i d v hd hv => by obtain ⟨e, he, rfl⟩ := hget hd; exact ih2 i e v he hv)
  | slE t a cap h => exact .slE .lent a cap (fun h => by cases h)
  | sl t l b o sz cap vs h1 h2 h3 h4 h5 h6 _ h8 ih =>
    have := Rep.sl (w := w) (A := A) (N := N') (γ := γ) .lent (D.lentL l) b o sz cap vs (by intro h; apply h1; have := hlen l; rw [h] at this; exact List.eq_nil_of_length_eq_zero this.symm)
      (by rw [hlen]; exact h2) (fun h => by cases h) h4 (fun h => absurd rfl h) h6 (fun i d hd => by obtain ⟨e, he, rfl⟩ := hget hd; exact ih i e he) (fun i hi => h8 i (by rw [hlen] at hi; exact hi))
    rw [hlen] at this
    exact this
  | at_ d v b o h1 h2 h3 _ ih => exact .at_ _ v b o h1 h2 h3 ih
  | h n off b o hn => exact .h n off b o hn

section
variable {M : GMo}

def ares1 (P : Program) (s : St M) : ResultVar → Option V
  | .tmp t => some (s.slots.getD t (.d .undef))
  | .cell a t => aload P M s.L (some s.G) t (s.slots.getD a (.d .undef))

def sealV (L : Loc) (sz : Nat) : V → Option (Option Nat × D)
  | .d (.sl .full []) => some (none, if 0 < sz then .sl .own [] else .sl .full [])
  | .d x => if x.free = true then some (none, x) else none
  | .ref g n off len => match off, L.get g n with
    | 0, .arr sz' els true => if len = els.length ∧ sz' = sz ∧ els.all D.free = true then some (some g, .sl .own els) else none
    | _, _ => none
  | _ => none

def sealL (L : Loc) : List Nat → List V → Option (List (Option Nat × D))
  | [], [] => some []
  | sz :: szs, v :: vs => (sealV L sz v).bind fun x => (sealL L szs vs).map fun r => x :: r
  | _, _ => none

def distinct : List (Option Nat) → Bool
  | [] => true
  | none :: r => distinct r
  | some g :: r => !(r.contains (some g)) && distinct r

/-- What a function answers. -/
def ares (P : Program) (res : List ResultVar) (szs : List Nat) (s : St M) : Option D :=
  (res.mapM (ares1 P s)).bind fun vs => (sealL s.L szs vs).bind fun rs =>
    if distinct (rs.map (·.1)) = true then (match rs with
      | [(_, d)] => some d
      | rs => some (.tup (rs.map (·.2)))) else none

def St.init (G : M.S) (n : Nat) (ds : List D) : St M :=
  { slots := (D.lentL ds).map .d ++ List.replicate (n - ds.length) (.d .undef), L := fun _ => (0, .dead), G }

/-- What is wanted at a function's end. -/
def Ends (P : Program) (res : List ResultVar) (szs : List Nat) (r : D) (s : St M) : Prop := ares P res szs s = some r ∨ ∃ s', Wk s s' ∧ ares P res szs s' = some r

theorem distinct_spec : ∀ {l : List (Option Nat)}, distinct l = true → ∀ (i j g : Nat), l[i]? = some (some g) → l[j]? = some (some g) → i = j
  | [], _, i, j, g, h, _ => by simp at h
  | none :: l, h, i, j, g, hi, hj => by
    cases i with
    | zero => simp at hi
    | succ i =>
      cases j with
      | zero => simp at hj
      | succ j => rw [distinct_spec (l := l) h i j g (by simpa using hi) (by simpa using hj)]
  | some k :: l, h, i, j, g, hi, hj => by
    simp only [distinct, Bool.and_eq_true, Bool.not_eq_true', List.contains_eq_mem, decide_eq_false_iff_not] at h
    cases i with
    | zero =>
      cases j with
      | zero => rfl
      | succ j =>
        simp at hi hj
        subst hi
        exact absurd (List.mem_of_getElem? hj) h.1
    | succ i =>
      cases j with
      | zero =>
        simp at hi hj
        subst hj
        exact absurd (List.mem_of_getElem? hi) h.1
      | succ j => rw [distinct_spec (l := l) h.2 i j g (by simpa using hi) (by simpa using hj)]

theorem sealL_spec {L : Loc} : ∀ {szs : List Nat} {vs : List V} {rs : List (Option Nat × D)}, sealL L szs vs = some rs → szs.length = rs.length ∧ vs.length = rs.length ∧
    ∀ (i : Nat) (sz : Nat) (v : V) (x : Option Nat × D), szs[i]? = some sz → vs[i]? = some v → rs[i]? = some x → sealV L sz v = some x
  | [], [], rs, h => by injection h with h; subst h; exact ⟨rfl, rfl, by simp⟩
  | [], _ :: _, _, h => by cases h
  | _ :: _, [], _, h => by cases h
  | sz :: szs, v :: vs, rs, h => by
    simp only [sealL] at h
    cases h1 : sealV L sz v with
    | none => rw [h1] at h; cases h
    | some x =>
      rw [h1] at h
      simp only [Option.bind_some] at h
      cases h2 : sealL L szs vs with
      | none => rw [h2] at h; cases h
      | some r =>
        rw [h2] at h
        injection h with h; subst h
        obtain ⟨p1, p2, p3⟩ := sealL_spec h2
        refine ⟨by simp [p1], by simp [p2], fun i sz' v' x' e1 e2 e3 => ?_⟩
        cases i with
        | zero => simp at e1 e2 e3; subst e1; subst e2; subst e3; exact h1
        | succ i => exact p3 i sz' v' x' (by simpa using e1) (by simpa using e2) (by simpa using e3)

end
section
variable {M : GM}
variable {P : Program} {N : Nat} {w0 : World} {O0 : Nat → Prop} {γ0 : Nat → Option Addr}

theorem ares1_ok (hM : M.Ok) {c : Ctx} {s : St M} {a : Act} {w : World} (hr : RelC M N w0 O0 γ0 c s a w) {x : ResultVar} {v : V} (h : ares1 P s x = some v) :
    ∃ u, (match x with | .tmp t => pure (a.tmps.getD t undef) | .cell q t => (do loadVar t (← asAddr (a.tmps.getD q undef))) : Sem Value).run P w = .ok u w ∧ Val c s.L w N v u := by
  cases x with
  | tmp t =>
    injection h with h; subst h
    exact ⟨_, rfl, evalV_ok hr.slots (.tmp t)⟩
  | cell q t =>
    simp only [ares1] at h
    obtain ⟨u, k1, k2⟩ := aload_ok hM hr.mem (Lr := s.L) (fun _ _ _ => rfl) (fun s' e => by injection e with e; exact e.symm) h (evalV_ok hr.slots (.tmp q))
    refine ⟨u, ?_, k2⟩
    simp only [Act.eval] at k1
    dsimp only
    generalize a.tmps.getD q undef = p at *
    rw [← k1]
    cases p with
    | pointer y =>
      cases y with
      | none => simp [Instr.loadAt, Instr.sureAddr] at k1
      | some y => simp [Instr.loadAt, asAddr, Instr.sureAddr]
    | _ => simp [Instr.loadAt, Instr.sureAddr] at k1

theorem mapM_ex {α β γ : Type} {P : Program} {w : World} {f : α → Sem γ} {g : α → Option β} {R : β → γ → Prop} : ∀ (l : List α) (r : List β), l.mapM g = some r → (∀ x v, g x = some v → ∃ u, (f x).run P w = .ok u w ∧ R v u) →
    ∃ us, (l.mapM f).run P w = .ok us w ∧ us.length = r.length ∧ ∀ (i : Nat) (v : β) (u : γ), r[i]? = some v → us[i]? = some u → R v u
  | [], r, h, _ => by simp at h; subst h; exact ⟨[], by simp, rfl, by simp⟩
  | x :: l, r, h, hf => by
    simp only [List.mapM_cons] at h
    cases h1 : g x with
    | none => rw [h1] at h; cases h
    | some v =>
      rw [h1] at h
      cases h2 : l.mapM g with
      | none => rw [h2] at h; cases h
      | some r' =>
        rw [h2] at h
        injection h with h; subst h
        obtain ⟨u, k1, k2⟩ := hf x v h1
        obtain ⟨us, q1, q2, q3⟩ := mapM_ex l r' h2 hf
        refine ⟨u :: us, by simp [List.mapM_cons, k1, q1], by simp [q2], fun i v' u' e1 e2 => ?_⟩
        cases i with
        | zero => simp at e1 e2; subst e1; subst e2; exact k2
        | succ i => exact q3 i v' u' (by simpa using e1) (by simpa using e2)

theorem seal_ok {c : Ctx} {s : St M} {a : Act} {w : World} (hr : RelC M N w0 O0 γ0 c s a w) {A' : Nat → Prop} (hA : ∀ b, A' b → own c s.L b ∨ b < N) {sz : Nat} {v : V} {x : Option Nat × D} {u : Value}
    (h : sealV s.L sz v = some x) (hv : Val c s.L w N v u) : CompOk w A' N c.γ (x.1.bind c.ι) sz x.2 u ∧ (∀ g, x.1 = some g → (s.L g).2 ≠ .dead ∧ (s.L g).2.live = true) ∧ ∀ l, x.2 ≠ .tup l := by
  unfold sealV at h
  split at h
  · injection h with h; subst h
    refine ⟨?_, fun g e => (by cases e), fun l e => (by revert e; dsimp only; split <;> simp)⟩
    have hrr := hv.dat
    split
    · refine ⟨?_, rfl⟩
      cases hrr with
      | slE _ a cap hc => exact ⟨a, cap, rfl, Nat.zero_le _, .inl (hc rfl)⟩
      | sl _ _ _ _ _ _ _ h0 => exact absurd rfl h0
    · exact ⟨rfl, hrr.free hA rfl⟩
  · rename_i d _
    split at h
    · rename_i hf
      injection h with h; subst h
      refine ⟨?_, fun g e => (by cases e), fun l e => (by rw [show d = .tup l from e] at hf; cases hf)⟩
      have hrr := hv.dat.free hA hf
      cases d with
      | sl t l => cases t <;> first | exact ⟨rfl, hrr⟩ | (simp [D.free] at hf)
      | _ => exact ⟨rfl, hrr⟩
    · cases h
  · rename_i g n off len
    split at h
    · rename_i sz' els hL
      split at h
      · rename_i hc
        obtain ⟨h1, h2, h3⟩ := hc
        injection h with h; subst h
        subst h1; subst h2
        obtain ⟨e1, e2⟩ := get_at hL (by simp)
        have hlive : (s.L g).2.live = true := by rw [e2]; rfl
        refine ⟨?_, fun g' e => by injection e with e; subst e; exact ⟨by rw [e2]; simp, hlive⟩, fun l e => by cases e⟩
        have ho := hr.mem.obj g
        rw [e2] at ho
        cases hv with
        | ref _ _ _ _ _ k1 k2 =>
          refine ⟨(k2 _ _ _ hL).2, ?_⟩
          simp only [Option.bind_some]
          cases hι : c.ι g with
          | none => simp only [ObjOk, hι] at ho; exact ho
          | some b =>
            simp only [ObjOk, hι] at ho
            obtain ⟨y, T, fz, p1, p2, p3, vs, p4⟩ := ho
            refine ⟨y, T, fz, p1, p2, p3, vs, fun i d hd => ⟨(p4 i d hd).1.free hA ?_, (p4 i d hd).2⟩⟩
            exact List.all_eq_true.1 h3 d (List.mem_of_getElem? hd)
      · cases h
    · cases h
  · cases h

theorem ares_ok (hM : M.Ok) {c : Ctx} {s : St M} {a : Act} {w : World} (hr : RelC M N w0 O0 γ0 c s a w) {fn : Func} {szs : List Nat} {r : D} (h : ares P fn.results.toList szs s = some r) :
    ∃ v, (results fn a.tmps).run P w = .ok v w ∧ ResOk w (fun b => b < N ∨ c.O b) N c.γ szs r v := by
  unfold ares at h
  cases h1 : fn.results.toList.mapM (ares1 P s) with
  | none => rw [h1] at h; cases h
  | some vs =>
  rw [h1] at h
  simp only [Option.bind_some] at h
  cases h2 : sealL s.L szs vs with
  | none => rw [h2] at h; cases h
  | some rs =>
  rw [h2] at h
  simp only [Option.bind_some] at h
  split at h
  rotate_left
  · cases h
  rename_i hd
  obtain ⟨us, q1, q2, q3⟩ := mapM_ex (P := P) (w := w) (R := Val c s.L w N) _ _ h1 (fun x v hv => ares1_ok hM hr hv)
  obtain ⟨z1, z2, z3⟩ := sealL_spec h2
  have hrun : (results fn a.tmps).run P w = .ok (if h : us.toArray.size = 1 then us.toArray[0] else .tuple us.toArray) w := by
    unfold results
    rw [Array.mapM_eq_mapM_toList]
    simp only [Sem.run_bind, Sem.run_map, Sem.run_pure]
    exact congrArg (fun r : Result (List Value) => (r.andThen fun a w' => Result.ok a.toArray w').andThen fun a w' => Result.ok (if h : a.size = 1 then a[0] else Value.tuple a) w') q1
  refine ⟨_, hrun, ?_⟩
  let ow : Nat → Option Nat := fun i => ((rs[i]?).bind (·.1)).bind c.ι
  have how : ∀ i b, ow i = some b → ∃ g d, rs[i]? = some (some g, d) ∧ c.ι g = some b := by
    intro i b hb
    simp only [ow] at hb
    cases hx : rs[i]? with
    | none => rw [hx] at hb; cases hb
    | some x =>
      obtain ⟨g, d⟩ := x
      rw [hx] at hb
      cases g with
      | none => cases hb
      | some g => exact ⟨g, d, rfl, hb⟩
  have hcomp : ∀ (A' : Nat → Prop), (∀ b, A' b → own c s.L b ∨ b < N) → ∀ (i : Nat) (x : Option Nat × D), rs[i]? = some x → ∃ sz v u, szs[i]? = some sz ∧ vs[i]? = some v ∧ us[i]? = some u ∧
      CompOk w A' N c.γ (x.1.bind c.ι) sz x.2 u ∧ (∀ g, x.1 = some g → (s.L g).2 ≠ .dead ∧ (s.L g).2.live = true) ∧ ∀ l, x.2 ≠ .tup l := by
    intro A' hA' i x hx
    have hi := (List.getElem?_eq_some_iff.1 hx).1
    have e1 := List.getElem?_eq_getElem (show i < szs.length by omega)
    have e2 := List.getElem?_eq_getElem (show i < vs.length by omega)
    have e3 := List.getElem?_eq_getElem (show i < us.length by omega)
    obtain ⟨k1, k2⟩ := seal_ok hr hA' (z3 i _ _ x e1 e2 hx) (q3 i _ _ e2 e3)
    exact ⟨_, _, _, e1, e2, e3, k1, k2⟩
  have hlive : ∀ (i g : Nat) (d : D), rs[i]? = some (some g, d) → (s.L g).2 ≠ .dead ∧ (s.L g).2.live = true := by
    intro i g d hx
    obtain ⟨_, _, _, _, _, _, _, k⟩ := hcomp (fun _ => False) (fun _ h => h.elim) i _ hx
    exact k.1 g rfl
  have hA : ∀ b, (((b < N ∨ c.O b)) ∨ ∃ i, ow i = some b) → own c s.L b ∨ b < N := by
    rintro b ((hb | hb) | ⟨i, hb⟩)
    · exact .inr hb
    · exact .inl (.inl hb)
    · obtain ⟨g, d, hx, hι⟩ := how i b hb
      exact .inl (.inr ⟨g, hι, (hlive i g d hx).2⟩)
  refine ⟨ow, fun i j b hi hj => ?_, fun i b hb => ?_, ?_⟩
  · obtain ⟨g, d, hx, hι⟩ := how i b hi
    obtain ⟨g', d', hx', hι'⟩ := how j b hj
    have := hr.mem.inj g g' b hι hι' (hlive i g d hx).1 (hlive j g' d' hx').1
    subst this
    exact distinct_spec hd i j g (by rw [List.getElem?_map, hx]; rfl) (by rw [List.getElem?_map, hx']; rfl)
  · obtain ⟨g, d, hx, hι⟩ := how i b hb
    obtain ⟨m1, m2, m3⟩ := hr.mem.mine g b hι (hlive i g d hx).1
    exact ⟨m2, fun hh => hh.elim (fun h => by omega) m3⟩
  · split at h
    · rename_i g d
      injection h with h; subst h
      obtain ⟨sz, v, u, e1, e2, e3, k1, k2⟩ := hcomp _ hA 0 (g, d) (by simp)
      simp only [List.length_cons, List.length_nil] at z1 z2
      have hus : us = [u] := by
        cases us with
        | nil => simp at e3
        | cons x l =>
          simp at e3; subst e3
          have : l = [] := by rw [z2] at q2; simpa using q2
          rw [this]
      have hszs : szs = [sz] := by
        cases szs with
        | nil => simp at e1
        | cons x l =>
          simp at e1; subst e1
          have : l = [] := by simpa using z1
          rw [this]
      have hnt : ∀ l, d ≠ .tup l := k2.2
      rw [hus]
      cases d with
      | tup l => exact absurd rfl (hnt l)
      | _ => exact ⟨sz, hszs, k1⟩
    · rename_i hn
      injection h with h; subst h
      have hne : us.length ≠ 1 := by
        intro h1
        rw [q2, z2] at h1
        cases rs with
        | nil => simp at h1
        | cons x l =>
          have : l = [] := by simpa using h1
          subst this
          exact hn x.1 x.2 rfl
      refine ⟨us.toArray, by simp [hne], by simp; omega, by simp; omega, fun i d u sz e1 e2 e3 => ?_⟩
      rw [List.getElem?_map] at e1
      cases hx : rs[i]? with
      | none => rw [hx] at e1; cases e1
      | some x =>
        rw [hx] at e1
        injection e1 with e1; subst e1
        obtain ⟨sz', v, u', f1, f2, f3, k1, k2⟩ := hcomp _ hA i x hx
        rw [f1] at e3; injection e3 with e3; subst e3
        simp at e2
        rw [f3] at e2; injection e2 with e2; subst e2
        have : ow i = x.1.bind c.ι := by simp only [ow, hx]; rfl
        rw [this]; exact k1

theorem body_ok {Γ : Env M} (hM : M.Ok) (hΓ : ∀ f sp, Γ f = some sp → Sound P M f sp) (hP : P.follows .mixedOrders = true) {f : FuncId} {fn : Func} {code : Code} (hf : P.funcs[f]? = some fn) (hb : fn.body = some code)
    {szs : List Nat} {ds : List D} {us : List Value} {G : M.S} {γ : Nat → Option Addr} {O : Nat → Prop} {w : World} (hglob : M.rel G γ O w) (hO : ∀ b, O b → b < w.heap.size) (hreps : Reps w O 0 γ ds us) {r : D} {G' : M.S}
    (h : awp P Γ code (fun e s => (e = .normal ∨ e = .ret) ∧ s.G = G' ∧ Ends P fn.results.toList szs r s) (St.init G fn.ntmps ds)) :
    Calls P f us.toArray w fun e w' => ∃ v γ' O', e = .returned v ∧ (∀ n a, γ n = some a → γ' n = some a) ∧ M.rel G' γ' O' w' ∧ (∀ b, O' b → b < w'.heap.size ∧ (O b ∨ w.heap.size ≤ b)) ∧
      Kept w O w' ∧ ResOk w' (fun b => b < w.heap.size ∨ O' b) w.heap.size γ' szs r v := by
  refine calls_of_wp hf hb ?_
  let c0 : Ctx := { ι := fun _ => none, γ, O }
  have hown : ∀ b, own c0 (fun _ => (0, .dead)) b → O b := by
    rintro b (h | ⟨g, h, _⟩)
    · exact h
    · cases h
  have hrel : Rel M w.heap.size w O γ (St.init G fn.ntmps ds) { tmps := us.toArray ++ Array.replicate (fn.ntmps - us.toArray.size) undef, defers := [] } w := by
    refine ⟨c0, ⟨fun g => trivial, fun g g' b h => (by cases h), fun g b h => (by cases h), hglob, Nat.le_refl _, rfl, rfl, rfl, rfl, fun _ _ _ => rfl, fun b hb => ⟨hO b hb, .inl hb⟩⟩, ⟨?_, fun i v u hv hu => ?_⟩, rfl, fun _ _ h => h,
      fun b x T fz hb => ⟨x, fz, hb, rfl⟩⟩
    · simp [St.init, lentL_map, hreps.1]
    · simp only [St.init, Array.toList_append, Array.toList_replicate, List.size_toArray] at hv hu
      by_cases hi : i < us.length
      · rw [List.getElem?_append_left (by simpa using hi)] at hu
        rw [List.getElem?_append_left (by rw [lentL_map]; simpa [← hreps.1] using hi), lentL_map, List.getElem?_map, List.getElem?_map] at hv
        cases hd : ds[i]? with
        | none => rw [hd] at hv; cases hv
        | some d =>
          rw [hd] at hv
          injection hv with hv; subst hv
          exact .d _ _ (((hreps.2 i d u hd (by simpa using hu)).out hown (Nat.le_refl _)).lent _)
      · rw [List.getElem?_append_right (by rw [lentL_map]; simp [← hreps.1]; omega)] at hv
        have := List.mem_of_getElem? hv
        rw [List.mem_replicate] at this
        rw [this.2]
        exact .d _ _ (.undef _)
  refine awp_ok hM hΓ hP code _ _ _ w h hrel _ fun e s a w' he hr => ?_
  obtain ⟨he, hG, hends⟩ := he
  obtain ⟨s', hr', hG', ha⟩ : ∃ s', Rel M w.heap.size w O γ s' a w' ∧ s'.G = G' ∧ ares P fn.results.toList szs s' = some r := by
    rcases hends with h | ⟨s', hw, h⟩
    · exact ⟨s, hr, hG, h⟩
    · refine ⟨s', hw.rel hM hr, ?_, h⟩
      rw [← hG]
      clear h hr hG
      induction hw with
      | drop _ _ _ _ h => exact h
      | nil => rfl
      | trans _ _ _ _ _ ih1 ih2 => exact ih2.trans ih1
  obtain ⟨c, hc⟩ := hr'
  obtain ⟨v, k1, k2⟩ := ares_ok hM hc ha
  have hfin : a.defers = [] ∧ ∃ v, (results fn a.tmps).run P w' = .ok v w' ∧ (∃ v' γ' O', Ending.returned v = .returned v' ∧ (∀ n a, γ n = some a → γ' n = some a) ∧ M.rel G' γ' O' w' ∧
      (∀ b, O' b → b < w'.heap.size ∧ (O b ∨ w.heap.size ≤ b)) ∧ Kept w O w' ∧ ResOk w' (fun b => b < w.heap.size ∨ O' b) w.heap.size γ' szs r v') := by
    refine ⟨hc.defers, v, k1, v, c.γ, c.O, rfl, hc.hγ, by rw [← hG']; exact hc.mem.glob, hc.mem.osub, ⟨hc.mem.os, hc.mem.tape, hc.mem.output, hc.mem.size, hc.mem.keep, hc.cells⟩, k2⟩
  rcases he with rfl | rfl
  · exact hfin
  · exact hfin

/-- Functions without memory of their own. -/
abbrev PEnv := FuncId → Option (List Nat × (List D → Option D))

def M1 (γ0 : Nat → Option Addr) : GM := { S := Unit, rel := fun _ γ O _ => γ = γ0 ∧ ∀ b, ¬ O b, load := fun _ _ _ _ => none, store := fun _ _ _ _ => none }

theorem M1_ok (γ0 : Nat → Option Addr) : (M1 γ0).Ok where
  stable h _ _ := h
  load _ h := by cases h
  store _ h := by cases h

def PEnv.env (Γ : PEnv) (M : GM) : Env M := fun f => (Γ f).map fun p => .pure p.1 p.2

/-- A function that answers by F. -/
def SoundP (P : Program) (f : FuncId) (szs : List Nat) (F : List D → Option D) : Prop :=
  (∃ fn, P.funcs[f]? = some fn ∧ (fn.name == "runtime.NumGoroutine") = false ∧ fn.body.isNone = false) ∧
    ∀ ds r, F ds = some r → ∀ (w : World) γ us, Reps w (fun _ => False) 0 γ ds us →
      Calls P f us.toArray w fun e w' => ∃ v, e = .returned v ∧ Kept w (fun _ => False) w' ∧ ResOk w' (fun b => b < w.heap.size) w.heap.size γ szs r v

theorem SoundP.sound {f : FuncId} {szs : List Nat} {F : List D → Option D} (h : SoundP P f szs F) (M : GM) : Sound P M f (.pure szs F) := h

def PEnv.Ok (P : Program) (Γ : PEnv) : Prop := ∀ f szs F, Γ f = some (szs, F) → SoundP P f szs F

theorem PEnv.Ok.env {Γ : PEnv} (h : Γ.Ok P) (M : GM) : ∀ f sp, Γ.env M f = some sp → Sound P M f sp := by
  intro f sp hf
  unfold PEnv.env at hf
  cases hx : Γ f with
  | none => rw [hx] at hf; cases hf
  | some p =>
    rw [hx] at hf
    injection hf with hf; subst hf
    exact (h f p.1 p.2 hx).sound M

theorem soundP_of {Γ : PEnv} (hΓ : Γ.Ok P) (hP : P.follows .mixedOrders = true) {f : FuncId} {fn : Func} {code : Code} (hf : P.funcs[f]? = some fn) (hn : (fn.name == "runtime.NumGoroutine") = false) (hb : fn.body = some code)
    {szs : List Nat} {F : List D → Option D}
    (h : ∀ (γ0 : Nat → Option Addr) ds r, F ds = some r → awp P (Γ.env (M1 γ0)) code (fun e s => (e = .normal ∨ e = .ret) ∧ Ends P fn.results.toList szs r s) (St.init (M := M1 γ0) () fn.ntmps ds)) : SoundP P f szs F := by
  refine ⟨⟨fn, hf, hn, by rw [hb]; rfl⟩, fun ds r hF w γ us hus => ?_⟩
  have hwp := h γ ds r hF
  have := body_ok (M := M1 γ) (G := ()) (G' := ()) (O := fun _ => False) (γ := γ) (M1_ok γ) (hΓ.env _) hP hf hb (szs := szs) (r := r) (w := w) ⟨rfl, fun _ h => h⟩ (fun _ h => h.elim) hus (by
    refine cast ?_ hwp
    congr 1
    funext e s
    exact propext ⟨fun h => ⟨h.1, rfl, h.2⟩, fun h => ⟨h.1, h.2.2⟩⟩)
  refine this.mono fun e w' ⟨v, γ', O', he, hγ, hrel, hO, hk, hr⟩ => ⟨v, he, hk, ?_⟩
  obtain ⟨e1, e2⟩ := hrel
  subst e1
  have : (fun b => b < w.heap.size ∨ O' b) = fun b => b < w.heap.size := by
    funext b; apply propext
    exact ⟨fun h => h.elim id fun h => (e2 b h).elim, .inl⟩
  rw [this] at hr
  exact hr

end
end Wf

/-
  From what a function answers to what a row says.
-/
namespace Wf
open Go Go.RowKit Go.ChangeShapes Go.WideShapes

theorem Kept.below {w w' : World} (h : Kept w (fun _ => False) w') : Below w.heap.size w w' :=
  ⟨h.os, h.tape, h.output, h.size, fun k hk => h.block k hk (fun h => h)⟩

/-- What a call of a function without memory of its own does, for flat answers. -/
theorem SoundP.calls {P : Program} {f : FuncId} {szs : List Nat} {F : List D → Option D} (h : SoundP P f szs F) {ds : List D} {b : Bool} (hF : F ds = some (.bool b)) {us : List Value} {w : World}
    (hr : Reps w (fun _ => False) 0 (fun _ => none) ds us) : Calls P f us.toArray w fun e w' => e = .returned (.bool b) ∧ Below w.heap.size w w' := by
  refine (h.2 ds _ hF w _ us hr).mono fun e w' ⟨v, he, hk, hres⟩ => ?_
  obtain ⟨ow, _, _, sz, _, _, hv⟩ := hres
  cases hv
  exact ⟨he, hk.below⟩

theorem post_of_below {H : Type} {enc : TypeId × Value → H} {P : Program} {f : Func} {s : ChangeSpec} {apart fresh handsOn again : Bool} {W W' : World} {args : Array Value} {v : Value} {ds gs : List (DataW H)} {before pa pv : List MemPlace}
    (hW : DataW.Whole enc P f.params.toList s.vars apart W args.toList ds gs before)
    (hres : ∀ (b : Nat) (sp : Nat → Bool) (hd : Bool), DataW.TrodAll enc P W' b sp hd f.resultTypes.toList (v.resultList f.resultTypes.size) (s.fn H (ds ++ gs)).results [])
    (hargs : ∀ sp : Nat → Bool, (∀ p ∈ before, sp p.block = true) → DataW.TrodAll enc P W' 0 sp true f.params.toList args.toList (s.fn H (ds ++ gs)).args pa)
    (hvars : ∀ sp : Nat → Bool, (∀ p ∈ before, sp p.block = true) → DataW.TrodVars enc P W' sp s.vars (s.fn H (ds ++ gs)).vars pv)
    (hps : before = pa ++ pv) (hb : Below W.heap.size W W')
    (hok : ∀ (j : Nat) (t : TypeId) (r : Value), f.resultTypes[j]? = some t → (v.resultList f.resultTypes.size)[j]? = some r → Value.okWide P W' .any 0 t r) :
    s.post enc P f apart fresh handsOn again W args v W' := by
  have hold : ∀ p ∈ before, (fun b => decide (b < W.heap.size)) p.block = true := fun p hp => by simpa using hW.lt p hp
  have hlt : ∀ p ∈ before, p.block < W.heap.size := fun p hp => hW.lt p hp
  have hk : W.keptBut W' (· ∈ before) := hb.frame _
  refine ⟨ds, gs, before, [], pa, pv, hW, hres _ _ _, hargs _ hold, hvars _ hold, World.keptBut_mono (fun p hp => ⟨hp, ?_⟩) hk, fun _ => ?_⟩
  · rw [hps, List.mem_append] at hp
    exact Or.inr hp
  · obtain ⟨_, _, _, _, _, hz, hn⟩ := hW
    refine ⟨hok, _, _, ([] ++ pa) ++ pv, ⟨[] ++ pa, pv, trodAll_append (hargs _ (fun _ _ => rfl)) (hres _ _ _), hvars _ (fun _ _ => rfl), rfl, ?_, ?_⟩, ?_⟩
    · intro b off hp
      have hp' : MemPlace.cell b off ∈ before := by rw [hps]; simpa using hp
      rw [hb.frozen (p := ⟨b, off, none⟩) (hlt _ hp')]
      exact hz b off hp'
    · intro ha
      have := hn ha
      rw [hps] at this
      simpa using this
    · intro p hp _
      rw [hps]
      simpa using hp

theorem PEnv.none_ok {P : Program} : PEnv.Ok P (fun _ => none) := fun _ _ _ h => by cases h
def PEnv.add (Γ : PEnv) (k : FuncId) (szs : List Nat) (F : List D → Option D) : PEnv := fun f => if f = k then some (szs, F) else Γ f
theorem PEnv.Ok.add {P : Program} {Γ : PEnv} (h : Γ.Ok P) {k : FuncId} {szs : List Nat} {F : List D → Option D} (hk : SoundP P k szs F) : (Γ.add k szs F).Ok P := by
  intro f s G hf
  unfold PEnv.add at hf
  split at hf
  · rename_i e
    injection hf with hf; injection hf with h1 h2; subst h1; subst h2; subst e
    exact hk
  · exact h f s G hf
theorem PEnv.add_same (Γ : PEnv) (k : FuncId) (szs F) : (Γ.add k szs F) k = some (szs, F) := by simp [PEnv.add]
theorem PEnv.add_ne {Γ : PEnv} {k f : FuncId} {szs F x} (h : f ≠ k) (hx : Γ f = x) : (Γ.add k szs F) f = x := by simp [PEnv.add, h, hx]
end Wf

