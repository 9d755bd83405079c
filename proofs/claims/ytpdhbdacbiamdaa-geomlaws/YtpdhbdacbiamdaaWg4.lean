/-
  Rules to run the machine over plain data by.
-/
import Derived.Test.YtpdhbdacbiamdaaWg3
set_option linter.unusedVariables false
set_option linter.unusedSimpArgs false
set_option linter.unnecessarySimpa false
namespace Wf
open Go Go.RowKit

section
variable {M : GM} {P : Program} {Γ : Env M} {ops : Array Oper} {o : Oper} {l : List Oper} {s s1 : St M} {f : Foot} {Q : St M → Prop} {R : AExit → St M → Prop} {x y : Code} {c : Operand} {id : Nat} {log : List Foot}

def Runs (P : Program) (Γ : Env M) (ops : Array Oper) (l : List Oper) (s : St M) (Q : St M → Prop) : Prop := ∃ s', arun P Γ ops l s = some s' ∧ Q s'
def RunsD (P : Program) (Γ : Env M) (ops : Array Oper) (l : List Oper) (s : St M) (log : List Foot) (Q : St M → Prop) : Prop := ∃ s' log', arunD P Γ ops l s = some (s', log') ∧ chk ops (log.reverse ++ log') = true ∧ Q s'

theorem runs_nil (h : Q s) : Runs P Γ ops [] s Q := ⟨s, rfl, h⟩
theorem runs_cons (h : astep P Γ ops o s = some (s1, f)) (k : Runs P Γ ops l s1 Q) : Runs P Γ ops (o :: l) s Q := by
  obtain ⟨s', k1, k2⟩ := k
  exact ⟨s', by simp only [arun, h, Option.bind_some, k1], k2⟩
theorem runsD_nil (h : chk ops log.reverse = true) (k : Q s) : RunsD P Γ ops [] s log Q := ⟨s, [], rfl, by simpa using h, k⟩
theorem runsD_cons (h : astep P Γ ops o s = some (s1, f)) (k : RunsD P Γ ops l s1 (f :: log) Q) : RunsD P Γ ops (o :: l) s log Q := by
  obtain ⟨s', log', k1, k2, k3⟩ := k
  exact ⟨s', f :: log', by simp only [arunD, h, Option.bind_some, k1, Option.map_some], by simpa using k2, k3⟩

/-- The value that an operation's guard looks at. -/
def seen (ops : Array Oper) (o : Oper) (s : St M) : Option V := o.guard.bind fun g => ((ops[g.1]?).bind (·.dst)).bind (s.slots[·]?)
theorem runs_guard {b : Bool} (_ : seen ops o s = some (.d (.bool b))) (h1 : b = true → Runs P Γ ops (o :: l) s Q) (h2 : b = false → Runs P Γ ops (o :: l) s Q) : Runs P Γ ops (o :: l) s Q := by
  cases b
  · exact h2 rfl
  · exact h1 rfl
theorem runsD_guard {b : Bool} (_ : seen ops o s = some (.d (.bool b))) (h1 : b = true → RunsD P Γ ops (o :: l) s log Q) (h2 : b = false → RunsD P Γ ops (o :: l) s log Q) : RunsD P Γ ops (o :: l) s log Q := by
  cases b
  · exact h2 rfl
  · exact h1 rfl

def Then (P : Program) (Γ : Env M) (y : Code) (R : AExit → St M → Prop) (e : AExit) (s : St M) : Prop := match e with
  | .normal => awp P Γ y R s
  | e => R e s
def InBlock (id : Nat) (R : AExit → St M → Prop) (e : AExit) (s : St M) : Prop := match e with
  | .exit id' => if id' = id then R .normal s else R (.exit id') s
  | e => R e s
def Round {α : Type} (J : α → St M) (μ : α → Nat) (a : α) (R : AExit → St M → Prop) (e : AExit) (s : St M) : Prop := match e with
  | .normal => ∃ a', μ a' < μ a ∧ Wk s (J a')
  | e => R e s

theorem awp_region (h : Runs P Γ ops ops.toList s (R .normal)) : awp P Γ (.region id ops false) R s := h
theorem awp_drawn (hl : Region.lexB .any ops = true) (h : RunsD P Γ ops ops.toList s [] (R .normal)) : awp P Γ (.region id ops true) R s := ⟨hl, by simpa [RunsD] using h⟩
theorem awp_seq (h : awp P Γ x (Then P Γ y R) s) : awp P Γ (.seq x y) R s := by
  simp only [awp]
  refine cast (congrArg (fun q => awp P Γ x q s) ?_) h
  funext e s'; cases e <;> rfl
theorem awp_cond {b : Bool} (hc : evalV s.slots c = .d (.bool b)) (h1 : b = true → awp P Γ x R s) (h2 : b = false → awp P Γ y R s) : awp P Γ (.cond c x y) R s := by
  simp only [awp]
  rw [hc]
  cases b
  · exact h2 rfl
  · exact h1 rfl
theorem awp_block (h : awp P Γ x (InBlock id R) s) : awp P Γ (.block id x) R s := by
  simp only [awp]
  refine cast (congrArg (fun q => awp P Γ x q s) ?_) h
  funext e s'; cases e <;> rfl
theorem awp_scope (h : awp P Γ x R s) : awp P Γ (.scope x) R s := h
theorem awp_skip (h : R .normal s) : awp P Γ .skip R s := h
theorem awp_ret (h : R .ret s) : awp P Γ .ret R s := h
theorem awp_exit (h : R (.exit id) s) : awp P Γ (.exit id) R s := h
theorem awp_loop {α : Type} (J : α → St M) (μ : α → Nat) (a0 : α) (h0 : Wk s (J a0)) (h : ∀ a, awp P Γ x (Round J μ a R) (J a)) : awp P Γ (.loop x) R s := by
  refine ⟨α, J, μ, a0, h0, fun a => ?_⟩
  refine cast (congrArg (fun q => awp P Γ x q (J a)) ?_) (h a)
  funext e s'; cases e <;> rfl
theorem then_normal (h : awp P Γ y R s) : Then P Γ y R .normal s := h
theorem then_ret (h : R .ret s) : Then P Γ y R .ret s := h
theorem then_exit (h : R (.exit id) s) : Then P Γ y R (.exit id) s := h
theorem block_normal (h : R .normal s) : InBlock id R .normal s := h
theorem block_ret (h : R .ret s) : InBlock id R .ret s := h
theorem block_same (h : R .normal s) : InBlock id R (.exit id) s := by simp [InBlock, h]
theorem block_other {id' : Nat} (hne : id' ≠ id) (h : R (.exit id') s) : InBlock id R (.exit id') s := by simp [InBlock, hne, h]
theorem round_ret {α : Type} {J : α → St M} {μ : α → Nat} {a : α} (h : R .ret s) : Round J μ a R .ret s := h
theorem round_exit {α : Type} {J : α → St M} {μ : α → Nat} {a : α} (h : R (.exit id) s) : Round J μ a R (.exit id) s := h
theorem round_normal {α : Type} {J : α → St M} {μ : α → Nat} {a : α} (a' : α) (h : μ a' < μ a) (k : Wk s (J a')) : Round J μ a R .normal s := ⟨a', h, k⟩
end

/-- New slots say no more than old ones. -/
def wkB (K : List Nat) : List V → List V → Prop
  | [], [] => True
  | n :: ns, o :: os => (n = .d .undef ∨ (n = o ∧ ∀ g, g ∈ n.ids → g ∈ K)) ∧ wkB K ns os
  | _, _ => False

theorem wkB_spec {K : List Nat} : ∀ {ns os : List V}, wkB K ns os → ns.length = os.length ∧ ∀ (i : Nat) (v : V), ns[i]? = some v → v = .d .undef ∨ (os[i]? = some v ∧ ∀ g, g ∈ v.ids → g ∈ K)
  | [], [], _ => ⟨rfl, by simp⟩
  | [], _ :: _, h => h.elim
  | _ :: _, [], h => h.elim
  | n :: ns, o :: os, h => by
    obtain ⟨h1, h2⟩ := h
    obtain ⟨k1, k2⟩ := wkB_spec h2
    refine ⟨by simp [k1], fun i v hv => ?_⟩
    cases i with
    | zero =>
      simp at hv; subst hv
      rcases h1 with h1 | ⟨h1, h3⟩
      · exact .inl h1
      · exact .inr ⟨by simp [h1], h3⟩
    | succ i => simpa using k2 i v (by simpa using hv)

theorem wk_of {M : GM} (K : List Nat) {ns os : List V} {L L' : Loc} {G : M.S} (h : wkB K ns os) (h1 : ∀ k, k ∈ K → L' k = L k) (h2 : ∀ g, g ∉ K → L' g = (0, .dead))
    (h3 : ∀ k, k ∈ K → ∀ v, (L' k).2 = .vbox v → ∀ g, g ∈ v.ids → g ∈ K) : Wk { slots := os, L := L, G := G } { slots := ns, L := L', G := G } :=
  .drop _ _ K (wkB_spec h).1 rfl h1 h2 (wkB_spec h).2 h3

attribute [irreducible] Runs RunsD Then InBlock Round
attribute [simp] astep aguard aop rdOf gOf looksL makesL D.lentL D.lent Op.operands Call.operands evalV V.ids V.idsL putV Loc.only Loc.upd Loc.set Loc.get Loc.new out aload okRef cellD isH okPtr partD
  elsOf alen acall acallee lend lend1 lend2 adopt adopt1 adoptL abin aun ibin ishift PEnv.env toD toDs findD setD D.width D.cell D.isAgg okEls seen
attribute [simp] St.init afieldAddr astore aindexAddr aslice optD abuild abuildSlice lay amapUpdate alookup aappend

@[simp] def ups : Nat → List Nat → Bool
  | _, [] => true
  | i, x :: r => x == i && ups (i + 1) r
theorem ups_range : ∀ (l : List Nat) (i n : Nat), (l = List.range' i n) ↔ (ups i l = true ∧ l.length = n)
  | [], i, n => by cases n <;> simp [List.range'_succ]
  | x :: l, i, 0 => by simp
  | x :: l, i, n + 1 => by
    simp only [List.range'_succ, List.cons.injEq, ups, Bool.and_eq_true, beq_iff_eq, List.length_cons, Nat.add_right_cancel_iff]
    rw [ups_range l (i + 1) n]
    exact and_assoc.symm
@[simp] theorem range_ups (l : List Nat) (n : Nat) : (l = List.range n) = (ups 0 l = true ∧ l.length = n) := by
  rw [List.range_eq_range']; exact propext (ups_range l 0 n)
theorem appendTy_le {P : Program} {ty sz n : Nat} (h0 : appendTy P ty 0 = some sz) (h : n ≤ 4294967296) : appendTy P ty n = some sz := by
  unfold appendTy at *
  split at h0
  · split at h0
    · split at h0
      · rename_i hc
        rw [if_pos ⟨hc.1, hc.2.1, hc.2.2.1, hc.2.2.2.1, by simpa using h⟩]
        exact h0
      · cases h0
    · cases h0
  · cases h0
theorem wrap_fit {n : Int} (h0 : -9223372036854775808 ≤ n) (h1 : n < 9223372036854775808) : IntKind.i64.wrap n = n := by
  have e : IntKind.i64.wrap n = if n % 18446744073709551616 < 9223372036854775808 then n % 18446744073709551616 else n % 18446744073709551616 - 18446744073709551616 := by
    simp [IntKind.wrap, IntKind.bits, IntKind.signed]
    try (split <;> omega)
  rw [e]
  split <;> omega
/-- The first place of v. -/
def idx (v : Int) : List Int → Int
  | [] => -1
  | x :: r => if v = x then 0 else if idx v r = -1 then -1 else idx v r + 1
theorem idx_none {v : Int} : ∀ {xs : List Int}, (∀ j, j < xs.length → xs[j]? ≠ some v) → idx v xs = -1
  | [], _ => rfl
  | x :: xs, h => by
    have h0 : v ≠ x := fun e => h 0 (by simp) (by simp [e])
    have := idx_none (xs := xs) fun j hj => by simpa using h (j + 1) (by simpa using hj)
    simp [idx, h0, this]
theorem idx_some {v : Int} : ∀ {xs : List Int} {i : Nat}, (∀ j, j < i → xs[j]? ≠ some v) → xs[i]? = some v → idx v xs = i
  | [], i, _, h => by simp at h
  | x :: xs, 0, _, h => by simp at h; simp [idx, h]
  | x :: xs, i + 1, hn, h => by
    have h0 : v ≠ x := fun e => hn 0 (by omega) (by simp [e])
    have := idx_some (xs := xs) (i := i) (fun j hj => by simpa using hn (j + 1) (by omega)) (by simpa using h)
    simp only [idx, h0, if_false, this]
    rw [if_neg (by omega)]
    omega
@[simp] theorem nat_not_neg (i : Nat) : ((i : Int) < 0) = False := by simp
@[simp] theorem nat_nonneg (i : Nat) : (0 ≤ (i : Int)) = True := by simp
@[simp] def iD (n : Int) : D := .int .i64 n
def unI : D → Option Int
  | .int .i64 n => some n
  | _ => none
def ints (l : List D) : Option (List Int) := l.mapM unI
theorem ints_spec : ∀ {l : List D} {xs : List Int}, ints l = some xs → l = xs.map iD
  | [], xs, h => by simp [ints] at h; subst h; rfl
  | d :: l, xs, h => by
    simp only [ints, List.mapM_cons] at h
    cases h1 : unI d with
    | none => rw [h1] at h; cases h
    | some n =>
      rw [h1] at h
      cases h2 : l.mapM unI with
      | none => rw [h2] at h; cases h
      | some ys =>
        rw [h2] at h
        injection h with h; subst h
        rw [ints_spec (l := l) h2]
        unfold unI at h1
        split at h1
        · injection h1 with h1; subst h1; rfl
        · cases h1
theorem ints_map (xs : List Int) : ints (xs.map iD) = some xs := by
  induction xs with
  | nil => rfl
  | cons x xs ih =>
    simp only [ints, List.map_cons, List.mapM_cons] at ih ⊢
    rw [ih]; rfl
@[simp] theorem lentL_ints (xs : List Int) : D.lentL (xs.map iD) = xs.map iD := by
  rw [lentL_map]; simp [List.map_map, Function.comp_def]
@[simp] theorem freeL_ints (xs : List Int) : D.freeL (xs.map iD) = true := by
  rw [freeL_all]; simp [D.free]
end Wf
