/-
  Functions: from the machine over plain data to what a call does.
-/
import Derived.Test.YtpdhbdacbiamdaaWg2
set_option linter.unusedVariables false
set_option linter.unusedSimpArgs false
set_option linter.unnecessarySimpa false
namespace Wf
open Go Go.RowKit

mutual
/-- Data that refers to nothing of the caller's. -/
def D.free : D → Bool
  | .agg cs => D.freeL cs
  | .sl .fresh l | .sl .full l => D.freeL l
  | .fn _ a b => D.freeL a && D.freeL b
  | .sl _ _ | .at_ _ | .tup _ => false
  | _ => true
def D.freeL : List D → Bool
  | [] => true
  | d :: r => d.free && D.freeL r
end

mutual
/-- Data, as a callee sees it. -/
def D.lent : D → D
  | .agg cs => .agg (D.lentL cs)
  | .sl _ l => .sl .lent (D.lentL l)
  | .fn f a b => .fn f (D.lentL a) (D.lentL b)
  | .at_ d => .at_ d.lent
  | .tup l => .tup (D.lentL l)
  | d => d
def D.lentL : List D → List D
  | [] => []
  | d :: r => d.lent :: D.lentL r
end

theorem freeL_mem {d : D} : ∀ {l : List D}, D.freeL l = true → d ∈ l → d.free = true
  | [], _, h => by cases h
  | x :: l, h, hd => by
    simp only [D.freeL, Bool.and_eq_true] at h
    rcases List.mem_cons.1 hd with e | e
    · subst e; exact h.1
    · exact freeL_mem h.2 e
theorem freeL_all {l : List D} : D.freeL l = l.all D.free := by
  induction l with
  | nil => rfl
  | cons d l ih => simp [D.freeL, ih]
theorem lentL_map (l : List D) : D.lentL l = l.map D.lent := by
  induction l with
  | nil => rfl
  | cons d l ih => simp [D.lentL, ih]

theorem Rep.free {w : World} {A A' : Nat → Prop} {N : Nat} {γ} {d : D} {u : Value} (h : Rep w A N γ d u) (hA : ∀ b, A' b → A b ∨ b < N) : d.free = true → Rep w A' N γ d u := by
  induction h with
  | undef v => exact fun _ => .undef v
  | bool b => exact fun _ => .bool b
  | int k n => exact fun _ => .int k n
  | str s => exact fun _ => .str s
  | nilp => exact fun _ => .nilp
  | nilfn => exact fun _ => .nilfn
  | agg cs vs h1 _ h3 ih =>
    intro hf
    simp only [D.free] at hf
    exact .agg cs vs h1 (fun i d v hd hv => ih i d v hd hv (freeL_mem hf (List.mem_of_getElem? hd))) h3
  | tup cs vs h1 _ ih => intro hf; cases hf
  | fn f a b va vb h1 h2 _ _ ih1 ih2 =>
    intro hf
    simp only [D.free, Bool.and_eq_true] at hf
    exact .fn f a b va vb h1 h2 (fun i d v hd hv => ih1 i d v hd hv (freeL_mem hf.1 (List.mem_of_getElem? hd))) (fun i d v hd hv => ih2 i d v hd hv (freeL_mem hf.2 (List.mem_of_getElem? hd)))
  | slE t a cap h => exact fun _ => .slE t a cap h
  | sl t l b o sz cap vs h1 h2 h3 h4 h5 h6 _ h8 ih =>
    intro hf
    have hl : D.freeL l = true ∧ t ≠ .lent := by cases t <;> simp_all [D.free]
    refine .sl t l b o sz cap vs h1 h2 h3 (fun hb => ?_) h5 h6 (fun i d hd => ih i d hd (freeL_mem hl.1 (List.mem_of_getElem? hd))) h8
    rcases hA b hb with h | h
    · exact h4 h
    · have := h5 hl.2; omega
  | at_ d v b o h1 h2 h3 _ ih => intro hf; cases hf
  | h n off b o hn => exact fun _ => .h n off b o hn

theorem Rep.lent {w : World} {A : Nat → Prop} {N : Nat} {γ} {d : D} {u : Value} (h : Rep w A N γ d u) (N' : Nat) : Rep w A N' γ d.lent u := by
  have hget : ∀ {l : List D} {i : Nat} {d : D}, (D.lentL l)[i]? = some d → ∃ e, l[i]? = some e ∧ d = e.lent := by
    intro l i d hd
    rw [lentL_map, List.getElem?_map] at hd
    cases he : l[i]? with
    | none => rw [he] at hd; cases hd
    | some e => rw [he] at hd; injection hd with hd; exact ⟨e, rfl, hd.symm⟩
  have hlen : ∀ l : List D, (D.lentL l).length = l.length := fun l => by rw [lentL_map]; simp
  induction h with
  | undef v => exact .undef v
  | bool b => exact .bool b
  | int k n => exact .int k n
  | str s => exact .str s
  | nilp => exact .nilp
  | nilfn => exact .nilfn
  | agg cs vs h1 _ h3 ih =>
    exact .agg _ vs (by rw [hlen]; exact h1) (fun i d v hd hv => by obtain ⟨e, he, rfl⟩ := hget hd; exact ih i e v he hv) h3
  | tup cs vs h1 _ ih =>
    exact .tup _ vs (by rw [hlen]; exact h1) (fun i d v hd hv => by obtain ⟨e, he, rfl⟩ := hget hd; exact ih i e v he hv)
  | fn f a b va vb h1 h2 _ _ ih1 ih2 =>
    exact .fn f _ _ va vb (by rw [hlen]; exact h1) (by rw [hlen]; exact h2) (fun i d v hd hv => by obtain ⟨e, he, rfl⟩ := hget hd; exact ih1 i e v he hv)
      (fun i d v hd hv => by obtain ⟨e, he, rfl⟩ := hget hd; exact ih2 i e v he hv)
  | slE t a cap h => exact .slE .lent a cap (fun h => by cases h)
  | sl t l b o sz cap vs h1 h2 h3 h4 h5 h6 _ h8 ih =>
    have := Rep.sl (w := w) (A := A) (N := N') (γ := γ) .lent (D.lentL l) b o sz cap vs (by intro h; apply h1; have := hlen l; rw [h] at this; exact List.eq_nil_of_length_eq_zero this.symm)
      (by rw [hlen]; exact h2) (fun h => by cases h) h4 (fun h => absurd rfl h) h6 (fun i d hd => by obtain ⟨e, he, rfl⟩ := hget hd; exact ih i e he) (fun i hi => h8 i (by rw [hlen] at hi; exact hi))
    rw [hlen] at this
    exact this
  | at_ d v b o h1 h2 h3 _ ih => exact .at_ _ v b o h1 h2 h3 ih
  | h n off b o hn => exact .h n off b o hn

section
variable {M : GM}

def ares1 (P : Program) (s : St M) : ResultVar → Option V
  | .tmp t => some (s.slots.getD t (.d .undef))
  | .cell a t => aload P M s.L (some s.G) t (s.slots.getD a (.d .undef))

def sealV (L : Loc) (sz : Nat) : V → Option (Option Nat × D)
  | .d x => if x.free = true then some (none, x) else none
  | .ref g n off len => match off, L.get g n with
    | 0, .arr sz' els true => if len = els.length ∧ sz' = sz ∧ els.all D.free = true then some (some g, .sl .own els) else none
    | _, _ => none
  | _ => none

def sealL (L : Loc) : List Nat → List V → Option (List (Option Nat × D))
  | [], [] => some []
  | sz :: szs, v :: vs => (sealV L sz v).bind fun x => (sealL L szs vs).map fun r => x :: r
  | _, _ => none

def distinct : List (Option Nat) → Bool
  | [] => true
  | none :: r => distinct r
  | some g :: r => !(r.contains (some g)) && distinct r

/-- What a function answers. -/
def ares (P : Program) (res : List ResultVar) (szs : List Nat) (s : St M) : Option D :=
  (res.mapM (ares1 P s)).bind fun vs => (sealL s.L szs vs).bind fun rs =>
    if distinct (rs.map (·.1)) = true then (match rs with
      | [(_, d)] => some d
      | rs => some (.tup (rs.map (·.2)))) else none

def St.init (G : M.S) (n : Nat) (ds : List D) : St M :=
  { slots := (D.lentL ds).map .d ++ List.replicate (n - ds.length) (.d .undef), L := fun _ => (0, .dead), G }

/-- What is wanted at a function's end. -/
def Ends (P : Program) (res : List ResultVar) (szs : List Nat) (r : D) (s : St M) : Prop := ares P res szs s = some r ∨ ∃ s', Wk s s' ∧ ares P res szs s' = some r

theorem distinct_spec : ∀ {l : List (Option Nat)}, distinct l = true → ∀ (i j g : Nat), l[i]? = some (some g) → l[j]? = some (some g) → i = j
  | [], _, i, j, g, h, _ => by simp at h
  | none :: l, h, i, j, g, hi, hj => by
    cases i with
    | zero => simp at hi
    | succ i =>
      cases j with
      | zero => simp at hj
      | succ j => rw [distinct_spec (l := l) h i j g (by simpa using hi) (by simpa using hj)]
  | some k :: l, h, i, j, g, hi, hj => by
    simp only [distinct, Bool.and_eq_true, Bool.not_eq_true', List.contains_eq_mem, decide_eq_false_iff_not] at h
    cases i with
    | zero =>
      cases j with
      | zero => rfl
      | succ j =>
        simp at hi hj
        subst hi
        exact absurd (List.mem_of_getElem? hj) h.1
    | succ i =>
      cases j with
      | zero =>
        simp at hi hj
        subst hj
        exact absurd (List.mem_of_getElem? hi) h.1
      | succ j => rw [distinct_spec (l := l) h.2 i j g (by simpa using hi) (by simpa using hj)]

theorem sealL_spec {L : Loc} : ∀ {szs : List Nat} {vs : List V} {rs : List (Option Nat × D)}, sealL L szs vs = some rs → szs.length = rs.length ∧ vs.length = rs.length ∧
    ∀ (i : Nat) (sz : Nat) (v : V) (x : Option Nat × D), szs[i]? = some sz → vs[i]? = some v → rs[i]? = some x → sealV L sz v = some x
  | [], [], rs, h => by injection h with h; subst h; exact ⟨rfl, rfl, by simp⟩
  | [], _ :: _, _, h => by cases h
  | _ :: _, [], _, h => by cases h
  | sz :: szs, v :: vs, rs, h => by
    simp only [sealL] at h
    cases h1 : sealV L sz v with
    | none => rw [h1] at h; cases h
    | some x =>
      rw [h1] at h
      simp only [Option.bind_some] at h
      cases h2 : sealL L szs vs with
      | none => rw [h2] at h; cases h
      | some r =>
        rw [h2] at h
        injection h with h; subst h
        obtain ⟨p1, p2, p3⟩ := sealL_spec h2
        refine ⟨by simp [p1], by simp [p2], fun i sz' v' x' e1 e2 e3 => ?_⟩
        cases i with
        | zero => simp at e1 e2 e3; subst e1; subst e2; subst e3; exact h1
        | succ i => exact p3 i sz' v' x' (by simpa using e1) (by simpa using e2) (by simpa using e3)

variable {P : Program} {N : Nat} {w0 : World} {O0 : Nat → Prop} {γ0 : Nat → Option Addr}

theorem ares1_ok (hM : M.Ok) {c : Ctx} {s : St M} {a : Act} {w : World} (hr : RelC M N w0 O0 γ0 c s a w) {x : ResultVar} {v : V} (h : ares1 P s x = some v) :
    ∃ u, (match x with | .tmp t => pure (a.tmps.getD t undef) | .cell q t => (do loadVar t (← asAddr (a.tmps.getD q undef))) : Sem Value).run P w = .ok u w ∧ Val c s.L w N v u := by
  cases x with
  | tmp t =>
    injection h with h; subst h
    exact ⟨_, rfl, evalV_ok hr.slots (.tmp t)⟩
  | cell q t =>
    simp only [ares1] at h
    obtain ⟨u, k1, k2⟩ := aload_ok hM hr.mem (Lr := s.L) (fun _ _ _ => rfl) (fun s' e => by injection e with e; exact e.symm) h (evalV_ok hr.slots (.tmp q))
    refine ⟨u, ?_, k2⟩
    simp only [Act.eval] at k1
    dsimp only
    generalize a.tmps.getD q undef = p at *
    rw [← k1]
    cases p with
    | pointer y =>
      cases y with
      | none => simp [Instr.loadAt, Instr.sureAddr] at k1
      | some y => simp [Instr.loadAt, asAddr, Instr.sureAddr]
    | _ => simp [Instr.loadAt, Instr.sureAddr] at k1

theorem mapM_ex {α β γ : Type} {P : Program} {w : World} {f : α → Sem γ} {g : α → Option β} {R : β → γ → Prop} : ∀ (l : List α) (r : List β), l.mapM g = some r → (∀ x v, g x = some v → ∃ u, (f x).run P w = .ok u w ∧ R v u) →
    ∃ us, (l.mapM f).run P w = .ok us w ∧ us.length = r.length ∧ ∀ (i : Nat) (v : β) (u : γ), r[i]? = some v → us[i]? = some u → R v u
  | [], r, h, _ => by simp at h; subst h; exact ⟨[], by simp, rfl, by simp⟩
  | x :: l, r, h, hf => by
    simp only [List.mapM_cons] at h
    cases h1 : g x with
    | none => rw [h1] at h; cases h
    | some v =>
      rw [h1] at h
      cases h2 : l.mapM g with
      | none => rw [h2] at h; cases h
      | some r' =>
        rw [h2] at h
        injection h with h; subst h
        obtain ⟨u, k1, k2⟩ := hf x v h1
        obtain ⟨us, q1, q2, q3⟩ := mapM_ex l r' h2 hf
        refine ⟨u :: us, by simp [List.mapM_cons, k1, q1], by simp [q2], fun i v' u' e1 e2 => ?_⟩
        cases i with
        | zero => simp at e1 e2; subst e1; subst e2; exact k2
        | succ i => exact q3 i v' u' (by simpa using e1) (by simpa using e2)

theorem seal_ok {c : Ctx} {s : St M} {a : Act} {w : World} (hr : RelC M N w0 O0 γ0 c s a w) {A' : Nat → Prop} (hA : ∀ b, A' b → own c s.L b ∨ b < N) {sz : Nat} {v : V} {x : Option Nat × D} {u : Value}
    (h : sealV s.L sz v = some x) (hv : Val c s.L w N v u) : CompOk w A' N c.γ (x.1.bind c.ι) sz x.2 u ∧ (∀ g, x.1 = some g → (s.L g).2 ≠ .dead ∧ (s.L g).2.live = true) ∧ ∀ l, x.2 ≠ .tup l := by
  unfold sealV at h
  split at h
  · rename_i d
    split at h
    · rename_i hf
      injection h with h; subst h
      refine ⟨?_, fun g e => (by cases e), fun l e => (by rw [show d = .tup l from e] at hf; cases hf)⟩
      have hrr := hv.dat.free hA hf
      cases d with
      | sl t l => cases t <;> first | exact ⟨rfl, hrr⟩ | (simp [D.free] at hf)
      | _ => exact ⟨rfl, hrr⟩
    · cases h
  · rename_i g n off len
    split at h
    · rename_i sz' els hL
      split at h
      · rename_i hc
        obtain ⟨h1, h2, h3⟩ := hc
        injection h with h; subst h
        subst h1; subst h2
        obtain ⟨e1, e2⟩ := get_at hL (by simp)
        have hlive : (s.L g).2.live = true := by rw [e2]; rfl
        refine ⟨?_, fun g' e => by injection e with e; subst e; exact ⟨by rw [e2]; simp, hlive⟩, fun l e => by cases e⟩
        have ho := hr.mem.obj g
        rw [e2] at ho
        cases hv with
        | ref _ _ _ _ _ k1 k2 =>
          refine ⟨(k2 _ _ _ hL).2, ?_⟩
          simp only [Option.bind_some]
          cases hι : c.ι g with
          | none => simp only [ObjOk, hι] at ho; exact ho
          | some b =>
            simp only [ObjOk, hι] at ho
            obtain ⟨y, T, fz, p1, p2, p3, vs, p4⟩ := ho
            refine ⟨y, T, fz, p1, p2, p3, vs, fun i d hd => ⟨(p4 i d hd).1.free hA ?_, (p4 i d hd).2⟩⟩
            exact List.all_eq_true.1 h3 d (List.mem_of_getElem? hd)
      · cases h
    · cases h
  · cases h

theorem ares_ok (hM : M.Ok) {c : Ctx} {s : St M} {a : Act} {w : World} (hr : RelC M N w0 O0 γ0 c s a w) {fn : Func} {szs : List Nat} {r : D} (h : ares P fn.results.toList szs s = some r) :
    ∃ v, (results fn a.tmps).run P w = .ok v w ∧ ResOk w (fun b => b < N ∨ c.O b) N c.γ szs r v := by
  unfold ares at h
  cases h1 : fn.results.toList.mapM (ares1 P s) with
  | none => rw [h1] at h; cases h
  | some vs =>
  rw [h1] at h
  simp only [Option.bind_some] at h
  cases h2 : sealL s.L szs vs with
  | none => rw [h2] at h; cases h
  | some rs =>
  rw [h2] at h
  simp only [Option.bind_some] at h
  split at h
  rotate_left
  · cases h
  rename_i hd
  obtain ⟨us, q1, q2, q3⟩ := mapM_ex (P := P) (w := w) (R := Val c s.L w N) _ _ h1 (fun x v hv => ares1_ok hM hr hv)
  obtain ⟨z1, z2, z3⟩ := sealL_spec h2
  have hrun : (results fn a.tmps).run P w = .ok (if h : us.toArray.size = 1 then us.toArray[0] else .tuple us.toArray) w := by
    unfold results
    rw [Array.mapM_eq_mapM_toList]
    simp only [Sem.run_bind, Sem.run_map, Sem.run_pure]
    exact congrArg (fun r : Result (List Value) => (r.andThen fun a w' => Result.ok a.toArray w').andThen fun a w' => Result.ok (if h : a.size = 1 then a[0] else Value.tuple a) w') q1
  refine ⟨_, hrun, ?_⟩
  let ow : Nat → Option Nat := fun i => ((rs[i]?).bind (·.1)).bind c.ι
  have how : ∀ i b, ow i = some b → ∃ g d, rs[i]? = some (some g, d) ∧ c.ι g = some b := by
    intro i b hb
    simp only [ow] at hb
    cases hx : rs[i]? with
    | none => rw [hx] at hb; cases hb
    | some x =>
      obtain ⟨g, d⟩ := x
      rw [hx] at hb
      cases g with
      | none => cases hb
      | some g => exact ⟨g, d, rfl, hb⟩
  have hcomp : ∀ (A' : Nat → Prop), (∀ b, A' b → own c s.L b ∨ b < N) → ∀ (i : Nat) (x : Option Nat × D), rs[i]? = some x → ∃ sz v u, szs[i]? = some sz ∧ vs[i]? = some v ∧ us[i]? = some u ∧
      CompOk w A' N c.γ (x.1.bind c.ι) sz x.2 u ∧ (∀ g, x.1 = some g → (s.L g).2 ≠ .dead ∧ (s.L g).2.live = true) ∧ ∀ l, x.2 ≠ .tup l := by
    intro A' hA' i x hx
    have hi := (List.getElem?_eq_some_iff.1 hx).1
    have e1 := List.getElem?_eq_getElem (show i < szs.length by omega)
    have e2 := List.getElem?_eq_getElem (show i < vs.length by omega)
    have e3 := List.getElem?_eq_getElem (show i < us.length by omega)
    obtain ⟨k1, k2⟩ := seal_ok hr hA' (z3 i _ _ x e1 e2 hx) (q3 i _ _ e2 e3)
    exact ⟨_, _, _, e1, e2, e3, k1, k2⟩
  have hlive : ∀ (i g : Nat) (d : D), rs[i]? = some (some g, d) → (s.L g).2 ≠ .dead ∧ (s.L g).2.live = true := by
    intro i g d hx
    obtain ⟨_, _, _, _, _, _, _, k⟩ := hcomp (fun _ => False) (fun _ h => h.elim) i _ hx
    exact k.1 g rfl
  have hA : ∀ b, (((b < N ∨ c.O b)) ∨ ∃ i, ow i = some b) → own c s.L b ∨ b < N := by
    rintro b ((hb | hb) | ⟨i, hb⟩)
    · exact .inr hb
    · exact .inl (.inl hb)
    · obtain ⟨g, d, hx, hι⟩ := how i b hb
      exact .inl (.inr ⟨g, hι, (hlive i g d hx).2⟩)
  refine ⟨ow, fun i j b hi hj => ?_, fun i b hb => ?_, ?_⟩
  · obtain ⟨g, d, hx, hι⟩ := how i b hi
    obtain ⟨g', d', hx', hι'⟩ := how j b hj
    have := hr.mem.inj g g' b hι hι' (hlive i g d hx).1 (hlive j g' d' hx').1
    subst this
    exact distinct_spec hd i j g (by rw [List.getElem?_map, hx]; rfl) (by rw [List.getElem?_map, hx']; rfl)
  · obtain ⟨g, d, hx, hι⟩ := how i b hb
    obtain ⟨m1, m2, m3⟩ := hr.mem.mine g b hι (hlive i g d hx).1
    exact ⟨m2, fun hh => hh.elim (fun h => by omega) m3⟩
  · split at h
    · rename_i g d
      injection h with h; subst h
      obtain ⟨sz, v, u, e1, e2, e3, k1, k2⟩ := hcomp _ hA 0 (g, d) (by simp)
      simp only [List.length_cons, List.length_nil] at z1 z2
      have hus : us = [u] := by
        cases us with
        | nil => simp at e3
        | cons x l =>
          simp at e3; subst e3
          have : l = [] := by rw [z2] at q2; simpa using q2
          rw [this]
      have hszs : szs = [sz] := by
        cases szs with
        | nil => simp at e1
        | cons x l =>
          simp at e1; subst e1
          have : l = [] := by simpa using z1
          rw [this]
      have hnt : ∀ l, d ≠ .tup l := k2.2
      rw [hus]
      cases d with
      | tup l => exact absurd rfl (hnt l)
      | _ => exact ⟨sz, hszs, k1⟩
    · rename_i hn
      injection h with h; subst h
      have hne : us.length ≠ 1 := by
        intro h1
        rw [q2, z2] at h1
        cases rs with
        | nil => simp at h1
        | cons x l =>
          have : l = [] := by simpa using h1
          subst this
          exact hn x.1 x.2 rfl
      refine ⟨us.toArray, by simp [hne], by simp; omega, by simp; omega, fun i d u sz e1 e2 e3 => ?_⟩
      rw [List.getElem?_map] at e1
      cases hx : rs[i]? with
      | none => rw [hx] at e1; cases e1
      | some x =>
        rw [hx] at e1
        injection e1 with e1; subst e1
        obtain ⟨sz', v, u', f1, f2, f3, k1, k2⟩ := hcomp _ hA i x hx
        rw [f1] at e3; injection e3 with e3; subst e3
        simp at e2
        rw [f3] at e2; injection e2 with e2; subst e2
        have : ow i = x.1.bind c.ι := by simp only [ow, hx]; rfl
        rw [this]; exact k1

theorem body_ok {Γ : Env M} (hM : M.Ok) (hΓ : ∀ f sp, Γ f = some sp → Sound P M f sp) (hP : P.follows .mixedOrders = true) {f : FuncId} {fn : Func} {code : Code} (hf : P.funcs[f]? = some fn) (hb : fn.body = some code)
    {szs : List Nat} {ds : List D} {us : List Value} {G : M.S} {γ : Nat → Option Addr} {O : Nat → Prop} {w : World} (hglob : M.rel G γ O w) (hO : ∀ b, O b → b < w.heap.size) (hreps : Reps w O 0 γ ds us) {r : D} {G' : M.S}
    (h : awp P Γ code (fun e s => (e = .normal ∨ e = .ret) ∧ s.G = G' ∧ Ends P fn.results.toList szs r s) (St.init G fn.ntmps ds)) :
    Calls P f us.toArray w fun e w' => ∃ v γ' O', e = .returned v ∧ (∀ n a, γ n = some a → γ' n = some a) ∧ M.rel G' γ' O' w' ∧ (∀ b, O' b → b < w'.heap.size ∧ (O b ∨ w.heap.size ≤ b)) ∧
      Kept w O w' ∧ ResOk w' (fun b => b < w.heap.size ∨ O' b) w.heap.size γ' szs r v := by
  refine calls_of_wp hf hb ?_
  let c0 : Ctx := { ι := fun _ => none, γ, O }
  have hown : ∀ b, own c0 (fun _ => (0, .dead)) b → O b := by
    rintro b (h | ⟨g, h, _⟩)
    · exact h
    · cases h
  have hrel : Rel M w.heap.size w O γ (St.init G fn.ntmps ds) { tmps := us.toArray ++ Array.replicate (fn.ntmps - us.toArray.size) undef, defers := [] } w := by
    refine ⟨c0, ⟨fun g => trivial, fun g g' b h => (by cases h), fun g b h => (by cases h), hglob, Nat.le_refl _, rfl, rfl, rfl, rfl, fun _ _ _ => rfl, fun b hb => ⟨hO b hb, .inl hb⟩⟩, ⟨?_, fun i v u hv hu => ?_⟩, rfl, fun _ _ h => h,
      fun b x T fz hb => ⟨x, fz, hb, rfl⟩⟩
    · simp [St.init, lentL_map, hreps.1]
    · simp only [St.init, Array.toList_append, Array.toList_replicate, List.size_toArray] at hv hu
      by_cases hi : i < us.length
      · rw [List.getElem?_append_left (by simpa using hi)] at hu
        rw [List.getElem?_append_left (by rw [lentL_map]; simpa [← hreps.1] using hi), lentL_map, List.getElem?_map, List.getElem?_map] at hv
        cases hd : ds[i]? with
        | none => rw [hd] at hv; cases hv
        | some d =>
          rw [hd] at hv
          injection hv with hv; subst hv
          exact .d _ _ (((hreps.2 i d u hd (by simpa using hu)).out hown (Nat.le_refl _)).lent _)
      · rw [List.getElem?_append_right (by rw [lentL_map]; simp [← hreps.1]; omega)] at hv
        have := List.mem_of_getElem? hv
        rw [List.mem_replicate] at this
        rw [this.2]
        exact .d _ _ (.undef _)
  refine awp_ok hM hΓ hP code _ _ _ w h hrel _ fun e s a w' he hr => ?_
  obtain ⟨he, hG, hends⟩ := he
  obtain ⟨s', hr', hG', ha⟩ : ∃ s', Rel M w.heap.size w O γ s' a w' ∧ s'.G = G' ∧ ares P fn.results.toList szs s' = some r := by
    rcases hends with h | ⟨s', hw, h⟩
    · exact ⟨s, hr, hG, h⟩
    · refine ⟨s', hw.rel hM hr, ?_, h⟩
      rw [← hG]
      clear h hr hG
      induction hw with
      | drop _ _ _ _ h => exact h
      | nil => rfl
      | trans _ _ _ _ _ ih1 ih2 => exact ih2.trans ih1
  obtain ⟨c, hc⟩ := hr'
  obtain ⟨v, k1, k2⟩ := ares_ok hM hc ha
  have hfin : a.defers = [] ∧ ∃ v, (results fn a.tmps).run P w' = .ok v w' ∧ (∃ v' γ' O', Ending.returned v = .returned v' ∧ (∀ n a, γ n = some a → γ' n = some a) ∧ M.rel G' γ' O' w' ∧
      (∀ b, O' b → b < w'.heap.size ∧ (O b ∨ w.heap.size ≤ b)) ∧ Kept w O w' ∧ ResOk w' (fun b => b < w.heap.size ∨ O' b) w.heap.size γ' szs r v') := by
    refine ⟨hc.defers, v, k1, v, c.γ, c.O, rfl, hc.hγ, by rw [← hG']; exact hc.mem.glob, hc.mem.osub, ⟨hc.mem.os, hc.mem.tape, hc.mem.output, hc.mem.size, hc.mem.keep, hc.cells⟩, k2⟩
  rcases he with rfl | rfl
  · exact hfin
  · exact hfin

/-- Functions without memory of their own. -/
abbrev PEnv := FuncId → Option (List Nat × (List D → Option D))

def M1 (γ0 : Nat → Option Addr) : GM := { S := Unit, rel := fun _ γ O _ => γ = γ0 ∧ ∀ b, ¬ O b, load := fun _ _ _ _ => none, store := fun _ _ _ _ => none }

theorem M1_ok (γ0 : Nat → Option Addr) : (M1 γ0).Ok where
  stable h _ _ := h
  load _ h := by cases h
  store _ h := by cases h

def PEnv.env (Γ : PEnv) (M : GM) : Env M := fun f => (Γ f).map fun p => .pure p.1 p.2

/-- A function that answers by F. -/
def SoundP (P : Program) (f : FuncId) (szs : List Nat) (F : List D → Option D) : Prop :=
  (∃ fn, P.funcs[f]? = some fn ∧ (fn.name == "runtime.NumGoroutine") = false ∧ fn.body.isNone = false) ∧
    ∀ ds r, F ds = some r → ∀ (w : World) γ us, Reps w (fun _ => False) 0 γ ds us →
      Calls P f us.toArray w fun e w' => ∃ v, e = .returned v ∧ Kept w (fun _ => False) w' ∧ ResOk w' (fun b => b < w.heap.size) w.heap.size γ szs r v

theorem SoundP.sound {f : FuncId} {szs : List Nat} {F : List D → Option D} (h : SoundP P f szs F) (M : GM) : Sound P M f (.pure szs F) := h

def PEnv.Ok (P : Program) (Γ : PEnv) : Prop := ∀ f szs F, Γ f = some (szs, F) → SoundP P f szs F

theorem PEnv.Ok.env {Γ : PEnv} (h : Γ.Ok P) (M : GM) : ∀ f sp, Γ.env M f = some sp → Sound P M f sp := by
  intro f sp hf
  unfold PEnv.env at hf
  cases hx : Γ f with
  | none => rw [hx] at hf; cases hf
  | some p =>
    rw [hx] at hf
    injection hf with hf; subst hf
    exact (h f p.1 p.2 hx).sound M

theorem soundP_of {Γ : PEnv} (hΓ : Γ.Ok P) (hP : P.follows .mixedOrders = true) {f : FuncId} {fn : Func} {code : Code} (hf : P.funcs[f]? = some fn) (hn : (fn.name == "runtime.NumGoroutine") = false) (hb : fn.body = some code)
    {szs : List Nat} {F : List D → Option D}
    (h : ∀ (γ0 : Nat → Option Addr) ds r, F ds = some r → awp P (Γ.env (M1 γ0)) code (fun e s => (e = .normal ∨ e = .ret) ∧ Ends P fn.results.toList szs r s) (St.init (M := M1 γ0) () fn.ntmps ds)) : SoundP P f szs F := by
  refine ⟨⟨fn, hf, hn, by rw [hb]; rfl⟩, fun ds r hF w γ us hus => ?_⟩
  have hwp := h γ ds r hF
  have := body_ok (M := M1 γ) (G := ()) (G' := ()) (O := fun _ => False) (γ := γ) (M1_ok γ) (hΓ.env _) hP hf hb (szs := szs) (r := r) (w := w) ⟨rfl, fun _ h => h⟩ (fun _ h => h.elim) hus (by
    refine cast ?_ hwp
    congr 1
    funext e s
    exact propext ⟨fun h => ⟨h.1, rfl, h.2⟩, fun h => ⟨h.1, h.2.2⟩⟩)
  refine this.mono fun e w' ⟨v, γ', O', he, hγ, hrel, hO, hk, hr⟩ => ⟨v, he, hk, ?_⟩
  obtain ⟨e1, e2⟩ := hrel
  subst e1
  have : (fun b => b < w.heap.size ∨ O' b) = fun b => b < w.heap.size := by
    funext b; apply propext
    exact ⟨fun h => h.elim id fun h => (e2 b h).elim, .inl⟩
  rw [this] at hr
  exact hr

end
end Wf
