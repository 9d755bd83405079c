/-
  Calls: what is lent; what a function promises.
-/
import Derived.Scope
import Derived.Test.YtgekoicndhcghaaFb
set_option linter.unusedVariables false
set_option linter.unusedSimpArgs false
set_option linter.unnecessarySimpa false
namespace Wf
open Go Go.RowKit

/-- The state of memory beyond the frame, behind a call. -/
structure Kept (w : World) (O : Nat → Prop) (w' : World) : Prop where
  os : w'.os = w.os
  tape : w'.tape = w.tape
  output : w'.output = w.output
  size : w.heap.size ≤ w'.heap.size
  block : ∀ b, b < w.heap.size → ¬ O b → w'.heap[b]? = w.heap[b]?
  cells : ∀ (b : Nat) (x : Array Value) (T : TypeId) (fz : Nat × Nat), w.heap[b]? = some (.cells x T fz) → ∃ (x' : Array Value) (fz' : Nat × Nat), w'.heap[b]? = some (.cells x' T fz') ∧ x'.size = x.size

def ArrOk (w : World) (A : Nat → Prop) (N : Nat) (γ : Nat → Nat → Option Nat) (β : Option Nat) (sz : Nat) (els : List D) : Prop :=
  match β with
  | none => els = []
  | some b => ∃ (x : Array Value) (T : TypeId) (fz : Nat × Nat), w.heap[b]? = some (.cells x T fz) ∧ Unfrozen w b x.size ∧ els.length * sz ≤ x.size ∧ RowAt w A N γ b sz els

def CompOk (w : World) (A : Nat → Prop) (N : Nat) (γ : Nat → Nat → Option Nat) (β : Option Nat) (sz : Nat) (d : D) (u : Value) : Prop :=
  match d with
  | .sl .own els => SlAt w β sz 0 els.length u ∧ ArrOk w A N γ β sz els
  | d => β = none ∧ Rep w A N γ d u

/-- A result, handed over: rows that are the caller's own from then on. -/
def ResOk (w : World) (A : Nat → Prop) (N : Nat) (γ : Nat → Nat → Option Nat) (szs : List Nat) (r : D) (v : Value) : Prop :=
  ∃ ow : Nat → Option Nat, (∀ i j b, ow i = some b → ow j = some b → i = j) ∧ (∀ i b, ow i = some b → b < w.heap.size ∧ ¬ A b) ∧
    match r with
    | .tup ds => ∃ vs : Array Value, v = .tuple vs ∧ vs.size = ds.length ∧ szs.length = ds.length ∧
        ∀ (i : Nat) (d : D) (u : Value) (sz : Nat), ds[i]? = some d → vs[i]? = some u → szs[i]? = some sz → CompOk w (fun b => A b ∨ ∃ i, ow i = some b) N γ (ow i) sz d u
    | d => ∃ sz, szs = [sz] ∧ CompOk w (fun b => A b ∨ ∃ i, ow i = some b) N γ (ow 0) sz d v

/-- Tables, as they are given to a function. -/
def tabsLoc : List (Nat × Bool) → List Tb → Loc
  | (k, w) :: ks, T :: Ts => (tabsLoc ks Ts).set (tb k) (0, .tbl w T)
  | _, _ => fun _ => (0, .dead)
/-- What they are behind it. -/
def newTabs : List (Nat × Bool) → List Tb → List Tb → List Tb
  | (_, true) :: ks, _ :: Ts, T' :: Ts' => T' :: newTabs ks Ts Ts'
  | (_, true) :: ks, T :: Ts, [] => T :: newTabs ks Ts []
  | (_, false) :: ks, T :: Ts, Ts' => T :: newTabs ks Ts Ts'
  | _, _, _ => []
def ctxOf (γ : Nat → Nat → Option Nat) (ρ : Nat → Nat → Nat → Option Nat) (O : Nat → Prop) : Ctx := { ι := fun _ => none, γ, ρ, O }

/-- Blocks of tables that a call may turn. -/
def Ows (c : Ctx) (L : Loc) (W : Nat → Prop) (b : Nat) : Prop := ∃ k i q, W k ∧ There L k i q ∧ c.tab k i q = some b

def pmAt (pms : List (PM × Nat)) (i : Nat) : PM × Nat := pms.getD i (.lent, 0)
/-- Blocks that are given for good. -/
def OwnG (pms : List (PM × Nat)) (gv : Nat → Option Nat) (b : Nat) : Prop := ∃ i, (pmAt pms i).1 = .own ∧ gv i = some b
def Gv (gv : Nat → Option Nat) (b : Nat) : Prop := ∃ i, gv i = some b
def mutsBefore (pms : List (PM × Nat)) (i : Nat) : Nat := ((pms.take i).filter fun p => decide (p.1 = .mut)).length

def ArgsOk (w : World) (A : Nat → Prop) (γ : Nat → Nat → Option Nat) (pms : List (PM × Nat)) (gv : Nat → Option Nat) (ds : List D) (us : List Value) : Prop :=
  us.length = ds.length ∧ ∀ (i : Nat) (d : D) (u : Value), ds[i]? = some d → us[i]? = some u →
    ((pmAt pms i).1 = .lent → gv i = none ∧ Rep w A 0 γ d u) ∧
    ((pmAt pms i).1 ≠ .lent → ∃ els, d = .sl .own els ∧ els.all D.flatEl = true ∧ SlAt w (gv i) (pmAt pms i).2 0 els.length u ∧ ArrOk w (fun _ => False) 0 γ (gv i) (pmAt pms i).2 els)

/-- What a function has done that turns tables. -/
structure Turned (w w' : World) (γ γ' : Nat → Nat → Option Nat) (ρ ρ' : Nat → Nat → Nat → Option Nat) (O O' : Nat → Prop) (pms : List (PM × Nat)) (gv : Nat → Option Nat) (ks : List (Nat × Bool)) (ds : List D) (Ts Ts' : List Tb)
    (outs : List (List D)) (szs : List Nat) (r : D) (v : Value) : Prop where
  more : ∀ k i b, γ k i = some b → γ' k i = some b
  same : ∀ k, k ∉ ksW ks → γ' k = γ k ∧ ρ' k = ρ k
  tab : TabRel (tabsLoc ks Ts') (ctxOf γ' ρ' O') (fun _ => True) w'
  osub : ∀ b, O' b → b < w'.heap.size ∧ (O b ∨ OwnG pms gv b ∨ w.heap.size ≤ b)
  kept : Kept w (fun b => O b ∨ Gv gv b) w'
  outs : ∀ i sz els els', pmAt pms i = (.mut, sz) → ds[i]? = some (.sl .own els) → outs[mutsBefore pms i]? = some els' → els'.length = els.length → els'.all D.flatEl = true ∧ ArrOk w' (fun _ => False) 0 γ' (gv i) sz els'
  res : ResOk w' (fun b => (b < w.heap.size ∧ ¬ OwnG pms gv b) ∨ O' b) w.heap.size γ' szs r v

/-- A function answers as its spec says. -/
def Sound (P : Program) (f : FuncId) : Spec → Prop
  | .pure szs F => (∃ fn, P.funcs[f]? = some fn ∧ (fn.name == "runtime.NumGoroutine") = false ∧ fn.body.isNone = false) ∧
      ∀ ds r, F ds = some r → ∀ (w : World) γ us, Reps w (fun _ => False) 0 γ ds us →
        Calls P f us.toArray w fun e w' => ∃ v, e = .returned v ∧ Kept w (fun _ => False) w' ∧ ResOk w' (fun b => b < w.heap.size) w.heap.size γ szs r v
  | .st pms szs ks F => (∃ fn, P.funcs[f]? = some fn ∧ (fn.name == "runtime.NumGoroutine") = false ∧ fn.body.isNone = false) ∧
      ∀ ds Ts a, F ds Ts = some a → Ts.length = ks.length → ∀ (w : World) γ ρ O gv us,
        TabRel (tabsLoc ks Ts) (ctxOf γ ρ O) (fun b => b < w.heap.size ∧ ¬ (O b ∨ Gv gv b)) w → (∀ b, O b → b < w.heap.size ∧ Ows (ctxOf γ ρ O) (tabsLoc ks Ts) (· ∈ ksW ks) b) → (∀ i b, gv i = some b → b < w.heap.size ∧ ¬ O b) → (∀ i j b, gv i = some b → gv j = some b → i = j) → (∀ i, ds.length ≤ i → gv i = none) →
        ArgsOk w (fun b => O b ∨ Gv gv b) γ pms gv ds us →
        Calls P f us.toArray w fun e w' => ∃ v γ' ρ' O', e = .returned v ∧ Turned w w' γ γ' ρ ρ' O O' pms gv ks ds Ts (newTabs ks Ts a.tbs) a.outs szs a.r v

section
variable {c : Ctx} {N : Nat} {w0 : World} {O0 : Nat → Prop} {L Lr : Loc} {w : World} {A : Nat → Prop} {nw : List Nat}

theorem Rep.out {A A' : Nat → Prop} {N N' : Nat} {γ} {d : D} {u : Value} (h : Rep w A N γ d u) (hA : ∀ b, A' b → A b) (hN : N' ≤ N) : Rep w A' N' γ d u :=
  h.mono (fun _ _ _ => rfl) (fun b _ h => hA b h) hN (Nat.le_refl _) (fun _ _ _ h => h)

theorem idsL_mem : ∀ {vs : List V} {v : V} {g : Nat}, v ∈ vs → g ∈ v.ids → g ∈ V.idsL vs
  | u :: vs, v, g, h, hg => by
    simp only [V.idsL, List.mem_append]
    rcases List.mem_cons.1 h with rfl | h
    · exact .inl hg
    · exact .inr (idsL_mem h hg)
theorem mem_deepL {L : Loc} {vs : List V} {g : Nat} : g ∈ deepL L vs ↔ ∃ k ∈ V.idsL vs, g = k ∨ ∃ a ds ks us, (L k).2 = .vbox a ds ks us ∧ g ∈ V.idsL us := by
  unfold deepL
  rw [List.mem_flatMap]
  constructor
  · rintro ⟨k, h1, h2⟩
    refine ⟨k, h1, ?_⟩
    rcases List.mem_cons.1 h2 with h2 | h2
    · exact .inl h2
    · split at h2
      · rename_i a ds ks us e; exact .inr ⟨a, ds, ks, us, e, h2⟩
      · cases h2
  · rintro ⟨k, h1, h2⟩
    refine ⟨k, h1, List.mem_cons.2 ?_⟩
    rcases h2 with h2 | ⟨a, ds, ks, us, e, h2⟩
    · exact .inl h2
    · exact .inr (by rw [e]; exact h2)
theorem deepL_sub {L : Loc} {us vs : List V} (h : ∀ g ∈ V.idsL us, g ∈ V.idsL vs) {g : Nat} (hg : g ∈ deepL L us) : g ∈ deepL L vs := by
  obtain ⟨k, h1, h2⟩ := mem_deepL.1 hg
  exact mem_deepL.2 ⟨k, h k h1, h2⟩
theorem deepL_ids {L : Loc} {vs : List V} {g : Nat} (h : g ∈ V.idsL vs) : g ∈ deepL L vs := mem_deepL.2 ⟨g, h, .inl rfl⟩

/-- Places that do not lie in A. -/
def Apart (c : Ctx) (L : Loc) (A : Nat → Prop) (S : List Nat) : Prop := ∀ g ∈ S, ∀ b, c.ι g = some b → (L g).2 ≠ .dead → ¬ A b
theorem Apart.sub {S S' : List Nat} (h : Apart c L A S) (hs : ∀ g ∈ S', g ∈ S) : Apart c L A S' := fun g hg => h g (hs g hg)

theorem lend_els (hm : Mem c N w0 O0 L w) (hs : Sees Lr L) (hA : ∀ b, A b → own c L b) {v : V} {l : List D} {u : Value} (he : elsOf Lr v = some l) (hv : Val c L w N v u) (hsrc : ∀ b, SrcOf c L v b → ¬ A b) : Rep w A 0 c.γ (.sl .lent l) u := by
  obtain ⟨a, cap, rfl, hc, h⟩ := els_ok hm hs he hv
  rcases h with rfl | ⟨b, o, sz, vs, rfl, hb, hO, h⟩
  · exact .slE _ _ _ (by simp) (by simp) (by simp)
  · by_cases h0 : l = []
    · subst h0; exact .slE _ _ _ (by simp) (by simp) (by simp)
    · exact .sl _ _ b o sz cap vs h0 (by simp) hc (by simp) (hsrc b hO) (by simp) hb (fun i d hd => ((h i d hd).1).out hA (Nat.zero_le _))
        (fun i hi => (h i _ (List.getElem?_eq_getElem hi)).2)

theorem lend1_ok (hm : Mem c N w0 O0 L w) (hs : Sees Lr L) (hA : ∀ b, A b → own c L b) (htb : ∀ k i q b, k ∉ nw → There L k i q → c.tab k i q = some b → ¬ A b)
    {v : V} {d : D} {u : Value} (hap : Apart c L A v.ids) (he : lend1 nw Lr v = some d) (hv : Val c L w N v u) : Rep w A 0 c.γ d u := by
  have hsrc : ∀ g n off len, (v = .ref g n off len ∨ v = .bref g n off len) → ∀ b, SrcOf c L v b → ¬ A b := by
    rintro g n off len hv' b (⟨⟨d, rfl⟩, _⟩ | ⟨g', h1, h2, h3⟩ | ⟨k, n', i, o, lo, len', rfl, _⟩)
    · rcases hv' with h | h <;> cases h
    · exact hap g' h1 b h2 h3
    · rcases hv' with h | h <;> cases h
  have hmap : ∀ b m ck (kk : MK) (es : List (Int × D)), ¬ A b → u = .map (some b) → w.heap[b]? = some (.map m ck) → m.size = es.length → (∀ (i : Nat) (e : MapEntry) (p : Int × D), m[i]? = some e → es[i]? = some p → KeyIs kk p.1 e.key ∧ Rep w (own c L) N c.γ p.2 e.val) →
      Rep w A 0 c.γ (.mp .lent kk es) u := by
    rintro b m ck kk es h0 rfl h2 h3 h4
    exact .mp _ _ _ b m ck h0 (by simp) (lt_of_heap h2) h2 h3 (fun i e p a b => (h4 i e p a b).1) (fun i e p a b => ((h4 i e p a b).2).out hA (Nat.zero_le _))
  cases v with
  | d x => simp [lend1] at he; subst he; exact hv.dat.out hA (Nat.zero_le _)
  | p k x =>
    simp [lend1] at he; subst he
    cases hv with
    | p _ _ _ hr => exact hr.out hA (Nat.zero_le _)
  | ref g n off len =>
    simp only [lend1] at he
    cases hl : elsOf Lr (.ref g n off len) with
    | none => rw [hl] at he; cases he
    | some l => rw [hl] at he; simp at he; subst he; exact lend_els hm hs hA hl hv (hsrc g n off len (.inl rfl))
  | bref g n off len =>
    simp only [lend1] at he
    cases hl : elsOf Lr (.bref g n off len) with
    | none => rw [hl] at he; cases he
    | some l => rw [hl] at he; simp at he; subst he; exact lend_els hm hs hA hl hv (hsrc g n off len (.inr rfl))
  | vref k n i o lo len =>
    simp only [lend1] at he
    split at he
    · cases he
    rename_i hk
    cases hl : elsOf Lr (.vref k n i o lo len) with
    | none => rw [hl] at he; cases he
    | some l =>
      rw [hl] at he; simp at he; subst he
      refine lend_els hm hs hA hl hv ?_
      rintro b (⟨⟨d, h⟩, _⟩ | ⟨g', h1, h2, h3⟩ | ⟨k', n', i', o', lo', len', e, h1, h2⟩)
      · cases h
      · simp [V.ids] at h1; subst h1; rw [hm.iotab] at h2; cases h2
      · cases e; exact htb k i (some o) b hk h1 h2
  | map g n =>
    simp only [lend1] at he
    cases hl : esOf Lr (.map g n) with
    | none => rw [hl] at he; cases he
    | some p =>
      obtain ⟨kk, es⟩ := p
      rw [hl] at he; simp at he; subst he
      obtain ⟨b, m, ck, h1, h2, h3, h4⟩ := es_ok hm hs hl hv
      have hl' := hs.es hl
      simp only [esOf] at hl'
      refine hmap b m ck kk es ?_ h1 h2 h3 h4
      cases hx : L.get g n <;> rw [hx] at hl' <;> simp at hl'
      obtain ⟨e1, e2⟩ := get_at hx (by simp)
      cases hv with
      | map _ _ _ k1 k2 =>
        obtain ⟨b', q1, q2⟩ := k2 (by rw [hx]; simp)
        rw [h1] at q2; cases q2
        exact hap g (by simp [V.ids]) b q1 (by rw [e2]; simp)
  | vmap k n i o =>
    simp only [lend1] at he
    split at he
    · cases he
    rename_i hk
    cases hl : esOf Lr (.vmap k n i o) with
    | none => rw [hl] at he; cases he
    | some p =>
      obtain ⟨kk, es⟩ := p
      rw [hl] at he; simp at he; subst he
      obtain ⟨b, m, ck, h1, h2, h3, h4⟩ := es_ok hm hs hl hv
      refine hmap b m ck kk es ?_ h1 h2 h3 h4
      have hl' := hs.es hl
      simp only [esOf] at hl'
      obtain ⟨wr, T, q1, q2, q3, q4⟩ := mapOf_spec hl'
      cases hv with
      | vmap _ _ _ _ _ k1 k2 =>
        obtain ⟨b', q5, q6⟩ := k2 _ hl'
        rw [h1] at q6; cases q6
        exact htb k i (some o) b hk ⟨wr, T, _, q3, q4, rfl⟩ q5
  | _ => cases he

theorem lend1s_ok (hm : Mem c N w0 O0 L w) (hs : Sees Lr L) (hA : ∀ b, A b → own c L b) (htb : ∀ k i q b, k ∉ nw → There L k i q → c.tab k i q = some b → ¬ A b) :
    ∀ {vs : List V} {ds : List D} {us : List Value}, Apart c L A (V.idsL vs) → lend1s nw Lr vs = some ds → Vals c L w N vs us → Reps w A 0 c.γ ds us
  | [], ds, us, _, he, hv => by
    simp [lend1s] at he; subst he
    have : us = [] := List.eq_nil_of_length_eq_zero hv.1
    subst this; exact Reps.nil
  | v :: vs, ds, us, hap, he, hv => by
    obtain ⟨u, us', rfl, h1, h2⟩ := hv.cons_inv
    simp only [lend1s] at he
    cases hx : lend1 nw Lr v with
    | none => rw [hx] at he; cases he
    | some x =>
      rw [hx] at he
      simp only [Option.bind_some] at he
      cases hy : lend1s nw Lr vs with
      | none => rw [hy] at he; cases he
      | some xs =>
        rw [hy] at he
        injection he with he; subst he
        exact Reps.cons (lend1_ok hm hs hA htb (hap.sub fun g hg => by simp [V.idsL, hg]) hx h1) (lend1s_ok hm hs hA htb (hap.sub fun g hg => by simp [V.idsL, hg]) hy h2)

theorem lend2_ok (hm : Mem c N w0 O0 L w) (hs : Sees Lr L) (hA : ∀ b, A b → own c L b) (htb : ∀ k i q b, k ∉ nw → There L k i q → c.tab k i q = some b → ¬ A b)
    {v : V} {d : D} {u : Value} (hap : Apart c L A (deepL Lr [v])) (he : lend2 nw Lr v = some d) (hv : Val c L w N v u) : Rep w A 0 c.γ d u := by
  have hids : ∀ g ∈ v.ids, g ∈ deepL Lr [v] := fun g hg => deepL_ids (idsL_mem (by simp) hg)
  by_cases hp : ∃ g n off, v = .ptr g n off
  rotate_left
  · have : lend2 nw Lr v = lend1 nw Lr v := by
      cases v <;> first | rfl | exact absurd ⟨_, _, _, rfl⟩ hp
    rw [this] at he
    exact lend1_ok hm hs hA htb (hap.sub hids) he hv
  · obtain ⟨g, n, off, rfl⟩ := hp
    simp only [lend2] at he
    cases hv with
    | ptr _ _ _ _ k1 k2 =>
    -- a box's block
    have blk : ∀ y, Lr.get g n = y → y ≠ .dead → ∃ b, c.ι g = some b ∧ u = .pointer (some ⟨b, off, none⟩) ∧ L.get g n = y ∧ ¬ A b ∧ b < w.heap.size := by
      intro y hy hd
      have hL := hs g n (by rw [hy]; exact hd)
      rw [hy] at hL
      obtain ⟨b, e1, rfl⟩ := k2 (by rw [hL]; exact hd)
      obtain ⟨_, e2⟩ := get_at hL hd
      exact ⟨b, e1, rfl, hL, hap g (hids g (by simp [V.ids])) b e1 (by rw [e2]; exact hd), (hm.mine g b e1 (by rw [e2]; exact hd)).2.1⟩
    have whole : ∀ (b : Nat) (x : Array Value) (T : TypeId) (fz : Nat × Nat) (ds : List D), ¬ A b → w.heap[b]? = some (.cells x T fz) → x.size = ds.length →
        (∀ (i : Nat) (d : D) (u : Value), ds[i]? = some d → x[i]? = some u → Rep w (own c L) N c.γ d u ∧ u.oneCell' = true) → Rep w A 0 c.γ (.at_ (.agg ds)) (.pointer (some ⟨b, 0, none⟩)) := by
      intro b x T fz ds h0 h2 h4 h5
      refine .at_ _ (.agg x) b 0 h0 (lt_of_heap h2) (fun j u hu => ?_) (.agg _ _ h4 (fun i d v hd hv => ((h5 i d v hd hv).1).out hA (Nat.zero_le _)) (fun i v hv => ?_))
      · rw [Nat.zero_add]; exact cells_in h2 (by simpa [Value.cells] using hu)
      · have hi : i < ds.length := by have := lt_of_cell hv; omega
        exact (h5 i _ v (List.getElem?_eq_getElem hi) hv).2
    have single : ∀ (b : Nat) (x : Array Value) (T : TypeId) (fz : Nat × Nat) (y : D), ¬ A b → w.heap[b]? = some (.cells x T fz) → x.size = 1 →
        (∀ (u : Value), x[0]? = some u → Rep w A 0 c.γ y u ∧ u.oneCell' = true) → Rep w A 0 c.γ (.at_ y) (.pointer (some ⟨b, 0, none⟩)) := by
      intro b x T fz y h0 h2 h4 h5
      have hx0 : x[0]? = some (x[0]'(by omega)) := by simp
      obtain ⟨r1, r2⟩ := h5 _ hx0
      refine .at_ _ _ b 0 h0 (lt_of_heap h2) (fun j u hu => ?_) r1
      rw [cells_of_one r2] at hu
      cases j with
      | zero => simp at hu; subst hu; exact cells_in h2 (by simpa using hx0)
      | succ j => simp at hu
    split at he
    · rename_i ds hy
      injection he with he; subst he
      obtain ⟨b, e1, rfl, hL, h0, _⟩ := blk _ hy (by simp)
      obtain ⟨b', x, T, fz, h1, h2, h3, h4, h5⟩ := hm.get hL (by simp)
      rw [e1] at h1; cases h1
      exact whole b x T fz ds h0 h2 h4 h5
    · rename_i ds hy
      injection he with he; subst he
      obtain ⟨b, e1, rfl, hL, h0, _⟩ := blk _ hy (by simp)
      obtain ⟨b', x, T, fz, h1, h2, h4, h5⟩ := hm.get hL (by simp)
      rw [e1] at h1; cases h1
      exact whole b x T fz ds h0 h2 h4 h5
    · rename_i y hy
      injection he with he; subst he
      obtain ⟨b, e1, rfl, hL, h0, _⟩ := blk _ hy (by simp)
      obtain ⟨b', x, T, fz, h1, h2, h3, h4, h5⟩ := hm.get hL (by simp)
      rw [e1] at h1; cases h1
      exact single b x T fz y h0 h2 (by simpa using h4) fun u hu => ⟨((h5 0 y u (by simp) hu).1).out hA (Nat.zero_le _), (h5 0 y u (by simp) hu).2⟩
    · rename_i y hy
      injection he with he; subst he
      obtain ⟨b, e1, rfl, hL, h0, _⟩ := blk _ hy (by simp)
      obtain ⟨b', x, T, fz, h1, h2, h4, h5⟩ := hm.get hL (by simp)
      rw [e1] at h1; cases h1
      exact single b x T fz y h0 h2 (by simpa using h4) fun u hu => ⟨((h5 0 y u (by simp) hu).1).out hA (Nat.zero_le _), (h5 0 y u (by simp) hu).2⟩
    · rename_i d0 q hy
      cases hl : lend1 nw Lr q with
      | none => rw [hl] at he; cases he
      | some d' =>
        rw [hl] at he
        injection he with he; subst he
        obtain ⟨b, e1, rfl, hL, h0, _⟩ := blk _ hy (by simp)
        obtain ⟨b', x, T, fz, h1, h2, h3, h4, h5⟩ := hm.get hL (by simp)
        rw [e1] at h1; cases h1
        obtain ⟨_, e2⟩ := get_at (L := Lr) hy (by simp)
        refine single b x T fz d' h0 h2 (by simpa using h4) fun u hu => ⟨lend1_ok hm hs hA htb (hap.sub fun g' hg' => mem_deepL.2 ⟨g, by simp [V.idsL, V.ids], .inr ⟨_, _, _, _, e2, by simp [V.idsL, hg']⟩⟩) hl (h5 0 q u (by simp [ovs]) hu).1, (h5 0 q u (by simp [ovs]) hu).2⟩
    · cases he

theorem mapM_get {α β : Type} {f : α → Option β} : ∀ {l : List α} {r : List β}, l.mapM f = some r → r.length = l.length ∧ ∀ (i : Nat) (a : α) (b : β), l[i]? = some a → r[i]? = some b → f a = some b
  | [], r, h => by simp at h; subst h; simp
  | a :: l, r, h => by
    simp only [List.mapM_cons] at h
    cases h1 : f a with
    | none => rw [h1] at h; cases h
    | some b =>
      rw [h1] at h
      cases h2 : l.mapM f with
      | none => rw [h2] at h; cases h
      | some r' =>
        rw [h2] at h
        injection h with h; subst h
        obtain ⟨p1, p2⟩ := mapM_get h2
        refine ⟨by simp [p1], fun i a' b' ha hb => ?_⟩
        cases i with
        | zero => simp at ha hb; subst ha; subst hb; exact h1
        | succ i => exact p2 i a' b' (by simpa using ha) (by simpa using hb)

theorem lend_ok (hm : Mem c N w0 O0 L w) (hs : Sees Lr L) (hA : ∀ b, A b → own c L b) (htb : ∀ k i q b, k ∉ nw → There L k i q → c.tab k i q = some b → ¬ A b)
    {v : V} {d : D} {u : Value} (hap : Apart c L A (deepL Lr [v])) (he : lend nw Lr v = some d) (hv : Val c L w N v u) : Rep w A 0 c.γ d u := by
  have hfall : lend2 nw Lr v = some d → _ := fun he => lend2_ok hm hs hA htb hap he hv
  cases v with
  | clo f a b =>
    simp only [lend] at he
    cases h1 : a.mapM (lend2 nw Lr) with
    | none => rw [h1] at he; cases he
    | some a' =>
      rw [h1] at he
      simp only [Option.bind_some] at he
      cases h2 : b.mapM (lend2 nw Lr) with
      | none => rw [h2] at he; cases he
      | some b' =>
        rw [h2] at he
        injection he with he; subst he
        obtain ⟨p1, p2⟩ := mapM_get h1
        obtain ⟨q1, q2⟩ := mapM_get h2
        have sub : ∀ x, x ∈ a ∨ x ∈ b → Apart c L A (deepL Lr [x]) := fun x hx => hap.sub fun g hg => deepL_sub (fun g' hg' => by
          simp only [V.idsL, List.append_nil, V.ids, List.mem_append] at hg' ⊢
          rcases hx with hx | hx
          · exact .inl (idsL_mem hx hg')
          · exact .inr (idsL_mem hx hg')) hg
        cases hv with
        | clo _ _ _ va vb k1 k2 k3 k4 =>
          refine .fn _ _ _ _ _ (by omega) (by omega) (fun i d v hd hv => ?_) (fun i d v hd hv => ?_)
          · have hi : i < a.length := by have := lt_of_cell hv; omega
            exact lend2_ok hm hs hA htb (sub _ (.inl (List.getElem_mem hi))) (p2 i _ _ (List.getElem?_eq_getElem hi) hd) (k3 i _ _ (List.getElem?_eq_getElem hi) hv)
          · have hi : i < b.length := by have := lt_of_cell hv; omega
            exact lend2_ok hm hs hA htb (sub _ (.inr (List.getElem_mem hi))) (q2 i _ _ (List.getElem?_eq_getElem hi) hd) (k4 i _ _ (List.getElem?_eq_getElem hi) hv)
  | agg ds ks vs =>
    simp only [lend] at he
    split at he
    rotate_left
    · cases he
    rename_i hok
    cases h1 : lend1s nw Lr vs with
    | none => rw [h1] at he; cases he
    | some xs =>
      rw [h1] at he
      injection he with he; subst he
      cases hv with
      | agg _ _ _ us a1 a2 a3 =>
        have hr := lend1s_ok hm hs hA htb (hap.sub fun g hg => deepL_ids (by simpa [V.idsL, V.ids] using hg)) h1 (agg_vals hok a1 a2)
        obtain ⟨w1, w2, w3⟩ := okOv_spec hok
        have hlen : xs.length = vs.length := by have := hr.1; simp at this; omega
        exact agg_rep hok hlen a1 a3 (fun i d u hd hu => (a2 i (.d d) u hd hu).dat.out hA (Nat.zero_le _)) hr
  | _ => exact hfall he

end
end Wf

/-
  Calls: what becomes of the memory.
-/
namespace Wf
open Go Go.RowKit

section
variable {c : Ctx} {N : Nat} {w0 : World} {O0 : Nat → Prop} {L Lr : Loc} {w : World}

/-- The caller's places and tables behind a call. -/
def afterCtx (c : Ctx) (γ' : Nat → Nat → Option Nat) (ρ' : Nat → Nat → Nat → Option Nat) (O' Ow : Nat → Prop) (ad : Nat → Option (Nat × List D × Option Nat)) : Ctx :=
  { ι := fun g => match ad g with | some (_, _, β) => β | none => c.ι g, γ := γ', ρ := ρ', O := fun b => (c.O b ∧ ¬ Ow b) ∨ O' b }

theorem afterCtx_ad {γ' ρ' O' Ow} {ad : Nat → Option (Nat × List D × Option Nat)} {g : Nat} {p : Nat × List D × Option Nat} (h : ad g = some p) : (afterCtx c γ' ρ' O' Ow ad).ι g = p.2.2 := by
  show (match ad g with | some (_, _, β) => β | none => c.ι g) = _
  rw [h]
theorem afterCtx_no {γ' ρ' O' Ow} {ad : Nat → Option (Nat × List D × Option Nat)} {g : Nat} (h : ad g = none) : (afterCtx c γ' ρ' O' Ow ad).ι g = c.ι g := by
  show (match ad g with | some (_, _, β) => β | none => c.ι g) = _
  rw [h]

theorem ArrOk.flat {w' : World} {A B : Nat → Prop} {N N' : Nat} {γ β sz els} (h : ArrOk w' B N' γ β sz els) (hf : els.all D.flatEl = true) : ArrOk w' A N γ β sz els := by
  cases β with
  | none => exact h
  | some b =>
    obtain ⟨x, T, fz, r1, r2, r3, vs, r4⟩ := h
    refine ⟨x, T, fz, r1, r2, r3, vs, fun i d hd => ⟨((r4 i d hd).1).flEl ?_ fun _ _ _ h => h, (r4 i d hd).2⟩⟩
    rw [List.all_eq_true] at hf
    exact hf d (List.mem_of_getElem? hd)

theorem call_core (hm : Mem c N w0 O0 L w) {w' : World} {γ' : Nat → Nat → Option Nat} {ρ' : Nat → Nat → Nat → Option Nat} {O' Ow Gb Ob : Nat → Prop} {ad : Nat → Option (Nat × List D × Option Nat)} {L' : Loc}
    (hγ : ∀ k i b, c.γ k i = some b → γ' k i = some b) (hρ : ∀ k i o, (L' (tb k)).1 = (L (tb k)).1 → ρ' k i o = c.ρ k i o) (hst : ∀ k, (∀ T, tabOf L k ≠ some (true, T)) → γ' k = c.γ k ∧ ρ' k = c.ρ k)
    (hOw : ∀ b, Ow b → c.O b) (hG : ∀ b, Gb b → ∃ g, c.ι g = some b ∧ g < 90000 ∧ ∃ sz els, (L g).2 = .arr sz els true) (hOb : ∀ b, Ob b → Gb b)
    (hObd : ∀ b g, Ob b → c.ι g = some b → (L g).2 ≠ .dead → ad g = none → (L' g).2 = .dead)
    (hO : ∀ b, O' b → b < w'.heap.size ∧ (Ow b ∨ Ob b ∨ w.heap.size ≤ b)) (hk : Kept w (fun b => Ow b ∨ Gb b) w')
    (hL' : ∀ g, (∃ p, ad g = some p ∧ L' g = (L.new g, .arr p.1 p.2.1 true)) ∨ (ad g = none ∧ ((L' g = L g ∧ ∀ b, c.ι g = some b → (L g).2 ≠ .dead → ¬ Gb b) ∨ L' g = ((L g).1, .dead) ∨
      (∃ sz els els', (L g).2 = .arr sz els true ∧ L' g = ((L g).1, .arr sz els' true) ∧ els'.length = els.length ∧ els'.all D.flatEl = true ∧ ArrOk w' (fun _ => False) 0 γ' (c.ι g) sz els') ∨
      ∃ k wr T T', g = tb k ∧ (L g).2 = .tbl wr T ∧ L' g = (L.new g, .tbl wr T'))))
    (hblk : ∀ g sz els b, ad g = some (sz, els, some b) → (w.heap.size ≤ b ∨ Ob b) ∧ b < w'.heap.size ∧ ¬ O' b)
    (hinj : ∀ g g' sz els sz' els' b, ad g = some (sz, els, some b) → ad g' = some (sz', els', some b) → g = g')
    (hrow : ∀ g sz els β, ad g = some (sz, els, β) → ArrOk w' (fun b => ((b < w.heap.size ∧ ¬ Ob b) ∨ O' b) ∨ ∃ g sz els, ad g = some (sz, els, some b)) N γ' β sz els) (had : ∀ k, ad (tb k) = none)
    (htab : TabRel L' (afterCtx c γ' ρ' O' Ow ad) (fun b => b < N ∧ ¬ O0 b) w') :
    Mem (afterCtx c γ' ρ' O' Ow ad) N w0 O0 L' w' ∧ Grow c L w (afterCtx c γ' ρ' O' Ow ad) L' w' ∧
      ∀ b, own (afterCtx c γ' ρ' O' Ow ad) L' b → ((b < w.heap.size ∧ ¬ Ob b) ∨ O' b) ∨ ∃ g sz els, ad g = some (sz, els, some b) := by
  generalize hc' : afterCtx c γ' ρ' O' Ow ad = c' at htab ⊢
  have hιa : ∀ g p, ad g = some p → c'.ι g = p.2.2 := fun g p h => by rw [← hc']; exact afterCtx_ad h
  have hιn : ∀ g, ad g = none → c'.ι g = c.ι g := fun g h => by rw [← hc']; exact afterCtx_no h
  have hcO : ∀ b, c'.O b ↔ (c.O b ∧ ¬ Ow b) ∨ O' b := fun b => by rw [← hc']; exact Iff.rfl
  have hcγ : c'.γ = γ' := by rw [← hc']; rfl
  have hcρ : c'.ρ = ρ' := by rw [← hc']; rfl
  -- what is given is not the tables'
  have hGO : ∀ b, Gb b → ¬ c.O b ∧ N ≤ b ∧ b < w.heap.size ∧ own c L b := by
    intro b hb
    obtain ⟨g, g1, g2, sz, els, g3⟩ := hG b hb
    have hd : (L g).2 ≠ .dead := by rw [g3]; simp
    obtain ⟨a1, a2, a3⟩ := hm.mine g b g1 hd
    exact ⟨a3, hm.mineN g b g1 hd (by rw [g3]; simp) g2, a2, .inr ⟨g, g1, by rw [g3]; rfl⟩⟩
  -- a place that is there still was there
  have hwas : ∀ g b, ad g = none → c.ι g = some b → (L' g).2 ≠ .dead → (L g).2 ≠ .dead ∧ ((L' g).2.live = true → (L g).2.live = true) ∧ ((∀ sz els, (L' g).2 ≠ .trow sz els) → ∀ sz els, (L g).2 ≠ .trow sz els) := by
    intro g b ha hb hd
    rcases hL' g with ⟨p, h, _⟩ | ⟨_, h | h | ⟨sz, els, els', h1, h2, _⟩ | ⟨k, wr, T, T', rfl, h1, h2⟩⟩
    · rw [h] at ha; cases ha
    · rw [h.1] at hd ⊢; exact ⟨hd, fun h => h, fun h => h⟩
    · rw [h] at hd; exact absurd rfl hd
    · rw [h1]; exact ⟨by simp, fun _ => rfl, fun _ => by simp⟩
    · rw [hm.iotab] at hb; cases hb
  have hnoOb : ∀ g b, ad g = none → (L' g).2 ≠ .dead → (L g).2 ≠ .dead → c.ι g = some b → ¬ Ob b := fun g b ha hd hd0 hb ho => hd (hObd b g ho hb hd0 ha)
  have hout : ∀ b, own c' L' b → ((b < w.heap.size ∧ ¬ Ob b) ∨ O' b) ∨ ∃ g sz els, ad g = some (sz, els, some b) := by
    rintro b (h | ⟨g, h1, h2⟩)
    · rcases (hcO b).1 h with ⟨h, _⟩ | h
      · exact .inl (.inl ⟨(hm.osub b h).1, fun ho => (hGO b (hOb b ho)).1 h⟩)
      · exact .inl (.inr h)
    · cases ha : ad g with
      | none =>
        rw [hιn g ha] at h1
        have hd : (L' g).2 ≠ .dead := by intro e; rw [e] at h2; cases h2
        obtain ⟨k1, k2, _⟩ := hwas g b ha h1 hd
        exact .inl (.inl ⟨(hm.mine g b h1 k1).2.1, hnoOb g b ha hd k1 h1⟩)
      | some p =>
        obtain ⟨sz, els, β⟩ := p
        rw [hιa g _ ha] at h1
        simp only at h1
        subst h1
        exact .inr ⟨g, sz, els, ha⟩
  have hold : ∀ b, b < w.heap.size → ¬ Ow b → ¬ Gb b → w'.heap[b]? = w.heap[b]? := fun b h1 h2 h3 => hk.block b h1 fun h => by
    rcases h with h | h
    · exact h2 h
    · exact h3 h
  have hg : Grow c L w c' L' w' := by
    refine ⟨hk.size, fun b hb hlt => hold b hlt (fun h => hb (.inl (hOw b h))) fun h => hb (hGO b h).2.2.2, ?_, by rw [hcγ]; exact hγ, fun k i o h1 _ => by rw [hcρ]; exact hρ k i o h1, fun k h => ⟨?_, by rw [hcγ]; exact (hst k h).1, by rw [hcρ]; exact (hst k h).2⟩, fun b x T fz hb _ => hk.cells b x T fz hb, ?_, ?_⟩
    · rintro b hlt (h | ⟨g, h1, h2⟩)
      · rcases (hcO b).1 h with ⟨h, _⟩ | h
        · exact .inl h
        · rcases (hO b h).2 with h' | h' | h'
          · exact .inl (hOw b h')
          · exact (hGO b (hOb b h')).2.2.2
          · omega
      · cases ha : ad g with
        | none =>
          rw [hιn g ha] at h1
          have hd : (L' g).2 ≠ .dead := by intro e; rw [e] at h2; cases h2
          obtain ⟨k1, k2, _⟩ := hwas g b ha h1 hd
          exact .inr ⟨g, h1, k2 h2⟩
        | some p =>
          obtain ⟨sz, els, β⟩ := p
          rw [hιa g _ ha] at h1
          simp only at h1
          subst h1
          rcases (hblk g sz els b ha).1 with h' | h'
          · omega
          · exact (hGO b (hOb b h')).2.2.2
    · intro T e
      rw [tab_get] at e
      rcases hL' (tb k) with ⟨p, _, h1⟩ | ⟨_, h1 | h1 | ⟨sz, els, els', _, h1, _⟩ | ⟨k', wr, T0, T', _, h0, h1⟩⟩
      · rw [h1] at e; cases e
      · rw [h1.1] at e; exact h T (tab_get.2 e)
      · rw [h1] at e; cases e
      · rw [h1] at e; cases e
      · rw [h1] at e
        injection e with e1 e2
        subst e1
        exact h T0 (tab_get.2 h0)
    · intro g
      rcases hL' g with ⟨p, _, h⟩ | ⟨_, h | h | ⟨sz, els, els', h1, h, _⟩ | ⟨k, wr, T, T', rfl, h1, h⟩⟩
      · rw [h]; simp [Loc.new]
      · rw [h.1]; exact Nat.le_refl _
      · rw [h]; exact Nat.le_refl _
      · rw [h]; exact Nat.le_refl _
      · rw [h]; simp [Loc.new]
    · intro g e
      rcases hL' g with ⟨p, _, h⟩ | ⟨ha, h | h | ⟨sz, els, els', h1, h, h3, _⟩ | ⟨k, wr, T, T', rfl, h1, h⟩⟩
      · rw [h] at e; simp [Loc.new] at e
      · rw [h.1]; exact .inr ⟨hιn g ha, Compat.refl _⟩
      · rw [h]; exact .inl rfl
      · rw [h, h1]; exact .inr ⟨hιn g ha, rfl, h3⟩
      · rw [h] at e; simp [Loc.new] at e
  refine ⟨⟨?_, ?_, ?_, ?_, htab, ?_, ?_, Nat.le_trans hm.size hk.size, hm.size0, by rw [hk.os]; exact hm.os, by rw [hk.tape]; exact hm.tape, by rw [hk.output]; exact hm.output, ?_, ?_⟩, hg, hout⟩
  · intro g
    rcases hL' g with ⟨p, ha, h⟩ | ⟨ha, h | h | ⟨sz, els, els', h1, h, h3, h4, h5⟩ | ⟨k, wr, T, T', rfl, h1, h⟩⟩
    · obtain ⟨sz, els, β⟩ := p
      rw [h, hιa g _ ha]
      have hr := hrow g sz els β ha
      show ObjOk c' L' w' N β (.arr sz els true)
      cases β with
      | none => exact hr
      | some b =>
        obtain ⟨x, T, fz, r1, r2, r3, vs, r4⟩ := hr
        refine ⟨x, T, fz, r1, r2, r3, vs, fun i d hd => ⟨?_, (r4 i d hd).2.1, (r4 i d hd).2.2⟩⟩
        rw [hcγ]; exact ((r4 i d hd).1).out hout (Nat.le_refl _)
    · rw [h.1, hιn g ha]
      refine (hm.obj g).grow hg fun b hb hd => ?_
      obtain ⟨_, a2, a3⟩ := hm.mine g b hb hd
      exact hold b a2 (fun h => a3 (hOw b h)) (h.2 b hb hd)
    · rw [h]; trivial
    · rw [h, hιn g ha]
      have hr := h5.flat (A := own c' L') (N := N) h4
      rw [← hcγ] at hr
      generalize c.ι g = β at hr ⊢
      cases β with
      | none => exact hr
      | some b => exact hr
    · rw [h]; trivial
  · intro g g' b h1 h2 h3 h4
    cases ha : ad g with
    | none =>
      rw [hιn g ha] at h1
      have k1 := hwas g b ha h1 h3
      cases ha' : ad g' with
      | none =>
        rw [hιn g' ha'] at h2
        exact hm.inj g g' b h1 h2 k1.1 (hwas g' b ha' h2 h4).1
      | some p =>
        obtain ⟨sz, els, β⟩ := p
        rw [hιa g' _ ha'] at h2
        simp only at h2; subst h2
        rcases (hblk g' sz els b ha').1 with h' | h'
        · have := (hm.mine g b h1 k1.1).2.1; omega
        · exact absurd h' (hnoOb g b ha h3 k1.1 h1)
    | some p =>
      obtain ⟨sz, els, β⟩ := p
      rw [hιa g _ ha] at h1
      simp only at h1; subst h1
      cases ha' : ad g' with
      | none =>
        rw [hιn g' ha'] at h2
        have k1 := hwas g' b ha' h2 h4
        rcases (hblk g sz els b ha).1 with h' | h'
        · have := (hm.mine g' b h2 k1.1).2.1; omega
        · exact absurd h' (hnoOb g' b ha' h4 k1.1 h2)
      | some p' =>
        obtain ⟨sz', els', β'⟩ := p'
        rw [hιa g' _ ha'] at h2
        simp only at h2; subst h2
        exact hinj g g' _ _ _ _ b ha ha'
  · intro g b h1 h2
    cases ha : ad g with
    | none =>
      rw [hιn g ha] at h1
      have k1 := hwas g b ha h1 h2
      obtain ⟨a1, a2, a3⟩ := hm.mine g b h1 k1.1
      refine ⟨a1, Nat.lt_of_lt_of_le a2 hk.size, fun h => ?_⟩
      rcases (hcO b).1 h with ⟨h, _⟩ | h
      · exact a3 h
      · rcases (hO b h).2 with h' | h' | h'
        · exact a3 (hOw b h')
        · exact hnoOb g b ha h2 k1.1 h1 h'
        · omega
    | some p =>
      obtain ⟨sz, els, β⟩ := p
      rw [hιa g _ ha] at h1
      simp only at h1; subst h1
      obtain ⟨a1, a2, a3⟩ := hblk g sz els b ha
      refine ⟨.inl ?_, a2, fun h => ?_⟩
      · rcases a1 with h | h
        · exact Nat.le_trans hm.size h
        · exact (hGO b (hOb b h)).2.1
      · rcases (hcO b).1 h with ⟨h, _⟩ | h
        · rcases a1 with h' | h'
          · have := (hm.osub b h).1; omega
          · exact (hGO b (hOb b h')).1 h
        · exact a3 h
  · intro g b h1 h2 h3 h4
    cases ha : ad g with
    | none =>
      rw [hιn g ha] at h1
      have k1 := hwas g b ha h1 h2
      exact hm.mineN g b h1 k1.1 (k1.2.2 h3) h4
    | some p =>
      obtain ⟨sz, els, β⟩ := p
      rw [hιa g _ ha] at h1
      simp only at h1; subst h1
      rcases (hblk g sz els b ha).1 with h | h
      · exact Nat.le_trans hm.size h
      · exact (hGO b (hOb b h)).2.1
  · intro k; rw [hιn _ (had k)]; exact hm.iotab k
  · intro k
    rcases hL' (tb k) with ⟨p, ha, h⟩ | ⟨ha, h | h | ⟨sz, els, els', h1, h, h3, h4, h5⟩ | ⟨k', wr, T, T', _, h1, h⟩⟩
    · rw [had k] at ha; cases ha
    · rw [h.1]; exact hm.only k
    · rw [h]; exact .inl rfl
    · rcases hm.only k with e | ⟨_, _, e⟩ <;> rw [h1] at e <;> cases e
    · rw [h]; exact .inr ⟨_, _, rfl⟩
  · intro b hb hO0
    rw [hold b (Nat.lt_of_lt_of_le hb hm.size) (fun h => ?_) fun h => ?_]
    · exact hm.keep b hb hO0
    · rcases (hm.osub b (hOw b h)).2 with h' | h'
      · exact hO0 h'
      · omega
    · have := (hGO b h).2.1; omega
  · intro b hb
    rcases (hcO b).1 hb with ⟨h, _⟩ | h
    · obtain ⟨a1, a2⟩ := hm.osub b h
      exact ⟨Nat.lt_of_lt_of_le a1 hk.size, a2⟩
    · obtain ⟨a1, a2⟩ := hO b h
      refine ⟨a1, ?_⟩
      rcases a2 with h' | h' | h'
      · exact (hm.osub b (hOw b h')).2
      · exact .inr (hGO b (hOb b h')).2.1
      · exact .inr (Nat.le_trans hm.size h')

end
end Wf

/-
  Calls: tables, as a function finds them, and as it leaves them.
-/
namespace Wf
open Go Go.RowKit

theorem There.of {L L' : Loc} {k i : Nat} {q : Option Nat} (h : There L k i q) (hT : ∀ wr T, tabOf L k = some (wr, T) → ∃ wr', tabOf L' k = some (wr', T)) : There L' k i q := by
  cases q with
  | none =>
    obtain ⟨wr, T, h1, h2⟩ := h
    obtain ⟨wr', h3⟩ := hT wr T h1
    exact ⟨wr', T, h3, h2⟩
  | some o =>
    obtain ⟨wr, T, x, h1, h2, h3⟩ := h
    obtain ⟨wr', h4⟩ := hT wr T h1
    exact ⟨wr', T, x, h4, h2, h3⟩

section
variable {c : Ctx} {N : Nat} {w0 : World} {O0 : Nat → Prop} {L Lr : Loc} {w : World}

theorem There.tab {L : Loc} {k i : Nat} {q : Option Nat} (h : There L k i q) : ∃ wr T, tabOf L k = some (wr, T) := by
  cases q with
  | none => obtain ⟨wr, T, h, _⟩ := h; exact ⟨wr, T, h⟩
  | some o => obtain ⟨wr, T, _, h, _⟩ := h; exact ⟨wr, T, h⟩

theorem Ows.sub (hm : Mem c N w0 O0 L w) {W : Nat → Prop} (hW : ∀ k, W k → ∃ T, tabOf L k = some (true, T)) {b : Nat} (h : Ows c L W b) : c.O b := by
  obtain ⟨k, i, q, h1, h2, h3⟩ := h
  obtain ⟨T, h4⟩ := hW k h1
  exact hm.tab.wr k T i q b h4 h2 h3

/-- A table's block, and a call that leaves the table alone. -/
theorem Ows.not (hm : Mem c N w0 O0 L w) {W : Nat → Prop} {k i b : Nat} {q : Option Nat} (hk : ¬ W k) (h1 : There L k i q) (h2 : c.tab k i q = some b) : ¬ Ows c L W b := by
  rintro ⟨k', i', q', p1, p2, p3⟩
  obtain ⟨rfl, _, _⟩ := hm.tab.inj k i q k' i' q' b h1 p2 h2 p3
  exact hk p1

theorem call_in (hm : Mem c N w0 O0 L w) {W : Nat → Prop} {Gb : Nat → Prop} {LT : Loc} (hW : ∀ k, W k → ∃ T, tabOf L k = some (true, T))
    (hT : ∀ k wr T, tabOf LT k = some (wr, T) → (∃ wr0, tabOf L k = some (wr0, T)) ∧ (wr = true ↔ W k)) (hG : ∀ b, Gb b → ∃ g, c.ι g = some b ∧ (L g).2 ≠ .dead) :
    TabRel LT (ctxOf c.γ c.ρ (Ows c L W)) (fun b => b < w.heap.size ∧ ¬ (Ows c L W b ∨ Gb b)) w := by
  have ht : ∀ k i q, There LT k i q → There L k i q := fun k i q h => h.of fun wr T h => (hT k wr T h).1
  have htab : ∀ k i q, (ctxOf c.γ c.ρ (Ows c L W)).tab k i q = c.tab k i q := fun k i q => by cases q <;> rfl
  refine ⟨fun k wr T i cs h1 h2 => ?_, fun k wr T i b h1 h2 => ?_, fun k i q k' i' q' b h1 h2 h3 h4 => ?_, fun k T i q b h1 h2 h3 => ?_, fun k T i q b h1 h2 h3 => ?_⟩
  · obtain ⟨⟨wr0, h3⟩, _⟩ := hT k wr T h1
    exact hm.tab.obj k wr0 T i cs h3 h2
  · obtain ⟨⟨wr0, h3⟩, _⟩ := hT k wr T h1
    exact hm.tab.tight k wr0 T i b h3 h2
  · rw [htab] at h3 h4
    exact hm.tab.inj k i q k' i' q' b (ht _ _ _ h1) (ht _ _ _ h2) h3 h4
  · rw [htab] at h3
    exact ⟨k, i, q, (hT k true T h1).2.1 rfl, ht _ _ _ h2, h3⟩
  · rw [htab] at h3
    have hnW : ¬ W k := fun h => by have := (hT k false T h1).2.2 h; cases this
    have hno := Ows.not hm hnW (ht _ _ _ h2) h3
    obtain ⟨o, ho⟩ := hm.tab.block (ht _ _ _ h2) h3
    refine ⟨hno, lt_of_heap ho, ?_⟩
    rintro (h | h)
    · exact hno h
    · obtain ⟨g, g1, g2⟩ := hG b h
      obtain ⟨a1, a2, a3⟩ := hm.mine g b g1 g2
      exact hm.not_tab (ht _ _ _ h2) h3 a1 a3

theorem call_tab (hm : Mem c N w0 O0 L w) {W : Nat → Prop} {Gb Ob O' : Nat → Prop} {LT L' : Loc} {w' : World} {γ' : Nat → Nat → Option Nat} {ρ' : Nat → Nat → Nat → Option Nat} {ad : Nat → Option (Nat × List D × Option Nat)}
    (hγ : ∀ k i b, c.γ k i = some b → γ' k i = some b) (hsame : ∀ k, ¬ W k → γ' k = c.γ k ∧ ρ' k = c.ρ k)
    (hOb : ∀ b, Ob b → Gb b) (hG : ∀ b, Gb b → ∃ g, c.ι g = some b ∧ (L g).2 ≠ .dead) (hO : ∀ b, O' b → b < w'.heap.size ∧ (Ows c L W b ∨ Ob b ∨ w.heap.size ≤ b)) (hk : Kept w (fun b => Ows c L W b ∨ Gb b) w')
    (hTin : TabRel LT (ctxOf γ' ρ' O') (fun _ => True) w') (hW' : ∀ k, W k → ∃ T', tabOf LT k = some (true, T') ∧ tabOf L' k = some (true, T')) (hN : ∀ k, ¬ W k → tabOf L' k = tabOf L k) :
    TabRel L' (afterCtx c γ' ρ' O' (Ows c L W) ad) (fun b => b < N ∧ ¬ O0 b) w' := by
  have htab : ∀ k i q, (afterCtx c γ' ρ' O' (Ows c L W) ad).tab k i q = (ctxOf γ' ρ' O').tab k i q := fun k i q => by cases q <;> rfl
  -- tables that were turned
  have tW : ∀ k i q, W k → There L' k i q → There LT k i q := fun k i q h1 h2 => h2.of fun wr T h => by
    obtain ⟨T', a1, a2⟩ := hW' k h1
    rw [h] at a2; cases a2
    exact ⟨true, a1⟩
  have oW : ∀ k i q b, W k → There L' k i q → (ctxOf γ' ρ' O').tab k i q = some b → O' b := fun k i q b h1 h2 h3 => by
    obtain ⟨T', a1, a2⟩ := hW' k h1
    exact hTin.wr k T' i q b a1 (tW k i q h1 h2) h3
  -- tables that were left alone
  have tN : ∀ k i q, ¬ W k → There L' k i q → There L k i q := fun k i q h1 h2 => h2.of fun wr T h => ⟨wr, by rw [← hN k h1]; exact h⟩
  have cN : ∀ k i q, ¬ W k → (ctxOf γ' ρ' O').tab k i q = c.tab k i q := fun k i q h1 => by
    obtain ⟨e1, e2⟩ := hsame k h1
    cases q with
    | none => show γ' k i = c.γ k i; rw [e1]
    | some o => show ρ' k i o = c.ρ k i o; rw [e2]
  have bN : ∀ k i q b, ¬ W k → There L k i q → c.tab k i q = some b → b < w.heap.size ∧ ¬ Ows c L W b ∧ ¬ Gb b ∧ ¬ O' b ∧ w'.heap[b]? = w.heap[b]? := fun k i q b h1 h2 h3 => by
    obtain ⟨o, ho⟩ := hm.tab.block h2 h3
    have hlt := lt_of_heap ho
    have h4 := Ows.not hm h1 h2 h3
    have h5 : ¬ Gb b := fun h => by
      obtain ⟨g, g1, g2⟩ := hG b h
      obtain ⟨a1, a2, a3⟩ := hm.mine g b g1 g2
      exact hm.not_tab h2 h3 a1 a3
    refine ⟨hlt, h4, h5, fun h => ?_, hk.block b hlt fun h => ?_⟩
    · rcases (hO b h).2 with h' | h' | h'
      · exact h4 h'
      · exact h5 (hOb b h')
      · omega
    · rcases h with h | h
      · exact h4 h
      · exact h5 h
  refine ⟨fun k wr T i cs h1 h2 => ?_, fun k wr T i b h1 h2 => ?_, fun k i q k' i' q' b h1 h2 h3 h4 => ?_, fun k T i q b h1 h2 h3 => ?_, fun k T i q b h1 h2 h3 => ?_⟩
  · by_cases hw : W k
    · obtain ⟨T', a1, a2⟩ := hW' k hw
      rw [h1] at a2; cases a2
      exact hTin.obj k true T i cs a1 h2
    · rw [hN k hw] at h1
      obtain ⟨b, x, ty, fz, p1, p2, p3, p4, p5⟩ := hm.tab.obj k wr T i cs h1 h2
      have hth : There L k i none := ⟨wr, T, h1, lt_of_get h2⟩
      obtain ⟨_, _, _, _, e⟩ := bN k i none b hw hth p1
      refine ⟨b, x, ty, fz, hγ k i b p1, by rw [e]; exact p2, fun i hi => by rw [frozen_same e]; exact p3 i hi, p4, fun o d u hd hu => ⟨(p5 o d u hd hu).1, ?_⟩⟩
      have hc := (p5 o d u hd hu).2
      show CellOk γ' w' (rowSz k o) (ρ' k i o) d u
      rw [(hsame k hw).2]
      by_cases hr : d.isRow = true
      · exact hc.mono (fun b hb => (bN k i (some o) b hw ⟨wr, T, d, h1, by unfold cellT; rw [h2]; exact hd, hr⟩ hb).2.2.2.2) hγ
      · cases hc with
        | undef u => exact .undef u
        | flat d u h1 h2 => exact .flat d u h1 (h2.fl h1 hγ).1
        | rowE a h => exact absurd rfl hr
        | row => exact absurd rfl hr
        | mp => exact absurd rfl hr
  · by_cases hw : W k
    · obtain ⟨T', a1, a2⟩ := hW' k hw
      rw [h1] at a2; cases a2
      exact hTin.tight k true T i b a1 h2
    · rw [hN k hw] at h1
      have h2' : γ' k i = some b := h2
      rw [(hsame k hw).1] at h2'
      exact hm.tab.tight k wr T i b h1 h2'
  · rw [htab] at h3 h4
    by_cases hw : W k <;> by_cases hw' : W k'
    · exact hTin.inj k i q k' i' q' b (tW _ _ _ hw h1) (tW _ _ _ hw' h2) h3 h4
    · have := oW k i q b hw h1 h3
      rw [cN _ _ _ hw'] at h4
      exact absurd this (bN k' i' q' b hw' (tN _ _ _ hw' h2) h4).2.2.2.1
    · have := oW k' i' q' b hw' h2 h4
      rw [cN _ _ _ hw] at h3
      exact absurd this (bN k i q b hw (tN _ _ _ hw h1) h3).2.2.2.1
    · rw [cN _ _ _ hw] at h3
      rw [cN _ _ _ hw'] at h4
      exact hm.tab.inj k i q k' i' q' b (tN _ _ _ hw h1) (tN _ _ _ hw' h2) h3 h4
  · rw [htab] at h3
    by_cases hw : W k
    · exact .inr (oW k i q b hw h2 h3)
    · rw [cN _ _ _ hw] at h3
      have h2' := tN _ _ _ hw h2
      rw [hN k hw] at h1
      exact .inl ⟨hm.tab.wr k T i q b h1 h2' h3, (bN k i q b hw h2' h3).2.1⟩
  · rw [htab] at h3
    by_cases hw : W k
    · obtain ⟨T', a1, a2⟩ := hW' k hw
      rw [h1] at a2; cases a2
    · rw [cN _ _ _ hw] at h3
      have h2' := tN _ _ _ hw h2
      rw [hN k hw] at h1
      obtain ⟨a1, a2⟩ := hm.tab.ro k T i q b h1 h2' h3
      refine ⟨?_, a2⟩
      rintro (h | h)
      · exact a1 h.1
      · exact (bN k i q b hw h2' h3).2.2.2.1 h

-- lists of tables
theorem tabsLoc_spec : ∀ {ks : List (Nat × Bool)} {Ts : List Tb} {k : Nat} {wr : Bool} {T : Tb}, tabOf (tabsLoc ks Ts) k = some (wr, T) → ∃ j : Nat, ks[j]? = some (k, wr) ∧ Ts[j]? = some T
  | [], Ts, k, wr, T, h => by simp [tabsLoc, tabOf] at h
  | _ :: _, [], k, wr, T, h => by simp [tabsLoc, tabOf] at h
  | (k0, w0) :: ks, T0 :: Ts, k, wr, T, h => by
    simp only [tabsLoc] at h
    by_cases e : k = k0
    · subst e
      unfold tabOf at h
      rw [Loc.set_same] at h
      simp at h
      obtain ⟨rfl, rfl⟩ := h
      exact ⟨0, rfl, rfl⟩
    · rw [tabOf_same (Loc.set_ne _ _ fun h => e (tb_inj h))] at h
      obtain ⟨j, h1, h2⟩ := tabsLoc_spec h
      exact ⟨j + 1, h1, h2⟩
theorem tabsLoc_at : ∀ {ks : List (Nat × Bool)} {Ts : List Tb} {j k : Nat} {wr : Bool} {T : Tb}, (ks.map (·.1)).Nodup → ks[j]? = some (k, wr) → Ts[j]? = some T → tabOf (tabsLoc ks Ts) k = some (wr, T)
  | [], Ts, j, k, wr, T, _, h, _ => by simp at h
  | _ :: _, [], j, k, wr, T, _, _, h => by simp at h
  | (k0, w0) :: ks, T0 :: Ts, j, k, wr, T, hn, h1, h2 => by
    simp only [List.map_cons, List.nodup_cons] at hn
    simp only [tabsLoc]
    cases j with
    | zero =>
      simp at h1 h2
      obtain ⟨rfl, rfl⟩ := h1
      subst h2
      unfold tabOf; rw [Loc.set_same]
    | succ j =>
      simp at h1 h2
      have : k ≠ k0 := fun e => hn.1 (List.mem_map.2 ⟨(k, wr), List.mem_of_getElem? h1, e⟩)
      rw [tabOf_same (Loc.set_ne _ _ fun h => this (tb_inj h))]
      exact tabsLoc_at hn.2 h1 h2
theorem tabsLoc_tb {ks : List (Nat × Bool)} {Ts : List Tb} {g : Nat} (h : ∀ k, g ≠ tb k) : tabsLoc ks Ts g = (0, .dead) := by
  induction ks generalizing Ts with
  | nil => rfl
  | cons p ks ih =>
    obtain ⟨k0, w0⟩ := p
    cases Ts with
    | nil => rfl
    | cons T Ts => simp only [tabsLoc]; rw [Loc.set_ne _ _ (h k0)]; exact ih

theorem tabsOf_spec {L : Loc} : ∀ {ks : List (Nat × Bool)} {Ts : List Tb}, tabsOf L ks = some Ts → Ts.length = ks.length ∧ ∀ (j k : Nat) (wr : Bool) (T : Tb), ks[j]? = some (k, wr) → Ts[j]? = some T → ∃ wr0, tabOf L k = some (wr0, T) ∧ (wr = true → wr0 = true)
  | [], Ts, h => by simp [tabsOf] at h; subst h; simp
  | (k0, w0) :: ks, Ts, h => by
    simp only [tabsOf] at h
    split at h
    rotate_left
    · cases h
    rename_i wr0 T0 hT
    split at h
    rotate_left
    · cases h
    rename_i hw
    cases hr : tabsOf L ks with
    | none => rw [hr] at h; cases h
    | some Ts0 =>
      rw [hr] at h
      injection h with h; subst h
      obtain ⟨q1, q2⟩ := tabsOf_spec hr
      refine ⟨by simp [q1], fun j k wr T h1 h2 => ?_⟩
      cases j with
      | zero =>
        simp at h1 h2
        obtain ⟨rfl, rfl⟩ := h1
        subst h2
        exact ⟨wr0, hT, hw⟩
      | succ j => exact q2 j k wr T (by simpa using h1) (by simpa using h2)

theorem mem_ksW {ks : List (Nat × Bool)} {k : Nat} : k ∈ ksW ks ↔ (k, true) ∈ ks := by
  unfold ksW
  rw [List.mem_map]
  constructor
  · rintro ⟨⟨k', b⟩, h, rfl⟩
    rw [List.mem_filter] at h
    obtain ⟨h1, h2⟩ := h
    simp at h2; subst h2; exact h1
  · intro h
    exact ⟨(k, true), List.mem_filter.2 ⟨h, rfl⟩, rfl⟩

/-- What is written of tables. -/
theorem newTabs_spec {L : Loc} : ∀ {ks : List (Nat × Bool)} {Ts Ts' : List Tb} (Lb : Loc), (ks.map (·.1)).Nodup → Ts.length = ks.length → Ts'.length = (ksW ks).length →
    (newTabs ks Ts Ts').length = ks.length ∧ (∀ k, k ∈ ksW ks → ∃ T, tabOf (tabsLoc ks (newTabs ks Ts Ts')) k = some (true, T) ∧ (Lb.upd (wrTabs L (ksW ks) Ts')) (tb k) = (L.new (tb k), .tbl true T)) ∧
    ∀ g, (∀ k ∈ ksW ks, g ≠ tb k) → (Lb.upd (wrTabs L (ksW ks) Ts')) g = Lb g
  | [], Ts, Ts', Lb, _, h1, h2 => by
    refine ⟨by cases Ts <;> rfl, by simp [ksW], fun g _ => ?_⟩
    cases Ts' <;> rfl
  | (k0, w0) :: ks, [], Ts', Lb, _, h1, h2 => by simp at h1
  | (k0, false) :: ks, T0 :: Ts, Ts', Lb, hn, h1, h2 => by
    simp only [List.map_cons, List.nodup_cons] at hn
    have e : ksW ((k0, false) :: ks) = ksW ks := by simp [ksW]
    rw [e] at h2 ⊢
    obtain ⟨q1, q2, q3⟩ := newTabs_spec Lb (L := L) hn.2 (Ts := Ts) (Ts' := Ts') (by simpa using h1) h2
    have en : newTabs ((k0, false) :: ks) (T0 :: Ts) Ts' = T0 :: newTabs ks Ts Ts' := by cases Ts' <;> rfl
    rw [en]
    refine ⟨by simp [q1], fun k hk => ?_, q3⟩
    obtain ⟨T, a1, a2⟩ := q2 k hk
    refine ⟨T, ?_, a2⟩
    simp only [tabsLoc]
    have : k ≠ k0 := fun e => hn.1 (List.mem_map.2 ⟨(k, true), mem_ksW.1 hk, e⟩)
    rw [tabOf_same (Loc.set_ne _ _ fun h => this (tb_inj h))]; exact a1
  | (k0, true) :: ks, T0 :: Ts, [], Lb, hn, h1, h2 => by simp [ksW] at h2
  | (k0, true) :: ks, T0 :: Ts, T' :: Ts', Lb, hn, h1, h2 => by
    simp only [List.map_cons, List.nodup_cons] at hn
    have e : ksW ((k0, true) :: ks) = k0 :: ksW ks := by simp [ksW]
    rw [e] at h2 ⊢
    obtain ⟨q1, q2, q3⟩ := newTabs_spec (Lb.set (tb k0) (L.new (tb k0), .tbl true T')) (L := L) hn.2 (Ts := Ts) (Ts' := Ts') (by simpa using h1) (by simpa using h2)
    have hk0 : ∀ k ∈ ksW ks, k ≠ k0 := fun k hk e => hn.1 (List.mem_map.2 ⟨(k, true), mem_ksW.1 hk, e⟩)
    simp only [newTabs, wrTabs, tabsLoc, Loc.upd]
    refine ⟨by simp [q1], fun k hk => ?_, fun g hg => ?_⟩
    · rcases List.mem_cons.1 hk with rfl | hk
      · refine ⟨T', by unfold tabOf; rw [Loc.set_same], ?_⟩
        rw [q3 _ fun k' hk' e => hk0 k' hk' (tb_inj e).symm, Loc.set_same]
      · obtain ⟨T, a1, a2⟩ := q2 k hk
        refine ⟨T, ?_, a2⟩
        rw [tabOf_same (Loc.set_ne _ _ fun h => hk0 k hk (tb_inj h))]; exact a1
    · rw [q3 g fun k hk => hg k (by simp [hk]), Loc.set_ne _ _ (hg k0 (by simp))]

end
end Wf

/-
  Calls: arguments that are given.
-/
namespace Wf
open Go Go.RowKit

theorem pmAt_nil (i : Nat) : pmAt [] i = (.lent, 0) := by simp [pmAt]
theorem pmAt_zero (pms : List (PM × Nat)) : pms.headD (.lent, 0) = pmAt pms 0 := by cases pms <;> rfl
theorem pmAt_succ (pms : List (PM × Nat)) (i : Nat) : pmAt pms.tail i = pmAt pms (i + 1) := by cases pms <;> simp [pmAt]
theorem mutsBefore_zero (pms : List (PM × Nat)) : mutsBefore pms 0 = 0 := by simp [mutsBefore]
theorem mutsBefore_succ (pms : List (PM × Nat)) (i : Nat) : mutsBefore pms (i + 1) = (if (pmAt pms 0).1 = .mut then 1 else 0) + mutsBefore pms.tail i := by
  cases pms with
  | nil => simp [mutsBefore, pmAt]
  | cons p pms =>
    simp only [mutsBefore, List.take_succ_cons, List.tail_cons, pmAt, List.getD_cons_zero]
    by_cases h : p.1 = .mut <;> simp [List.filter_cons, h] <;> omega

theorem giveL_spec {nw : List Nat} {L : Loc} : ∀ {vs : List V} {pms : List (PM × Nat)} {ds : List D} {ms : List (Nat × Nat × Nat × Nat)} {kl : Wr}, giveL nw L pms vs = some (ds, ms, kl) →
    ds.length = vs.length ∧ (∀ (i : Nat) (v : V) (d : D), vs[i]? = some v → ds[i]? = some d → ∃ m k, give1 nw L (pmAt pms i) v = some (d, m, k) ∧ (∀ p ∈ k, p ∈ kl) ∧ ((pmAt pms i).1 = .mut → ∀ x ∈ m, ms[mutsBefore pms i]? = some x)) ∧
    (∀ p ∈ kl, ∃ (i : Nat) (v : V) (d : D) (m : _) (k : Wr), vs[i]? = some v ∧ ds[i]? = some d ∧ give1 nw L (pmAt pms i) v = some (d, m, k) ∧ p ∈ k) ∧
    (∀ (j : Nat) (x : _), ms[j]? = some x → ∃ (i : Nat) (v : V) (d : D) (m : _) (k : Wr), vs[i]? = some v ∧ ds[i]? = some d ∧ give1 nw L (pmAt pms i) v = some (d, m, k) ∧ x ∈ m ∧ j = mutsBefore pms i ∧ (pmAt pms i).1 = .mut)
  | [], pms, ds, ms, kl, h => by
    simp [giveL] at h
    obtain ⟨rfl, rfl, rfl⟩ := h
    simp
  | v :: vs, pms, ds, ms, kl, h => by
    simp only [giveL] at h
    rw [pmAt_zero] at h
    cases h1 : give1 nw L (pmAt pms 0) v with
    | none => rw [h1] at h; cases h
    | some x =>
    obtain ⟨d0, m0, k0⟩ := x
    rw [h1] at h
    simp only [Option.bind_some] at h
    cases h2 : giveL nw L pms.tail vs with
    | none => rw [h2] at h; cases h
    | some y =>
    obtain ⟨ds', ms', kl'⟩ := y
    rw [h2] at h
    simp at h
    obtain ⟨rfl, rfl, rfl⟩ := h
    obtain ⟨q1, q2, q3, q4⟩ := giveL_spec h2
    -- what one argument leaves
    have hm0 : m0.length = if (pmAt pms 0).1 = .mut then 1 else 0 := by
      generalize pmAt pms 0 = pm at h1
      obtain ⟨m, sz⟩ := pm
      cases m with
      | lent =>
        simp only [give1] at h1
        cases hl : lend nw L v with
        | none => rw [hl] at h1; cases h1
        | some z => rw [hl] at h1; simp at h1; obtain ⟨_, rfl, _⟩ := h1; simp
      | own =>
        simp only [give1] at h1
        split at h1
        · split at h1
          · split at h1
            · simp at h1; obtain ⟨_, rfl, _⟩ := h1; simp
            · cases h1
          · cases h1
        · simp at h1; obtain ⟨_, rfl, _⟩ := h1; simp
        · simp at h1; obtain ⟨_, rfl, _⟩ := h1; simp
        · cases h1
      | «mut» =>
        simp only [give1] at h1
        split at h1
        · split at h1
          · split at h1
            · simp at h1; obtain ⟨_, rfl, _⟩ := h1; simp
            · cases h1
          · cases h1
        · cases h1
    refine ⟨by simp [q1], fun i u d hu hd => ?_, fun p hp => ?_, fun j x hx => ?_⟩
    · cases i with
      | zero =>
        simp at hu hd; subst hu; subst hd
        refine ⟨m0, k0, h1, fun p hp => by simp [hp], fun hmut x hx => ?_⟩
        rw [mutsBefore_zero]
        rw [if_pos hmut] at hm0
        match m0, hm0, hx with
        | [y], _, hx => simp at hx; subst hx; rfl
      | succ i =>
        obtain ⟨m, k, a1, a2, a3⟩ := q2 i u d (by simpa using hu) (by simpa using hd)
        rw [pmAt_succ] at a1 a3
        refine ⟨m, k, a1, fun p hp => by simp [a2 p hp], fun hmut x hx => ?_⟩
        rw [mutsBefore_succ, ← hm0, List.getElem?_append_right (by omega), Nat.add_sub_cancel_left]
        exact a3 hmut x hx
    · rcases List.mem_append.1 hp with hp | hp
      · exact ⟨0, v, d0, m0, k0, rfl, rfl, h1, hp⟩
      · obtain ⟨i, u, d, m, k, a1, a2, a3, a4⟩ := q3 p hp
        rw [pmAt_succ] at a3
        exact ⟨i + 1, u, d, m, k, a1, a2, a3, a4⟩
    · by_cases hj : j < m0.length
      · rw [List.getElem?_append_left hj] at hx
        have hmut : (pmAt pms 0).1 = .mut := by
          apply Classical.byContradiction
          intro hne
          rw [if_neg hne] at hm0; omega
        rw [if_pos hmut] at hm0
        have : j = 0 := by omega
        subst this
        exact ⟨0, v, d0, m0, k0, rfl, rfl, h1, List.mem_of_getElem? hx, (mutsBefore_zero _).symm, hmut⟩
      · rw [List.getElem?_append_right (by omega)] at hx
        obtain ⟨i, u, d, m, k, a1, a2, a3, a4, a5, a6⟩ := q4 _ x hx
        rw [pmAt_succ] at a3 a6
        exact ⟨i + 1, u, d, m, k, a1, a2, a3, a4, by rw [mutsBefore_succ, ← hm0]; omega, a6⟩

theorem giveOk_spec {L : Loc} : ∀ {vs : List V} {pms : List (PM × Nat)} {bef : List V}, giveOk L pms bef vs = true →
    ∀ (i : Nat) (v : V), vs[i]? = some v → (pmAt pms i).1 ≠ .lent → (∀ u ∈ bef, ∀ g ∈ v.ids, g ∉ deepL L [u]) ∧ ∀ (j : Nat) (u : V), j ≠ i → vs[j]? = some u → ∀ g ∈ v.ids, g ∉ deepL L [u]
  | [], _, _, _, i, v, h, _ => by simp at h
  | v :: vs, pms, bef, h, i, v', hv, hp => by
    simp only [giveOk, pmAt_zero, Bool.and_eq_true, Bool.or_eq_true, decide_eq_true_eq] at h
    obtain ⟨h1, h2⟩ := h
    cases i with
    | zero =>
      simp at hv; subst hv
      have h3 : ∀ g ∈ v.ids, g ∉ deepL L (bef ++ vs) := by
        rcases h1 with h1 | h1
        · exact absurd h1 hp
        · rw [List.all_eq_true] at h1
          intro g hg
          have := h1 g hg
          simpa using this
      have sub : ∀ u, u ∈ bef ++ vs → ∀ g ∈ v.ids, g ∉ deepL L [u] := fun u hu g hg hd => h3 g hg (deepL_sub (fun g' hg' => idsL_mem hu (by simpa [V.idsL] using hg')) hd)
      refine ⟨fun u hu => sub u (by simp [hu]), fun j u hj hu => ?_⟩
      cases j with
      | zero => exact absurd rfl hj
      | succ j => exact sub u (by simp [List.mem_of_getElem? (show vs[j]? = some u by simpa using hu)])
    | succ i =>
      obtain ⟨q1, q2⟩ := giveOk_spec h2 i v' (by simpa using hv) (by rw [pmAt_succ]; exact hp)
      refine ⟨fun u hu => q1 u (by simp [hu]), fun j u hj hu => ?_⟩
      cases j with
      | zero => simp at hu; subst hu; exact q1 v (by simp)
      | succ j => exact q2 j u (by omega) (by simpa using hu)

theorem wrOuts_spec : ∀ {ms : List (Nat × Nat × Nat × Nat)} {os : List (List D)} {wo : Wr}, wrOuts ms os = some wo →
    wo.length = ms.length ∧ ∀ (j g n sz len : Nat), ms[j]? = some (g, n, sz, len) → ∃ els, os[j]? = some els ∧ els.length = len ∧ wo[j]? = some (g, (n, .arr sz els true))
  | [], [], wo, h => by simp [wrOuts] at h; subst h; simp
  | [], _ :: _, wo, h => by simp [wrOuts] at h
  | _ :: _, [], wo, h => by simp [wrOuts] at h
  | (g, n, sz, len) :: ms, els :: os, wo, h => by
    simp only [wrOuts] at h
    split at h
    rotate_left
    · cases h
    rename_i hl
    cases hr : wrOuts ms os with
    | none => rw [hr] at h; cases h
    | some w =>
      rw [hr] at h
      injection h with h; subst h
      obtain ⟨q1, q2⟩ := wrOuts_spec hr
      refine ⟨by simp [q1], fun j g' n' sz' len' hj => ?_⟩
      cases j with
      | zero =>
        simp at hj
        obtain ⟨rfl, rfl, rfl, rfl⟩ := hj
        exact ⟨els, rfl, hl, rfl⟩
      | succ j => exact q2 j g' n' sz' len' (by simpa using hj)

theorem upd_mem {wr : Wr} : ∀ {L : Loc} {g : Nat} {x : Nat × HObj}, (wr.map (·.1)).Nodup → (g, x) ∈ wr → L.upd wr g = x := by
  induction wr with
  | nil => intro L g x _ h; cases h
  | cons p wr ih =>
    intro L g x hn h
    simp only [List.map_cons, List.nodup_cons] at hn
    simp only [Loc.upd]
    rcases List.mem_cons.1 h with rfl | h
    · rw [upd_not hn.1, Loc.set_same]
    · exact ih hn.2 h

/-- Where what is given lies. -/
def gvOf (c : Ctx) (pms : List (PM × Nat)) (vs : List V) (i : Nat) : Option Nat := if (pmAt pms i).1 = .lent then none else match vs[i]? with
  | some (.ref g _ _ _) => c.ι g
  | _ => none

section
variable {c : Ctx} {N : Nat} {w0 : World} {O0 : Nat → Prop} {L Lr : Loc} {w : World}

/-- What one argument is that is given. -/
theorem give1_own {nw : List Nat} {pm : PM × Nat} {v : V} {d : D} {m : List (Nat × Nat × Nat × Nat)} {k : Wr} (hp : pm.1 ≠ .lent) (h : give1 nw Lr pm v = some (d, m, k)) :
    (∃ g n len els, v = .ref g n 0 len ∧ Lr.get g n = .arr pm.2 els true ∧ len = els.length ∧ g < 90000 ∧ els.all D.flatEl = true ∧ d = .sl .own els ∧ ((pm.1 = .own ∧ m = [] ∧ k = [(g, (n, .dead))]) ∨ (pm.1 = .mut ∧ m = [(g, n, pm.2, len)] ∧ k = []))) ∨
    (pm.1 = .own ∧ (v = .d (.sl .nil []) ∨ v = .d (.sl .full [])) ∧ d = .sl .own [] ∧ m = [] ∧ k = []) := by
  obtain ⟨p, sz⟩ := pm
  cases p with
  | lent => exact absurd rfl hp
  | own =>
    simp only [give1] at h
    split at h
    · rename_i g n off len
      split at h
      · rename_i sz' els hy
        split at h
        · rename_i hc
          obtain ⟨c1, rfl, c3, c4⟩ := hc
          simp at h
          obtain ⟨rfl, rfl, rfl⟩ := h
          exact .inl ⟨g, n, len, els, rfl, hy, c1, c3, c4, rfl, .inl ⟨rfl, rfl, rfl⟩⟩
        · cases h
      · cases h
    · simp at h; obtain ⟨rfl, rfl, rfl⟩ := h; exact .inr ⟨rfl, .inl rfl, rfl, rfl, rfl⟩
    · simp at h; obtain ⟨rfl, rfl, rfl⟩ := h; exact .inr ⟨rfl, .inr rfl, rfl, rfl, rfl⟩
    · cases h
  | «mut» =>
    simp only [give1] at h
    split at h
    · rename_i g n off len
      split at h
      · rename_i sz' els hy
        split at h
        · rename_i hc
          obtain ⟨c1, rfl, c3, c4⟩ := hc
          simp at h
          obtain ⟨rfl, rfl, rfl⟩ := h
          exact .inl ⟨g, n, len, els, rfl, hy, c1, c3, c4, rfl, .inr ⟨rfl, rfl, rfl⟩⟩
        · cases h
      · cases h
    · cases h

/-- Arguments, as a function finds them. -/
theorem give_ok (hm : Mem c N w0 O0 L w) (hs : Sees Lr L) {nw : List Nat} {pms : List (PM × Nat)} {vs : List V} {us : List Value} {ds : List D} {ms : List (Nat × Nat × Nat × Nat)} {kl : Wr}
    (hg : giveL nw Lr pms vs = some (ds, ms, kl)) (hok : giveOk Lr pms [] vs = true) (hv : Vals c L w N vs us) (hW : ∀ k, k ∈ nw → ∃ T, tabOf L k = some (true, T)) :
    (∀ b, Gv (gvOf c pms vs) b → ∃ i g n len els, vs[i]? = some (.ref g n 0 len) ∧ (pmAt pms i).1 ≠ .lent ∧ gvOf c pms vs i = some b ∧ c.ι g = some b ∧ g < 90000 ∧ L.get g n = .arr (pmAt pms i).2 els true ∧ len = els.length) ∧
    (∀ i j b, gvOf c pms vs i = some b → gvOf c pms vs j = some b → i = j) ∧
    ArgsOk w (fun b => Ows c L (· ∈ nw) b ∨ Gv (gvOf c pms vs) b) c.γ pms (gvOf c pms vs) ds us := by
  obtain ⟨q1, q2, q3, q4⟩ := giveL_spec hg
  -- what is given
  have one : ∀ i b, gvOf c pms vs i = some b → ∃ g n len els, vs[i]? = some (.ref g n 0 len) ∧ (pmAt pms i).1 ≠ .lent ∧ c.ι g = some b ∧ g < 90000 ∧ L.get g n = .arr (pmAt pms i).2 els true ∧ len = els.length := by
    intro i b h
    unfold gvOf at h
    split at h
    · cases h
    rename_i hp
    split at h
    rotate_left
    · cases h
    rename_i g n off len hvi
    have hi := lt_of_get hvi
    obtain ⟨m, k, a1, _⟩ := q2 i _ (ds[i]'(by omega)) hvi (by simp)
    rcases give1_own hp a1 with ⟨g', n', len', els, e, a2, a3, a4, a5, _⟩ | ⟨_, e | e, _⟩
    · cases e
      exact ⟨g, n, len, els, hvi, hp, h, a4, by rw [← a2]; exact hs g n (by rw [a2]; simp), a3⟩
    · cases e
    · cases e
  have hGv : ∀ b, Gv (gvOf c pms vs) b → ∃ i g n len els, vs[i]? = some (.ref g n 0 len) ∧ (pmAt pms i).1 ≠ .lent ∧ gvOf c pms vs i = some b ∧ c.ι g = some b ∧ g < 90000 ∧ L.get g n = .arr (pmAt pms i).2 els true ∧ len = els.length := by
    rintro b ⟨i, h⟩
    obtain ⟨g, n, len, els, a1, a2, a3, a4, a5, a6⟩ := one i b h
    exact ⟨i, g, n, len, els, a1, a2, h, a3, a4, a5, a6⟩
  have hgok := giveOk_spec hok
  have hinj : ∀ i j b, gvOf c pms vs i = some b → gvOf c pms vs j = some b → i = j := by
    intro i j b h1 h2
    obtain ⟨g, n, len, els, a1, a2, a3, a4, a5, a6⟩ := one i b h1
    obtain ⟨g', n', len', els', b1, b2, b3, b4, b5, b6⟩ := one j b h2
    obtain ⟨_, e1⟩ := get_at a5 (by simp)
    obtain ⟨_, e2⟩ := get_at b5 (by simp)
    have hgg := hm.inj g g' b a3 b3 (by rw [e1]; simp) (by rw [e2]; simp)
    subst hgg
    apply Classical.byContradiction
    intro hne
    exact (hgok i _ a1 a2).2 j _ (Ne.symm hne) b1 g (by simp [V.ids]) (deepL_ids (by simp [V.idsL, V.ids]))
  have hGown : ∀ b, Gv (gvOf c pms vs) b → own c L b ∧ ¬ c.O b ∧ ∃ g, c.ι g = some b ∧ (L g).2 ≠ .dead := by
    intro b h
    obtain ⟨i, g, n, len, els, a1, a2, a3, a4, a5, a6, a7⟩ := hGv b h
    obtain ⟨_, e1⟩ := get_at a6 (by simp)
    exact ⟨.inr ⟨g, a4, by rw [e1]; rfl⟩, (hm.mine g b a4 (by rw [e1]; simp)).2.2, g, a4, by rw [e1]; simp⟩
  have hA : ∀ b, (Ows c L (· ∈ nw) b ∨ Gv (gvOf c pms vs) b) → own c L b := by
    rintro b (h | h)
    · exact .inl (h.sub hm hW)
    · exact (hGown b h).1
  have htb : ∀ k i q b, k ∉ nw → There L k i q → c.tab k i q = some b → ¬ (Ows c L (· ∈ nw) b ∨ Gv (gvOf c pms vs) b) := by
    rintro k i q b h1 h2 h3 (h | h)
    · exact Ows.not hm h1 h2 h3 h
    · obtain ⟨_, _, g, g1, g2⟩ := hGown b h
      obtain ⟨a1, a2, a3⟩ := hm.mine g b g1 g2
      exact hm.not_tab h2 h3 a1 a3
  refine ⟨hGv, hinj, by rw [q1]; exact hv.1, fun i d u hd hu => ?_⟩
  have hi : i < vs.length := by have := lt_of_get hd; omega
  have hvi : vs[i]? = some vs[i] := by simp
  have hval := hv.2 i _ u hvi hu
  obtain ⟨m, k, a1, _⟩ := q2 i _ d hvi hd
  constructor
  · intro hp
    refine ⟨by unfold gvOf; rw [if_pos hp], ?_⟩
    have hl : lend nw Lr vs[i] = some d := by
      generalize hpm : pmAt pms i = pm at a1 hp
      obtain ⟨p, sz⟩ := pm
      simp at hp; subst hp
      simp only [give1] at a1
      cases hl : lend nw Lr vs[i] with
      | none => rw [hl] at a1; cases a1
      | some z => rw [hl] at a1; simp at a1; rw [a1.1]
    refine lend_ok hm hs hA htb ?_ hl hval
    rintro g hg b hb hd (h | h)
    · exact (hm.mine g b hb hd).2.2 (h.sub hm hW)
    · obtain ⟨j, g', n, len, els, b1, b2, b3, b4, b5, b6, b7⟩ := hGv b h
      obtain ⟨_, e1⟩ := get_at b6 (by simp)
      have := hm.inj g g' b hb b4 hd (by rw [e1]; simp)
      subst this
      have hji : i ≠ j := by rintro rfl; exact b2 hp
      exact (hgok j _ b1 b2).2 i _ hji hvi g (by simp [V.ids]) hg
  · intro hp
    rcases give1_own hp a1 with ⟨g, n, len, els, e, a2, a3, a4, a5, a6, _⟩ | ⟨_, e, a6, _⟩
    · have hL := hs g n (by rw [a2]; simp)
      rw [a2] at hL
      have hgv : gvOf c pms vs i = c.ι g := by unfold gvOf; rw [if_neg hp, hvi, e]
      refine ⟨els, a6, a5, ?_, ?_⟩
      · rw [e] at hval
        cases hval with
        | ref _ _ _ _ _ k1 k2 k3 =>
          rw [hgv, ← a3]
          exact (k2 _ _ _ hL).2
      · rw [hgv]
        have hob := hm.get hL (by simp)
        refine ArrOk.flat (B := own c L) (N' := N) ?_ a5
        generalize c.ι g = β at hob ⊢
        cases β with
        | none => exact hob
        | some b => exact hob
    · have hgv : gvOf c pms vs i = none := by
        unfold gvOf; rw [if_neg hp, hvi]
        rcases e with e | e <;> rw [e]
      refine ⟨[], a6, rfl, ?_, ?_⟩
      · rw [hgv]
        have hr : Rep w (own c L) N c.γ (.sl .nil []) u ∨ Rep w (own c L) N c.γ (.sl .full []) u := by
          rcases e with e | e <;> rw [e] at hval
          · exact .inl hval.dat
          · exact .inr hval.dat
        rcases hr with hr | hr
        · cases hr with
          | slE _ a cap h1 h2 _ => exact ⟨a, cap, rfl, by simp, .inl (h2 rfl).2⟩
          | sl _ _ _ _ _ _ _ h => exact absurd rfl h
        · cases hr with
          | slE _ a cap h1 h2 _ => exact ⟨a, cap, rfl, by simp, .inl (h1 rfl)⟩
          | sl _ _ _ _ _ _ _ h => exact absurd rfl h
      · rw [hgv]; rfl

end
end Wf

/-
  Calls, whole.
-/
namespace Wf
open Go Go.RowKit

section
variable {c : Ctx} {N : Nat} {w0 : World} {O0 : Nat → Prop} {L Lr : Loc} {w : World}

theorem adopt1_not {id sz : Nat} {d : D} (h : ∀ els, d ≠ .sl .own els) : adopt1 L id sz d = (.d d, []) := by
  unfold adopt1
  split
  · rename_i els; exact absurd rfl (h els)
  · rfl

theorem adoptL_spec {t : Nat} : ∀ (szs : List Nat) (ds : List D) (j : Nat) (Lb : Loc), szs.length = ds.length →
    (adoptL L t j szs ds).1.length = ds.length ∧
    (∀ (i : Nat) (d : D) (sz : Nat), ds[i]? = some d → szs[i]? = some sz → (adoptL L t j szs ds).1[i]? = some (adopt1 L (t + 1000 * (j + i + 1)) sz d).1) ∧
    (∀ (i : Nat) (els : List D) (sz : Nat), ds[i]? = some (.sl .own els) → szs[i]? = some sz → (Lb.upd (adoptL L t j szs ds).2) (t + 1000 * (j + i + 1)) = (L.new (t + 1000 * (j + i + 1)), .arr sz els true)) ∧
    ∀ g, (∀ (i : Nat) (els : List D) (sz : Nat), ds[i]? = some (.sl .own els) → szs[i]? = some sz → g ≠ t + 1000 * (j + i + 1)) → (Lb.upd (adoptL L t j szs ds).2) g = Lb g
  | [], [], j, Lb, _ => ⟨rfl, by simp, by simp, fun _ _ => rfl⟩
  | [], _ :: _, _, _, h => by simp at h
  | _ :: _, [], _, _, h => by simp at h
  | sz :: szs, d :: ds, j, Lb, h => by
    let r := adopt1 L (t + 1000 * (j + 1)) sz d
    obtain ⟨k1, k2, k3, k4⟩ := adoptL_spec (t := t) szs ds (j + 1) (Lb.upd r.2) (by simpa using h)
    have hwr : ∀ g, g ≠ t + 1000 * (j + 1) → (Lb.upd r.2) g = Lb g := by
      intro g hg
      by_cases ho : ∃ els, d = .sl .own els
      · obtain ⟨els, rfl⟩ := ho
        simp only [r, adopt1, Loc.upd, Loc.set_ne _ _ hg]
      · have : r = (.d d, []) := adopt1_not fun els e => ho ⟨els, e⟩
        rw [this]; rfl
    have hw0 : ∀ els, d = .sl .own els → (Lb.upd r.2) (t + 1000 * (j + 1)) = (L.new (t + 1000 * (j + 1)), .arr sz els true) := by
      rintro els rfl
      simp only [r, adopt1, Loc.upd, Loc.set_same]
    refine ⟨by simp [adoptL, k1], ?_, ?_, ?_⟩
    · intro i d' sz' hd hs
      cases i with
      | zero => simp at hd hs; subst hd; subst hs; simp [adoptL]
      | succ i =>
        have := k2 i d' sz' (by simpa using hd) (by simpa using hs)
        simp only [adoptL, List.getElem?_cons_succ]
        rw [this]; congr 4; omega
    · intro i els sz' hd hs
      simp only [adoptL, Loc.upd_append]
      cases i with
      | zero =>
        simp at hd hs; subst hs
        rw [k4 _ (fun i _ _ _ _ => by omega)]
        exact hw0 els hd
      | succ i =>
        have := k3 i els sz' (by simpa using hd) (by simpa using hs)
        rw [show j + 1 + i = j + (i + 1) by omega] at this
        exact this
    · intro g hg
      simp only [adoptL, Loc.upd_append]
      rw [k4 g (fun i els sz' hd hs => by
        have := hg (i + 1) els sz' (by simpa using hd) (by simpa using hs)
        rwa [show j + (i + 1) = j + 1 + i by omega] at this)]
      by_cases hg0 : g = t + 1000 * (j + 1)
      · by_cases ho : ∃ els, d = .sl .own els
        · obtain ⟨els, rfl⟩ := ho
          exact absurd hg0 (hg 0 els sz (by simp) (by simp))
        · have : r = (.d d, []) := adopt1_not fun els e => ho ⟨els, e⟩
          rw [this]; rfl
      · exact hwr g hg0

theorem CompOk.not_own {A : Nat → Prop} {γ β sz} {d : D} {u : Value} (h : CompOk w A N γ β sz d u) (hn : ∀ els, d ≠ .sl .own els) : β = none ∧ Rep w A N γ d u := by
  unfold CompOk at h
  split at h
  · rename_i els; exact absurd rfl (hn els)
  · exact h

theorem ArrOk.out {w : World} {A A' : Nat → Prop} {N N' : Nat} {γ β sz els} (h : ArrOk w A N γ β sz els) (hA : ∀ b, A' b → A b) (hN : N' ≤ N) : ArrOk w A' N' γ β sz els := by
  cases β with
  | none => exact h
  | some b =>
    obtain ⟨x, T, fz, r1, r2, r3, vs, r4⟩ := h
    exact ⟨x, T, fz, r1, r2, r3, vs, fun i d hd => ⟨((r4 i d hd).1).out hA hN, (r4 i d hd).2⟩⟩

/-- Where rows that are handed over find their places. -/
theorem adopt_places {w' : World} {A : Nat → Prop} {Nn : Nat} {γ' : Nat → Nat → Option Nat} {t : Nat} {szs : List Nat} {r : D} {v : Value} {vv : V} {wra : Wr} (hN : N ≤ Nn)
    (ha : adopt Lr t szs r = some (vv, wra)) (hLr : ∀ i, i ≤ 4 → Lr (t + 1000 * i) = L (t + 1000 * i)) (hr : ResOk w' A Nn γ' szs r v) :
    ∃ ad : Nat → Option (Nat × List D × Option Nat), (∀ g p, ad g = some p → ∀ Lb : Loc, (Lb.upd wra) g = (L.new g, .arr p.1 p.2.1 true)) ∧ (∀ g, ad g = none → ∀ Lb : Loc, (Lb.upd wra) g = Lb g) ∧
      (∀ g p, ad g = some p → ∃ i, i ≤ 4 ∧ g = t + 1000 * i) ∧ (∀ g sz els b, ad g = some (sz, els, some b) → b < w'.heap.size ∧ ¬ A b) ∧
      (∀ g g' sz els sz' els' b, ad g = some (sz, els, some b) → ad g' = some (sz', els', some b) → g = g') ∧
      (∀ g sz els β, ad g = some (sz, els, β) → ArrOk w' (fun b => A b ∨ ∃ g sz els, ad g = some (sz, els, some b)) N γ' β sz els) ∧
      ∀ (c' : Ctx) (L' : Loc), (∀ g p, ad g = some p → c'.ι g = p.2.2 ∧ L' g = (L.new g, .arr p.1 p.2.1 true)) → c'.γ = γ' → (∀ b, own c' L' b → A b ∨ ∃ g sz els, ad g = some (sz, els, some b)) → Val c' L' w' N vv v := by
  obtain ⟨ow, o1, o2, o3⟩ := hr
  by_cases htup : ∃ ds, r = .tup ds
  · obtain ⟨ds, rfl⟩ := htup
    simp only [adopt] at ha
    split at ha
    rotate_left
    · cases ha
    rename_i hlen
    obtain ⟨hlen, hle4⟩ := hlen
    injection ha with ha
    injection ha with ha1 ha2
    subst ha1; subst ha2
    obtain ⟨vs, rfl, q1, _, q3⟩ := o3
    have hsp := fun Lb => adoptL_spec (L := Lr) (t := t) szs ds 0 Lb hlen
    obtain ⟨k1, k2, _, _⟩ := hsp L
    let idx : Nat → Nat := fun g => (g - t) / 1000 - 1
    have hidx : ∀ i, idx (t + 1000 * (i + 1)) = i := by intro i; simp only [idx]; omega
    let ad : Nat → Option (Nat × List D × Option Nat) := fun g => if g = t + 1000 * (idx g + 1) then
      (match ds[idx g]?, szs[idx g]? with
       | some (.sl .own els), some sz => some (sz, els, ow (idx g))
       | _, _ => none) else none
    have had : ∀ g sz els β, ad g = some (sz, els, β) → ∃ i, i < 4 ∧ g = t + 1000 * (i + 1) ∧ ds[i]? = some (.sl .own els) ∧ szs[i]? = some sz ∧ β = ow i := by
      intro g sz els β h
      simp only [ad] at h
      split at h
      · rename_i hg
        split at h
        · rename_i els' sz' h1 h2
          injection h with h; injection h with h3 h4; injection h4 with h4 h5
          subst h3; subst h4; subst h5
          have := lt_of_get h1
          exact ⟨idx g, by omega, hg, h1, h2, rfl⟩
        · cases h
      · cases h
    have had' : ∀ i els sz, ds[i]? = some (.sl .own els) → szs[i]? = some sz → ad (t + 1000 * (i + 1)) = some (sz, els, ow i) := by
      intro i els sz h1 h2
      simp only [ad, hidx, if_true, h1, h2]
    have hnew : ∀ i, i < 4 → Lr.new (t + 1000 * (i + 1)) = L.new (t + 1000 * (i + 1)) := fun i hi => by unfold Loc.new; rw [hLr _ (by omega)]
    have comp : ∀ (i : Nat) (els : List D) (sz : Nat), ds[i]? = some (.sl .own els) → szs[i]? = some sz → ∃ u, vs[i]? = some u ∧ CompOk w' (fun b => A b ∨ ∃ i, ow i = some b) Nn γ' (ow i) sz (.sl .own els) u := by
      intro i els sz h1 h2
      have hi : i < vs.size := by have := lt_of_get h1; omega
      exact ⟨vs[i], Array.getElem?_eq_getElem hi, q3 i _ _ _ h1 (Array.getElem?_eq_getElem hi) h2⟩
    have hsub : ∀ b, (A b ∨ ∃ g sz els, ad g = some (sz, els, some b)) → (A b ∨ ∃ i, ow i = some b) := by
      rintro b (h | ⟨g, sz, els, h⟩)
      · exact .inl h
      · obtain ⟨i, _, _, _, _, h6⟩ := had g sz els _ h
        exact .inr ⟨i, h6.symm⟩
    refine ⟨ad, fun g p hp Lb => ?_, fun g hg Lb => ?_, fun g p hp => ?_, fun g sz els b h => ?_, fun g g' sz els sz' els' b h h' => ?_, fun g sz els β h => ?_, fun c' L' hc hγ hown => ?_⟩
    · obtain ⟨sz, els, β⟩ := p
      obtain ⟨i, hi, rfl, h1, h2, _⟩ := had g sz els β hp
      have := (hsp Lb).2.2.1 i els sz h1 h2
      rw [Nat.zero_add] at this
      rw [this, hnew i hi]
    · refine (hsp Lb).2.2.2 g fun i els sz h1 h2 e => ?_
      rw [Nat.zero_add] at e
      rw [e, had' i els sz h1 h2] at hg; cases hg
    · obtain ⟨sz, els, β⟩ := p
      obtain ⟨i, hi, rfl, _⟩ := had g sz els β hp
      exact ⟨i + 1, by omega, rfl⟩
    · obtain ⟨i, _, _, h4, h5, h6⟩ := had g sz els _ h
      exact o2 i b h6.symm
    · obtain ⟨i, _, hg, _, _, h6⟩ := had g sz els _ h
      obtain ⟨i', _, hg', _, _, h6'⟩ := had g' sz' els' _ h'
      have := o1 i i' b h6.symm h6'.symm
      rw [hg, hg', this]
    · obtain ⟨i, _, _, h4, h5, rfl⟩ := had g sz els _ h
      obtain ⟨u, _, hc⟩ := comp i els sz h4 h5
      exact (hc.2).out hsub hN
    · refine .tup _ _ (by rw [k1]; exact q1) fun i x u hx hu => ?_
      have hi : i < ds.length := by have := lt_of_cell hu; omega
      have hd : ds[i]? = some ds[i] := List.getElem?_eq_getElem hi
      have hsz : szs[i]? = some (szs[i]'(by omega)) := List.getElem?_eq_getElem (by omega)
      have hx' := k2 i _ _ hd hsz
      rw [hx] at hx'
      injection hx' with hx'
      have hcomp := q3 i _ u _ hd hu hsz
      rw [Nat.zero_add] at hx'
      by_cases ho : ∃ els, ds[i] = .sl .own els
      · obtain ⟨els, hels⟩ := ho
        rw [hels] at hx' hcomp hd
        simp only [adopt1] at hx'
        subst hx'
        have h1 := had' i els _ hd hsz
        obtain ⟨e1, e2⟩ := hc _ _ h1
        rw [hnew i (by omega)]
        have hget : L'.get (t + 1000 * (i + 1)) (L.new (t + 1000 * (i + 1))) = .arr (szs[i]'(by omega)) els true := by unfold Loc.get; rw [e2]; simp
        refine .ref _ _ _ _ _ (by rw [e2]; exact Nat.le_refl _) (fun sz' els' l' hg => ?_) (fun sz' els' hg => ?_)
        · rw [hget] at hg
          cases hg
          exact ⟨by omega, by rw [e1]; exact hcomp.1⟩
        · rw [hget] at hg; cases hg
      · rw [adopt1_not fun els e => ho ⟨els, e⟩] at hx'
        subst hx'
        refine .d _ _ ?_
        rw [hγ]
        exact (((hcomp.not_own fun els e => ho ⟨els, e⟩).2).out (fun b h => hsub b (hown b h)) hN)
  · have o3' : ∃ sz, szs = [sz] ∧ CompOk w' (fun b => A b ∨ ∃ i, ow i = some b) Nn γ' (ow 0) sz r v := by
      cases r <;> first | exact o3 | exact absurd ⟨_, rfl⟩ htup
    obtain ⟨sz, rfl, hc⟩ := o3'
    have ha' : adopt1 Lr t sz r = (vv, wra) := by
      cases r <;> first | (simp only [adopt] at ha; injection ha) | exact absurd ⟨_, rfl⟩ htup
    have hL0 : Lr.new t = L.new t := by have := hLr 0 (by omega); simp at this; unfold Loc.new; rw [this]
    by_cases ho : ∃ els, r = .sl .own els
    · obtain ⟨els, rfl⟩ := ho
      simp only [adopt1] at ha'
      injection ha' with h1 h2
      subst h1; subst h2
      let ad : Nat → Option (Nat × List D × Option Nat) := fun g => if g = t then some (sz, els, ow 0) else none
      have had : ∀ g sz' els' β, ad g = some (sz', els', β) → g = t ∧ sz' = sz ∧ els' = els ∧ β = ow 0 := by
        intro g sz' els' β h
        simp only [ad] at h
        split at h
        · injection h with h; injection h with h3 h4; injection h4 with h4 h5
          exact ⟨by assumption, h3.symm, h4.symm, h5.symm⟩
        · cases h
      have hadt : ad t = some (sz, els, ow 0) := by simp [ad]
      have hsub : ∀ b, (A b ∨ ∃ g sz els, ad g = some (sz, els, some b)) → (A b ∨ ∃ i, ow i = some b) := by
        rintro b (h | ⟨g, sz, els, h⟩)
        · exact .inl h
        · exact .inr ⟨0, (had _ _ _ _ h).2.2.2.symm⟩
      rw [hL0]
      refine ⟨ad, fun g p hp Lb => ?_, fun g hg Lb => ?_, fun g p hp => ?_, fun g sz els b h => ?_, fun g g' _ _ _ _ b h h' => by rw [(had _ _ _ _ h).1, (had _ _ _ _ h').1], fun g sz' els' β h => ?_, fun c' L' hc' hγ hown => ?_⟩
      · obtain ⟨sz', els', β⟩ := p
        obtain ⟨rfl, rfl, rfl, rfl⟩ := had _ _ _ _ hp
        simp only [Loc.upd, Loc.set_same]
      · have : g ≠ t := by rintro rfl; rw [hadt] at hg; cases hg
        simp only [Loc.upd, Loc.set_ne _ _ this]
      · obtain ⟨sz', els', β⟩ := p
        exact ⟨0, by omega, by rw [(had _ _ _ _ hp).1]; simp⟩
      · exact o2 0 b (had _ _ _ _ h).2.2.2.symm
      · obtain ⟨_, rfl, rfl, rfl⟩ := had _ _ _ _ h
        exact (hc.2).out hsub hN
      · obtain ⟨e1, e2⟩ := hc' _ _ hadt
        have hget : L'.get t (L.new t) = .arr sz els true := by unfold Loc.get; rw [e2]; simp
        refine .ref _ _ _ _ _ (by rw [e2]; exact Nat.le_refl _) (fun sz' els' l' hg => ?_) (fun sz' els' hg => ?_)
        · rw [hget] at hg
          cases hg
          exact ⟨by omega, by rw [e1]; exact hc.1⟩
        · rw [hget] at hg; cases hg
    · rw [adopt1_not fun els e => ho ⟨els, e⟩] at ha'
      injection ha' with h1 h2
      subst h1; subst h2
      refine ⟨fun _ => none, by simp, fun _ _ _ => rfl, by simp, by simp, by simp, by simp, fun c' L' _ hγ hown => .d _ _ ?_⟩
      rw [hγ]
      exact (((hc.not_own fun els e => ho ⟨els, e⟩).2).out (fun b h => by
        rcases hown b h with h | ⟨_, _, _, h⟩
        · exact .inl h
        · cases h) hN)

/-- What a call comes to. -/
theorem turn_ok (hm : Mem c N w0 O0 L w) (hs : Sees Lr L) {pms : List (PM × Nat)} {ks : List (Nat × Bool)} {vs : List V} {us : List Value} {ds : List D} {ms : List (Nat × Nat × Nat × Nat)} {kl wo : Wr} {Ts tbs : List Tb} {outs : List (List D)}
    (hg : giveL (ksW ks) Lr pms vs = some (ds, ms, kl)) (hok : giveOk Lr pms [] vs = true) (hv : Vals c L w N vs us) (hT : tabsOf Lr ks = some Ts) (hnd : (ks.map (·.1)).Nodup) (hwo : wrOuts ms outs = some wo) (htl : tbs.length = (ksW ks).length)
    {t : Nat} (ht0 : t < 90000) {szs : List Nat} {r : D} {v : Value} {vv : V} {wra : Wr} (ha : adopt Lr t szs r = some (vv, wra)) (hLr : ∀ i, i ≤ 4 → Lr (t + 1000 * i) = L (t + 1000 * i)) (hLt : ∀ k ∈ ksW ks, Lr (tb k) = L (tb k))
    {w' : World} {γ' : Nat → Nat → Option Nat} {ρ' : Nat → Nat → Nat → Option Nat} {O' : Nat → Prop}
    (hturn : Turned w w' c.γ γ' c.ρ ρ' (Ows c L (· ∈ ksW ks)) O' pms (gvOf c pms vs) ks ds Ts (newTabs ks Ts tbs) outs szs r v) :
    Did c N w0 O0 L w { v := vv, wr := kl ++ wo ++ wrTabs Lr (ksW ks) tbs ++ wra } v w' := by
  obtain ⟨t1, t2⟩ := tabsOf_spec hT
  have hTL : ∀ (j k : Nat) (wr : Bool) (T : Tb), ks[j]? = some (k, wr) → Ts[j]? = some T → ∃ wr0, tabOf L k = some (wr0, T) ∧ (wr = true → wr0 = true) := fun j k wr T h1 h2 => by
    obtain ⟨wr0, h3, h4⟩ := t2 j k wr T h1 h2
    exact ⟨wr0, (hs.tab h3).1, h4⟩
  have hW : ∀ k, k ∈ ksW ks → ∃ T, tabOf L k = some (true, T) := fun k hk => by
    obtain ⟨j, hj, e⟩ := List.mem_iff_getElem.1 (mem_ksW.1 hk)
    obtain ⟨wr0, h3, h4⟩ := hTL j k true (Ts[j]'(by omega)) (by rw [← e]; simp) (by simp)
    rw [h4 rfl] at h3
    exact ⟨_, h3⟩
  obtain ⟨g1, g2, g3⟩ := give_ok hm hs hg hok hv hW
  obtain ⟨q1, q2, q3, q4⟩ := giveL_spec hg
  obtain ⟨u1, u2⟩ := wrOuts_spec hwo
  obtain ⟨n1, n2, n3⟩ := newTabs_spec (L := Lr) (Ts := Ts) ((L.upd kl).upd wo) hnd t1 htl
  obtain ⟨ad, d1, d2, d3, d4, d5, d6, d7⟩ := adopt_places (L := L) hm.size ha hLr hturn.res
  have hgok := giveOk_spec hok
  -- which places are given
  have argOf : ∀ (i : Nat) (u : V) (d : D), vs[i]? = some u → ds[i]? = some d → (pmAt pms i).1 ≠ .lent → ∀ m k, give1 (ksW ks) Lr (pmAt pms i) u = some (d, m, k) →
      ∀ g, (g ∈ k.map (·.1) ∨ g ∈ m.map (·.1)) → g ∈ u.ids := by
    intro i u d hu hd hp m k h g hgk
    rcases give1_own hp h with ⟨g', n, len, els, e, _, _, _, _, _, h'⟩ | ⟨_, _, _, rfl, rfl⟩
    · subst e
      rcases h' with ⟨_, rfl, rfl⟩ | ⟨_, rfl, rfl⟩ <;> simp at hgk <;> subst hgk <;> simp [V.ids]
    · simp at hgk
  have lentNo : ∀ (i : Nat) (u : V) (d : D) m k, give1 (ksW ks) Lr (pmAt pms i) u = some (d, m, k) → (pmAt pms i).1 = .lent → m = [] ∧ k = [] := by
    intro i u d m k h hp
    generalize pmAt pms i = pm at h hp
    obtain ⟨p, sz⟩ := pm
    simp at hp; subst hp
    simp only [give1] at h
    cases hl : lend (ksW ks) Lr u with
    | none => rw [hl] at h; cases h
    | some z => rw [hl] at h; simp at h; exact ⟨h.2.1, h.2.2⟩
  -- what ends
  have hkl : ∀ p ∈ kl, ∃ (i g n len : Nat) (els : List D), (pmAt pms i).1 = .own ∧ vs[i]? = some (.ref g n 0 len) ∧ L.get g n = .arr (pmAt pms i).2 els true ∧ p = (g, ((L g).1, .dead)) := by
    intro p hp
    obtain ⟨i, u, d, m, k, a1, a2, a3, a4⟩ := q3 p hp
    have hpl : (pmAt pms i).1 ≠ .lent := fun h => by rw [(lentNo i u d m k a3 h).2] at a4; cases a4
    rcases give1_own hpl a3 with ⟨g', n, len, els, rfl, b1, b2, _, _, _, h'⟩ | ⟨_, _, _, _, rfl⟩
    · rcases h' with ⟨c1, rfl, rfl⟩ | ⟨_, _, rfl⟩
      · simp at a4; subst a4
        have hL := hs g' n (by rw [b1]; simp)
        rw [b1] at hL
        exact ⟨i, g', n, len, els, c1, a1, hL, by rw [(get_at hL (by simp)).1]⟩
      · cases a4
    · cases a4
  have hkd := upd_dead (kl := kl) (L := L) fun p hp => by
    obtain ⟨i, g, n, len, els, _, _, _, rfl⟩ := hkl p hp; rfl
  -- what comes back
  have hwoAt : ∀ (j : Nat) (p : Nat × (Nat × HObj)), wo[j]? = some p → ∃ (i g n len : Nat) (els els' : List D), j = mutsBefore pms i ∧ (pmAt pms i).1 = .mut ∧ vs[i]? = some (.ref g n 0 len) ∧ ds[i]? = some (.sl .own els) ∧ L.get g n = .arr (pmAt pms i).2 els true ∧ els'.length = els.length ∧
      outs[mutsBefore pms i]? = some els' ∧ p = (g, ((L g).1, .arr (pmAt pms i).2 els' true)) := by
    intro j p hp
    have hj : j < ms.length := by have := lt_of_get hp; omega
    obtain ⟨⟨g0, n0, sz0, len0⟩, hms⟩ : ∃ x, ms[j]? = some x := ⟨ms[j], by simp⟩
    obtain ⟨els', e1, e2, e3⟩ := u2 j g0 n0 sz0 len0 hms
    rw [hp] at e3
    injection e3 with e3
    obtain ⟨i, u, d, m, k, a1, a2, a3, a4, a5, a6⟩ := q4 j _ hms
    rcases give1_own (by rw [a6]; simp) a3 with ⟨g', n, len, els, rfl, b1, b2, _, _, b5, h'⟩ | ⟨c1, _⟩
    · rcases h' with ⟨c1, _⟩ | ⟨_, rfl, _⟩
      · rw [a6] at c1; cases c1
      · simp at a4
        obtain ⟨rfl, rfl, rfl, rfl⟩ := a4
        have hL := hs g0 n0 (by rw [b1]; simp)
        rw [b1] at hL
        exact ⟨i, g0, n0, len0, els, els', a5, a6, a1, by rw [a2, b5], hL, by omega, by rw [← a5]; exact e1, by rw [e3, (get_at hL (by simp)).1]⟩
    · rw [a6] at c1; cases c1
  have hwnd : (wo.map (·.1)).Nodup := by
    refine List.pairwise_iff_getElem.2 fun a b ha' hb hab e => ?_
    simp only [List.length_map] at hb ha'
    have h1 : wo[a]? = some (wo[a]'(by omega)) := by simp
    have h2 : wo[b]? = some (wo[b]'(by omega)) := by simp
    obtain ⟨i, g, n, len, els, els', x1, x2, x3, _, _, _, _, x4⟩ := hwoAt a _ h1
    obtain ⟨i', g', n', len', els2, els2', y1, y2, y3, _, _, _, _, y4⟩ := hwoAt b _ h2
    rw [List.getElem_map, List.getElem_map, x4, y4] at e
    simp at e; subst e
    by_cases hii : i = i'
    · subst hii; omega
    · exact (hgok i _ x3 (by rw [x2]; simp)).2 i' _ (Ne.symm hii) y3 g (by simp [V.ids]) (deepL_ids (by simp [V.idsL, V.ids]))
  have hwk : ∀ g, g ∈ wo.map (·.1) → g ∉ kl.map (·.1) := by
    intro g h1 h2
    obtain ⟨p, hp, rfl⟩ := List.mem_map.1 h1
    obtain ⟨p', hp', e⟩ := List.mem_map.1 h2
    obtain ⟨j, hj, rfl⟩ := List.mem_iff_getElem.1 hp
    obtain ⟨i, g, n, len, els, els', x1, x2, x3, _, _, _, _, x4⟩ := hwoAt j _ (List.getElem?_eq_getElem hj)
    obtain ⟨i', g', n', len', els2, y2, y3, _, y4⟩ := hkl p' hp'
    rw [x4, y4] at e
    simp at e; subst e
    have hii : i ≠ i' := by rintro rfl; rw [x2] at y2; cases y2
    exact (hgok i _ x3 (by rw [x2]; simp)).2 i' _ (Ne.symm hii) y3 g' (by simp [V.ids]) (deepL_ids (by simp [V.idsL, V.ids]))
  have hltab : ∀ (g n sz : Nat) (els : List D), L.get g n = .arr sz els true → ∀ k, g ≠ tb k := fun g n sz els h k e => (hm.live_tab (by rw [(get_at h (by simp)).2]; rfl) k) e.symm
  -- the places, as they are then
  let L' : Loc := L.upd (kl ++ wo ++ wrTabs Lr (ksW ks) tbs ++ wra)
  have hL'e : L' = (((L.upd kl).upd wo).upd (wrTabs Lr (ksW ks) tbs)).upd wra := by simp only [L', Loc.upd_append]
  have hL' : ∀ g, (∃ p, ad g = some p ∧ L' g = (L.new g, .arr p.1 p.2.1 true)) ∨ (ad g = none ∧ ((L' g = L g ∧ ∀ b, c.ι g = some b → (L g).2 ≠ .dead → ¬ Gv (gvOf c pms vs) b) ∨ L' g = ((L g).1, .dead) ∨
      (∃ sz els els', (L g).2 = .arr sz els true ∧ L' g = ((L g).1, .arr sz els' true) ∧ els'.length = els.length ∧ els'.all D.flatEl = true ∧ ArrOk w' (fun _ => False) 0 γ' (c.ι g) sz els') ∨
      ∃ k wr T T', g = tb k ∧ (L g).2 = .tbl wr T ∧ L' g = (L.new g, .tbl wr T'))) := by
    intro g
    cases hag : ad g with
    | some p => exact .inl ⟨p, rfl, by rw [hL'e]; exact d1 g p hag _⟩
    | none =>
      refine .inr ⟨rfl, ?_⟩
      rw [hL'e, d2 g hag]
      by_cases hk : ∃ k ∈ ksW ks, g = tb k
      · obtain ⟨k, hk, rfl⟩ := hk
        obtain ⟨T', a1, a2⟩ := n2 k hk
        obtain ⟨T, hT0⟩ := hW k hk
        refine .inr (.inr (.inr ⟨k, true, T, T', rfl, tab_get.1 hT0, ?_⟩))
        rw [a2]
        unfold Loc.new; rw [hLt k hk]
      · rw [n3 g fun k hk' e => hk ⟨k, hk', e⟩]
        by_cases hw : g ∈ wo.map (·.1)
        · obtain ⟨p, hp, rfl⟩ := List.mem_map.1 hw
          obtain ⟨j, hj, rfl⟩ := List.mem_iff_getElem.1 hp
          have hwj : wo[j]? = some wo[j] := by simp
          obtain ⟨i, g, n, len, els, els', x1, x2, x3, x5, x6, x7, x8, x4⟩ := hwoAt j _ hwj
          have hup := upd_mem (L := L.upd kl) hwnd (g := (wo[j]).1) (x := (wo[j]).2) (List.mem_of_getElem? hwj)
          refine .inr (.inr (.inl ?_))
          rw [hup, x4]
          obtain ⟨_, e2⟩ := get_at x6 (by simp)
          have hgv : gvOf c pms vs i = c.ι g := by unfold gvOf; rw [if_neg (by rw [x2]; simp), x3]
          obtain ⟨f1, f2⟩ := hturn.outs i (pmAt pms i).2 els els' (Prod.ext x2 rfl) x5 x8 x7
          rw [hgv] at f2
          exact ⟨_, els, els', e2, rfl, x7, f1, f2⟩
        · rw [upd_not hw, hkd]
          by_cases hkk : g ∈ kl.map (·.1)
          · rw [if_pos hkk]; exact .inr (.inl rfl)
          · rw [if_neg hkk]
            refine .inl ⟨rfl, fun b hb hd hgv => ?_⟩
            obtain ⟨i, g', n, len, els, a1, a2, a3, a4, a5, a6, a7⟩ := g1 b hgv
            obtain ⟨e1, e2⟩ := get_at a6 (by simp)
            have := hm.inj g g' b hb a4 hd (by rw [e2]; simp)
            subst this
            -- it was given: it ends, or comes back
            have hi : i < ds.length := by have := lt_of_get a1; omega
            obtain ⟨m, k, b1, b2, b3⟩ := q2 i _ ds[i] a1 (by simp)
            rcases give1_own a2 b1 with ⟨g'', n', len', els', e, _, _, _, _, _, h'⟩ | ⟨_, e, _⟩
            · cases e
              rcases h' with ⟨_, _, rfl⟩ | ⟨hmut, rfl, _⟩
              · exact hkk (List.mem_map.2 ⟨_, b2 (g, (n, .dead)) (by simp), rfl⟩)
              · have h8 := b3 hmut (g, n, (pmAt pms i).2, len) (by simp)
                obtain ⟨els2, _, _, h9⟩ := u2 _ _ _ _ _ h8
                exact hw (List.mem_map.2 ⟨_, List.mem_of_getElem? h9, rfl⟩)
            · rcases e with e | e <;> cases e
  have hGlive : ∀ b, Gv (gvOf c pms vs) b → ∃ g, c.ι g = some b ∧ (L g).2 ≠ .dead := fun b h => by
    obtain ⟨i, g, n, len, els, a1, a2, a3, a4, a5, a6, a7⟩ := g1 b h
    exact ⟨g, a4, by rw [(get_at a6 (by simp)).2]; simp⟩
  have hadtb : ∀ k, ad (tb k) = none := fun k => by
    cases h : ad (tb k) with
    | none => rfl
    | some p =>
      obtain ⟨i, h1, h2⟩ := d3 _ _ h
      unfold tb at h2; omega
  have hOb : ∀ b, OwnG pms (gvOf c pms vs) b → Gv (gvOf c pms vs) b := fun b ⟨i, _, h⟩ => ⟨i, h⟩
  have hN' : ∀ k, k ∉ ksW ks → L' (tb k) = L (tb k) := by
    intro k hk
    rw [hL'e, d2 _ (hadtb k), n3 _ (fun k' hk' e => hk (by rw [tb_inj e]; exact hk')), upd_not, hkd, if_neg]
    · intro h
      obtain ⟨p, hp, e⟩ := List.mem_map.1 h
      obtain ⟨i, g, n, len, els, _, _, h3, rfl⟩ := hkl p hp
      exact hltab _ _ _ _ h3 k e
    · intro h
      obtain ⟨p, hp, e⟩ := List.mem_map.1 h
      obtain ⟨j, hj, rfl⟩ := List.mem_iff_getElem.1 hp
      obtain ⟨i, g, n, len, els, els', x1, x2, x3, x5, x6, x7, x8, x4⟩ := hwoAt j _ (List.getElem?_eq_getElem hj)
      rw [x4] at e
      exact hltab _ _ _ _ x6 k e
  have htab := call_tab (ad := ad) hm hturn.more (W := (· ∈ ksW ks)) (fun k hk => hturn.same k hk) hOb hGlive hturn.osub hturn.kept hturn.tab (L' := L') (fun k hk => by
      obtain ⟨T, a1, a2⟩ := n2 k hk
      refine ⟨T, a1, ?_⟩
      unfold tabOf
      rw [hL'e, d2 _ (hadtb k), a2]) (fun k hk => tabOf_same (hN' k hk))
  obtain ⟨m1, m2, m3⟩ := call_core (ad := ad) (L' := L') hm hturn.more (Gb := Gv (gvOf c pms vs)) (Ob := OwnG pms (gvOf c pms vs)) (Ow := Ows c L (· ∈ ksW ks)) (O' := O') (ρ' := ρ')
    (fun k i o e => by
      by_cases hk : k ∈ ksW ks
      · exfalso
        rw [hL'e, d2 _ (hadtb k)] at e
        obtain ⟨T, a1, a2⟩ := n2 k hk
        rw [a2] at e
        simp [Loc.new, hLt k hk] at e
      · rw [(hturn.same k hk).2])
    (fun k h => hturn.same k fun hk => by obtain ⟨T, hT'⟩ := hW k hk; exact h T hT')
    (fun b h => h.sub hm hW) (fun b h => by
      obtain ⟨i, g, n, len, els, a1, a2, a3, a4, a5, a6, a7⟩ := g1 b h
      exact ⟨g, a4, a5, _, _, (get_at a6 (by simp)).2⟩) hOb
    (fun b g hob hb hd hag => by
      obtain ⟨i, hi, hgi⟩ := hob
      obtain ⟨i', g', n, len, els, a1, a2, a3, a4, a5, a6, a7⟩ := g1 b ⟨i, hgi⟩
      have hii := g2 i i' b hgi a3
      subst hii
      obtain ⟨e1, e2⟩ := get_at a6 (by simp)
      have := hm.inj g g' b hb a4 hd (by rw [e2]; simp)
      subst this
      have hi' : i < ds.length := by have := lt_of_get a1; omega
      obtain ⟨m, k, b1, b2, b3⟩ := q2 i _ ds[i] a1 (by simp)
      have hin : g ∈ kl.map (·.1) := by
        rcases give1_own a2 b1 with ⟨g'', n', len', els', e, _, _, _, _, _, h'⟩ | ⟨_, e, _⟩
        · cases e
          rcases h' with ⟨_, _, rfl⟩ | ⟨hmut, _⟩
          · exact List.mem_map.2 ⟨_, b2 (g, (n, .dead)) (by simp), rfl⟩
          · rw [hi] at hmut; cases hmut
        · rcases e with e | e <;> cases e
      rw [hL'e, d2 g hag, n3 _ (fun k' hk' => hltab _ _ _ _ a6 k'), upd_not (fun h => hwk g h hin), hkd, if_pos hin])
    hturn.osub hturn.kept hL' (fun g sz els b h => by
      obtain ⟨x1, x2⟩ := d4 g sz els b h
      refine ⟨?_, x1, fun h => x2 (.inr h)⟩
      by_cases hob : OwnG pms (gvOf c pms vs) b
      · exact .inr hob
      · refine .inl ?_
        rcases Nat.lt_or_ge b w.heap.size with h' | h'
        · exact absurd (.inl ⟨h', hob⟩) x2
        · exact h')
    d5 (fun g sz els β h => d6 g sz els β h) hadtb htab
  refine ⟨_, m1, m2, d7 _ _ (fun g p h => ⟨afterCtx_ad h, ?_⟩) rfl m3⟩
  rcases hL' g with ⟨p', h1, h2⟩ | ⟨h1, _⟩
  · rw [h] at h1; cases h1; exact h2
  · rw [h] at h1; cases h1

end
end Wf

/-
  An operation, whole.
-/
namespace Wf
open Go Go.RowKit

theorem aeqFs_ok {P : Program} {w : World} {A N γ} {eq : TypeId → D → D → Option Bool} {d : Nat} (heq : ∀ t x y r u v, eq t x y = some r → Rep w A N γ x u → Rep w A N γ y v → (Op.equalIn d t u v).run P w = .ok r w)
    {xs ys : List D} {us vs : Array Value} (hx : Rep w A N γ (.agg xs) (.agg us)) (hy : Rep w A N γ (.agg ys) (.agg vs)) : ∀ (fs : List Field) (r : Bool), aeqFs P eq xs ys fs = some r → (Op.eqFields d us vs fs).run P w = .ok r w
  | [], r, h => by simp [aeqFs] at h; subst h; simp [Op.eqFields]
  | f :: fs, r, h => by
    unfold aeqFs at h
    split at h
    · cases h
    · rename_i hname
      split at h
      rotate_left
      · cases h
      rename_i ag n hag hn
      split at h
      rotate_left
      · cases h
      rename_i x y hpx hpy
      cases he : eq f.type x y with
      | none => rw [he] at h; cases h
      | some r1 =>
        rw [he] at h
        simp only [Option.bind_some] at h
        cases hr : aeqFs P eq xs ys fs with
        | none => rw [hr] at h; cases h
        | some r2 =>
          rw [hr] at h
          simp at h; subst h
          have part1 : ∀ {zs : List D} {ws : Array Value} {z : D}, Rep w A N γ (.agg zs) (.agg ws) → partD ag n f.offset zs = some z → ∃ u, (part f.type ws f.offset).run P w = .ok u w ∧ Rep w A N γ z u := by
            intro zs ws z hz hp
            cases hz with
            | agg _ _ q1 q2 q3 =>
              obtain ⟨v, r1, r2, _⟩ := part_rep hp q1 (fun i d u hd hu => ⟨q2 i d u hd hu, q3 i u hu⟩)
              refine ⟨v, run_part hag hn ?_, r1⟩
              cases ag with
              | true => simp at r2; simp [r2.1]
              | false => simp at r2; simpa using r2.1
          obtain ⟨u, p1, p2⟩ := part1 hx hpx
          obtain ⟨v, p3, p4⟩ := part1 hy hpy
          have h1 := heq _ _ _ _ _ _ he p2 p4
          have h2 := aeqFs_ok heq hx hy fs r2 hr
          simp only [Op.eqFields, ne_eq, hname, not_false_eq_true, if_true, Sem.run_bind, p1, p3, h1, Result.andThen_ok]
          cases r1
          · simp
          · simp [h2]

theorem aeq_ok {P : Program} {w : World} {A N γ} : ∀ (d k : Nat) (t : TypeId) (x y : D) (r : Bool) (u v : Value), aeq P d t x y = some r → Rep w A N γ x u → Rep w A N γ y v → (Op.equalIn (d + k) t u v).run P w = .ok r w
  | 0, _, _, _, _, _, _, _, h, _, _ => by cases h
  | d + 1, k, t, x, y, r, u, v, h, hx, hy => by
    unfold aeq at h
    rw [show d + 1 + k = (d + k) + 1 by omega]
    split at h
    · rename_i k0 hu
      split at h
      · split at h
        · rename_i hk
          injection h with h; subst h; subst hk
          cases hx; cases hy
          exact run_equalIn_int w _ t _ _ _ _ hu
        · cases h
      · cases h
    · rename_i hu
      split at h
      · injection h with h; subst h
        cases hx; cases hy
        exact run_equalIn_bool' w _ t _ _ hu
      · cases h
    · rename_i fs hu
      split at h
      · split at h
        · cases h
        · rename_i hst
          cases hx with
          | agg _ us a1 a2 a3 =>
          cases hy with
          | agg _ vs b1 b2 b3 =>
            have hf : P.fieldsOf t = fs := by unfold Program.fieldsOf; rw [hu]
            rw [run_equalIn_struct w (d + k) t us vs (by rw [hf]; exact hu) (by simpa using hst), hf]
            exact aeqFs_ok (fun t x y r u v h hx hy => aeq_ok d k t x y r u v h hx hy) (.agg _ _ a1 a2 a3) (.agg _ _ b1 b2 b3) _ _ h
      · cases h
    · cases h

theorem abin_ok {P : Program} {w : World} {A N γ} {op : BinOp} {a b d : D} {u v : Value} {t : TypeId} {x y : Operand} (h : abin (tyBool P t) op a b = some d) (ha : Rep w A N γ a u) (hb : Rep w A N γ b v) :
    ∃ z, (do eqGuard op t x y u v; binOp op t u v : Sem Value).run P w = .ok z w ∧ Rep w A N γ d z := by
  have ints : ∀ {k : IntKind} {p q : Int}, ibin op k p q = some d → ∃ z, (do eqGuard op t x y (.int k p) (.int k q); binOp op t (.int k p) (.int k q) : Sem Value).run P w = .ok z w ∧ Rep w A N γ d z := by
    intro k p q h
    have hg : (eqGuard op t x y (.int k p) (.int k q)).run P w = .ok () w := by rw [eqGuard_at_int]; rfl
    simp only [Sem.run_bind, hg, Result.andThen_ok]
    cases op <;> simp [ibin] at h
    case quo => obtain ⟨h0, rfl⟩ := h; exact ⟨_, by simp [binOp_quo, Op.intDiv, h0], .int _ _⟩
    case rem => obtain ⟨h0, rfl⟩ := h; exact ⟨_, by simp [binOp_rem, Op.intDiv, h0], .int _ _⟩
    case add => subst h; exact ⟨_, by simp [binOp_add, Op.intArith], .int _ _⟩
    case sub => subst h; exact ⟨_, by simp [binOp_sub, Op.intArith], .int _ _⟩
    case mul => subst h; exact ⟨_, by simp [binOp_mul, Op.intArith], .int _ _⟩
    case and => subst h; exact ⟨_, by rw [binOp_and, intBits_and]; rfl, .int _ _⟩
    case or => subst h; exact ⟨_, by rw [binOp_or, intBits_or]; rfl, .int _ _⟩
    case xor => subst h; exact ⟨_, by rw [binOp_xor, intBits_xor]; rfl, .int _ _⟩
    case andNot => subst h; exact ⟨_, by rw [binOp_andNot, intBits_andNot]; rfl, .int _ _⟩
    case eql => subst h; exact ⟨_, by rw [binOp_eql]; rfl, .bool _⟩
    case neq => subst h; exact ⟨_, by rw [binOp_neq]; rfl, .bool _⟩
    case lss => subst h; exact ⟨_, by rw [binOp_lss]; rfl, .bool _⟩
    case leq => subst h; exact ⟨_, by rw [binOp_leq]; rfl, .bool _⟩
    case gtr => subst h; exact ⟨_, by rw [binOp_gtr]; rfl, .bool _⟩
    case geq => subst h; exact ⟨_, by rw [binOp_geq]; rfl, .bool _⟩
  have shifts : ∀ {k k' : IntKind} {p q : Int}, ishift op k p q = some d → (op = .shl ∨ op = .shr) → ∃ z, (do eqGuard op t x y (.int k p) (.int k' q); binOp op t (.int k p) (.int k' q) : Sem Value).run P w = .ok z w ∧ Rep w A N γ d z := by
    intro k k' p q h hop
    have hg : (eqGuard op t x y (.int k p) (.int k' q)).run P w = .ok () w := by rw [eqGuard_at_int]; rfl
    simp only [Sem.run_bind, hg, Result.andThen_ok]
    unfold ishift at h
    split at h
    · cases h
    · rename_i hq
      rcases hop with rfl | rfl
      · simp at h; subst h; exact ⟨_, by simp [binOp_shl, Op.shift, hq], .int _ _⟩
      · simp at h; subst h; exact ⟨_, by simp [binOp_shr, Op.shift, hq], .int _ _⟩
  have bools : ∀ {p q : Bool}, (op = .eql ∧ d = .bool (p == q)) ∨ (op = .neq ∧ d = .bool (p != q)) → P.underlying t = some .bool → ∃ z, (do eqGuard op t x y (.bool p) (.bool q); binOp op t (.bool p) (.bool q) : Sem Value).run P w = .ok z w ∧ Rep w A N γ d z := by
    intro p q h ht
    have hg : (eqGuard op t x y (.bool p) (.bool q)).run P w = .ok () w := by rw [eqGuard_at_bool]; rfl
    simp only [Sem.run_bind, hg, Result.andThen_ok]
    have he : (Op.equal t (.bool p) (.bool q)).run P w = .ok (p == q) w := run_equalIn_bool' w 9999 t p q ht
    rcases h with ⟨rfl, rfl⟩ | ⟨rfl, rfl⟩
    · exact ⟨.bool (p == q), by simp [binOp, he], .bool _⟩
    · exact ⟨.bool (p != q), by simp [binOp, he, bne], .bool _⟩
  have ht : tyBool P t = true → P.underlying t = some .bool := by
    intro h; unfold tyBool at h; split at h <;> simp_all
  unfold abin at h
  split at h
  · cases ha; cases hb; exact shifts h (.inl rfl)
  · cases ha; cases hb; exact shifts h (.inr rfl)
  · split at h
    · rename_i hk
      subst hk
      cases ha; cases hb; exact ints h
    · cases h
  · split at h
    · rename_i hb'
      injection h with h; subst h
      cases ha; cases hb; exact bools (.inl ⟨rfl, rfl⟩) (ht hb')
    · cases h
  · split at h
    · rename_i hb'
      injection h with h; subst h
      cases ha; cases hb; exact bools (.inr ⟨rfl, rfl⟩) (ht hb')
    · cases h
  · cases h

end Wf

/-
  An operation, whole.
-/
namespace Wf
open Go Go.RowKit

section
variable (P : Program) (c : Ctx) (N : Nat) (w0 : World) (O0 : Nat → Prop) (L : Loc) (w : World)
def OpOk (o : Oper) (ρ : Operand → Value) (out : Out) : Prop :=
  (∃ u w', (execOp ρ o).run P w = .ok (.value u) w' ∧ Did c N w0 O0 L w out u w') ∨ (∃ w', (execOp ρ o).run P w = .ok .skip w' ∧ Did c N w0 O0 L w out undef w') ∨
  ∃ f args, (execOp ρ o).run P w = .ok (.enter f args) w ∧ Calls P f args w fun e w' => ∃ v, e = .returned v ∧ Did c N w0 O0 L w out v w'
end

section
variable {P : Program} {c : Ctx} {N : Nat} {w0 : World} {O0 : Nat → Prop} {L Lr : Loc} {w : World}

theorem next_value {s : Sem Value} {u : Value} {w' : World} (h : s.run P w = .ok u w') : (do pure (Next.value (← s)) : Sem Next).run P w = .ok (.value u) w' := by
  simp only [Sem.run_bind, h, Result.andThen_ok, Sem.run_pure]
theorem next_skip {s : Sem Unit} {w' : World} (h : s.run P w = .ok () w') : (do s; pure Next.skip : Sem Next).run P w = .ok .skip w' := by
  simp only [Sem.run_bind, h, Result.andThen_ok, Sem.run_pure]

theorem out_some {v : Option V} {o : Out} (h : out v = some o) : ∃ x, v = some x ∧ o = { v := x } := by
  unfold out at h
  cases v with
  | none => cases h
  | some x => injection h with h; exact ⟨x, rfl, h.symm⟩

theorem giveL_pure {nw : List Nat} {L : Loc} : ∀ {vs : List V} {ds : List D}, vs.mapM (lend nw L) = some ds → giveL nw L [] vs = some (ds, [], [])
  | [], ds, h => by simp at h; subst h; rfl
  | v :: vs, ds, h => by
    simp only [List.mapM_cons] at h
    cases h1 : lend nw L v with
    | none => rw [h1] at h; cases h
    | some d =>
      rw [h1] at h
      cases h2 : vs.mapM (lend nw L) with
      | none => rw [h2] at h; cases h
      | some r =>
        rw [h2] at h
        injection h with h; subst h
        simp [giveL, give1, h1, giveL_pure h2]
theorem giveOk_pure {L : Loc} : ∀ {vs bef : List V}, giveOk L [] bef vs = true
  | [], _ => rfl
  | v :: vs, bef => by simp [giveOk, giveOk_pure (vs := vs)]
theorem no_tabs {γ : Nat → Nat → Option Nat} {ρ : Nat → Nat → Nat → Option Nat} {O R : Nat → Prop} {w : World} : TabRel (tabsLoc [] []) (ctxOf γ ρ O) R w := by
  have h : ∀ k x, tabOf (tabsLoc [] []) k ≠ some x := fun k x => by simp [tabOf, tabsLoc]
  refine ⟨fun k wr T i cs h1 => absurd h1 (h _ _), fun k wr T i b h1 => absurd h1 (h _ _), fun k i q k' i' q' b h1 => ?_, fun k T i q b h1 => absurd h1 (h _ _), fun k T i q b h1 => absurd h1 (h _ _)⟩
  obtain ⟨wr, T, h1⟩ := h1.tab
  exact absurd h1 (h _ _)

theorem acall_ok {Γ : Env} (hΓ : ∀ f sp, Γ f = some sp → Sound P f sp) (hm : Mem c N w0 O0 L w) (hs : Sees Lr L) {t : Nat} (hLr : ∀ i, i ≤ 4 → Lr (t + 1000 * i) = L (t + 1000 * i))
    {f : V} {args : List V} {fu : Value} {us : Array Value} {o : Out} (ht0 : t < 90000) (ha : acall Γ Lr t f args = some o) (hf : Val c L w N f fu)
    (hv : Vals c L w N args us.toList) (hLt : ∀ q a b pms szs ks F, acallee f = some (q, a, b) → Γ q = some (.st pms szs ks F) → ∀ x ∈ ks, Lr (tb x.1) = L (tb x.1)) :
    ∃ k as, (do let d ← Deferred.ofValue fu us; invoke d.target d.args : Sem Next).run P w = .ok (.enter k as) w ∧ Calls P k as w fun e w' => ∃ v, e = .returned v ∧ Did c N w0 O0 L w o v w' := by
  unfold acall at ha
  cases hc : acallee f with
  | none => rw [hc] at ha; cases ha
  | some p =>
  obtain ⟨k, fa, fb⟩ := p
  rw [hc] at ha
  dsimp only at ha
  -- the function's value
  have hfu : ∃ va vb : Array Value, fu = .func (.func k) va vb ∧ Vals c L w N fa va.toList ∧ Vals c L w N fb vb.toList := by
    cases f with
    | clo k' a b =>
      injection hc with hc; injection hc with h1 h2; injection h2 with h2 h3
      subst h1; subst h2; subst h3
      cases hf with
      | clo _ _ _ va vb k1 k2 k3 k4 => exact ⟨va, vb, rfl, ⟨by simpa using k1, fun i v u h1 h2 => k3 i v u h1 (by simpa using h2)⟩, ⟨by simpa using k2, fun i v u h1 h2 => k4 i v u h1 (by simpa using h2)⟩⟩
    | d x =>
      cases x with
      | fn k' a b =>
        injection hc with hc; injection hc with h1 h2; injection h2 with h2 h3
        subst h1; subst h2; subst h3
        have hr := hf.dat
        cases hr with
        | fn _ _ _ va vb k1 k2 k3 k4 =>
          refine ⟨va, vb, rfl, ⟨by simpa using k1, fun i v u h1 h2 => ?_⟩, ⟨by simpa using k2, fun i v u h1 h2 => ?_⟩⟩
          · rw [List.getElem?_map] at h1
            cases hd : a[i]? with
            | none => rw [hd] at h1; cases h1
            | some d => rw [hd] at h1; injection h1 with h1; subst h1; exact .d _ _ (k3 i d u hd (by simpa using h2))
          · rw [List.getElem?_map] at h1
            cases hd : b[i]? with
            | none => rw [hd] at h1; cases h1
            | some d => rw [hd] at h1; injection h1 with h1; subst h1; exact .d _ _ (k4 i d u hd (by simpa using h2))
      | _ => cases hc
    | _ => cases hc
  obtain ⟨va, vb, rfl, hva, hvb⟩ := hfu
  cases hg : Γ k with
  | none => rw [hg] at ha; cases ha
  | some sp =>
  rw [hg] at ha
  have hsound := hΓ k sp hg
  -- the arguments
  have hvals : Vals c L w N (fa ++ args ++ fb) (va.toList ++ us.toList ++ vb.toList) := by
    have app : ∀ {a b : List V} {x y : List Value}, Vals c L w N a x → Vals c L w N b y → Vals c L w N (a ++ b) (x ++ y) := by
      intro a b x y h k
      refine ⟨by simp [h.1, k.1], fun i v u h1 h2 => ?_⟩
      by_cases hi : i < a.length
      · rw [List.getElem?_append_left hi] at h1
        rw [List.getElem?_append_left (by rw [h.1]; exact hi)] at h2
        exact h.2 i v u h1 h2
      · rw [List.getElem?_append_right (by omega)] at h1
        rw [List.getElem?_append_right (by rw [h.1]; omega), h.1] at h2
        exact k.2 _ v u h1 h2
    exact app (app hva hv) hvb
  have hrun : ∀ fn, P.funcs[k]? = some fn → (fn.name == "runtime.NumGoroutine") = false → fn.body.isNone = false →
      (do let d ← Deferred.ofValue (.func (.func k) va vb) us; invoke d.target d.args : Sem Next).run P w = .ok (.enter k (va ++ us ++ vb)) w := by
    intro fn h1 h2 h3
    have hn : ¬ fn.name = "runtime.NumGoroutine" := by simpa using h2
    have hb : ¬ fn.body = none := by intro h; rw [h] at h3; cases h3
    simp [Deferred.ofValue, invoke, callFunc, h1, hn, hb]
  have harr : (va.toList ++ us.toList ++ vb.toList).toArray = va ++ us ++ vb := by
    apply Array.ext'; simp
  have hlenA : ∀ {nw pms ds ms kl}, giveL nw Lr pms (fa ++ args ++ fb) = some (ds, ms, kl) → (∀ k, k ∈ nw → ∃ T, tabOf L k = some (true, T)) → giveOk Lr pms [] (fa ++ args ++ fb) = true → _ := fun h1 h2 h3 => give_ok hm hs h1 h3 hvals h2
  cases sp with
  | pure szs F =>
    dsimp only at ha
    obtain ⟨⟨fn, f1, f2, f3⟩, hsd⟩ := hsound
    cases hl : (fa ++ args ++ fb).mapM (lend [] Lr) with
    | none => rw [hl] at ha; cases ha
    | some ds =>
    rw [hl] at ha
    simp only [Option.bind_some] at ha
    cases hF : F ds with
    | none => rw [hF] at ha; cases ha
    | some r =>
    rw [hF] at ha
    simp only [Option.bind_some] at ha
    cases had : adopt Lr t szs r with
    | none => rw [had] at ha; cases ha
    | some p =>
    obtain ⟨vv, wr⟩ := p
    rw [had] at ha
    injection ha with ha; subst ha
    refine ⟨k, _, hrun fn f1 f2 f3, ?_⟩
    have hgl := giveL_pure hl
    obtain ⟨_, _, hargs1, hargs2⟩ := hlenA hgl (by simp) giveOk_pure
    have hno : ∀ b, ¬ (Ows c L (· ∈ ([] : List Nat)) b ∨ Gv (gvOf c [] (fa ++ args ++ fb)) b) := by
      rintro b (⟨_, _, _, h, _⟩ | ⟨i, h⟩)
      · cases h
      · unfold gvOf at h; rw [pmAt_nil] at h; simp at h
    have hcall := hsd ds r hF w c.γ (va.toList ++ us.toList ++ vb.toList) ⟨hargs1, fun i d u hd hu => (((hargs2 i d u hd hu).1 (by rw [pmAt_nil])).2).out (fun b h => h.elim) (Nat.le_refl _)⟩
    rw [harr] at hcall
    refine hcall.mono fun e w' ⟨v, he, hk, hr⟩ => ⟨v, he, ?_⟩
    have hturn : Turned w w' c.γ c.γ c.ρ c.ρ (Ows c L (· ∈ ksW [])) (fun _ => False) [] (gvOf c [] (fa ++ args ++ fb)) [] ds [] (newTabs [] [] []) [] szs r v := by
      refine ⟨fun _ _ _ h => h, fun _ _ => ⟨rfl, rfl⟩, no_tabs, fun b h => h.elim, ⟨hk.os, hk.tape, hk.output, hk.size, fun b hb _ => hk.block b hb (fun h => h), hk.cells⟩, fun i sz els els' h => ?_, ?_⟩
      · rw [pmAt_nil] at h; cases h
      · have e : (fun b => (b < w.heap.size ∧ ¬ OwnG [] (gvOf c [] (fa ++ args ++ fb)) b) ∨ False) = fun b => b < w.heap.size := by
          funext b; apply propext
          refine ⟨fun h => ?_, fun h => .inl ⟨h, fun ⟨i, h1, _⟩ => ?_⟩⟩
          · rcases h with h | h
            · exact h.1
            · exact h.elim
          · rw [pmAt_nil] at h1; cases h1
        rw [e]; exact hr
    have := turn_ok hm hs (ks := []) (tbs := []) (wo := []) hgl giveOk_pure hvals rfl (by simp) rfl rfl ht0 had hLr (by simp [ksW]) hturn
    simpa [wrTabs] using this
  | st pms szs ks F =>
    dsimp only at ha
    obtain ⟨⟨fn, f1, f2, f3⟩, hsd⟩ := hsound
    cases hgl : giveL (ksW ks) Lr pms (fa ++ args ++ fb) with
    | none => rw [hgl] at ha; cases ha
    | some x =>
    obtain ⟨ds, ms, kl⟩ := x
    cases hT : tabsOf Lr ks with
    | none => rw [hgl, hT] at ha; cases ha
    | some Ts =>
    rw [hgl, hT] at ha
    dsimp only at ha
    split at ha
    rotate_left
    · cases ha
    rename_i hc
    obtain ⟨hok, hnd⟩ := hc
    cases hF : F ds Ts with
    | none => rw [hF] at ha; cases ha
    | some a =>
    rw [hF] at ha
    simp only [Option.bind_some] at ha
    cases hwo : wrOuts ms a.outs with
    | none => rw [hwo] at ha; cases ha
    | some wo =>
    rw [hwo] at ha
    simp only [Option.bind_some] at ha
    split at ha
    rotate_left
    · cases ha
    rename_i htl
    cases had : adopt Lr t szs a.r with
    | none => rw [had] at ha; cases ha
    | some p =>
    obtain ⟨vv, wr⟩ := p
    rw [had] at ha
    injection ha with ha; subst ha
    refine ⟨k, _, hrun fn f1 f2 f3, ?_⟩
    obtain ⟨t1, t2⟩ := tabsOf_spec hT
    have hTL : ∀ (j k : Nat) (wr : Bool) (T : Tb), ks[j]? = some (k, wr) → Ts[j]? = some T → ∃ wr0, tabOf L k = some (wr0, T) ∧ (wr = true → wr0 = true) := fun j k wr T h1 h2 => by
      obtain ⟨wr0, h3, h4⟩ := t2 j k wr T h1 h2
      exact ⟨wr0, (hs.tab h3).1, h4⟩
    have hW : ∀ k, k ∈ ksW ks → ∃ T, tabOf L k = some (true, T) := fun k hk => by
      obtain ⟨j, hj, e⟩ := List.mem_iff_getElem.1 (mem_ksW.1 hk)
      obtain ⟨wr0, h3, h4⟩ := hTL j k true (Ts[j]'(by omega)) (by rw [← e]; simp) (by simp)
      rw [h4 rfl] at h3
      exact ⟨_, h3⟩
    obtain ⟨g1, g2, g3⟩ := hlenA hgl hW hok
    have hGl : ∀ b, Gv (gvOf c pms (fa ++ args ++ fb)) b → ∃ g, c.ι g = some b ∧ (L g).2 ≠ .dead := fun b h => by
      obtain ⟨i, g, n, len, els, a1, a2, a3, a4, a5, a6, a7⟩ := g1 b h
      exact ⟨g, a4, by rw [(get_at a6 (by simp)).2]; simp⟩
    have hin := call_in (Gb := Gv (gvOf c pms (fa ++ args ++ fb))) (LT := tabsLoc ks Ts) hm (W := (· ∈ ksW ks)) hW (fun q wr T h => by
      obtain ⟨j, h1, h2⟩ := tabsLoc_spec h
      obtain ⟨wr0, h3, h4⟩ := hTL j q wr T h1 h2
      refine ⟨⟨wr0, h3⟩, fun e => mem_ksW.2 (by rw [← e]; exact List.mem_of_getElem? h1), fun hq => ?_⟩
      obtain ⟨j', hj', e⟩ := List.mem_iff_getElem.1 (mem_ksW.1 hq)
      have := tabsLoc_at (wr := true) (T := Ts[j']'(by omega)) hnd (j := j') (k := q) (by rw [← e]; exact List.getElem?_eq_getElem hj') (List.getElem?_eq_getElem (by omega))
      rw [h] at this
      injection this with this; injection this) hGl
    have hcall := hsd ds Ts a hF t1 w c.γ c.ρ (Ows c L (· ∈ ksW ks)) (gvOf c pms (fa ++ args ++ fb)) (va.toList ++ us.toList ++ vb.toList) hin (fun b h => ⟨(hm.osub b (h.sub hm hW)).1, by
        obtain ⟨q, i, o, p1, p2, p3⟩ := h
        refine ⟨q, i, o, p1, p2.of fun wr T e => ?_, by cases o <;> exact p3⟩
        obtain ⟨j, hj, ej⟩ := List.mem_iff_getElem.1 (mem_ksW.1 p1)
        obtain ⟨wr0, h3, h4⟩ := hTL j q true (Ts[j]'(by omega)) (by rw [← ej]; exact List.getElem?_eq_getElem hj) (List.getElem?_eq_getElem (by omega))
        rw [e] at h3; injection h3 with h3; injection h3 with _ h3
        exact ⟨true, by rw [h3]; exact tabsLoc_at hnd (j := j) (by rw [← ej]; exact List.getElem?_eq_getElem hj) (List.getElem?_eq_getElem (by omega))⟩⟩)
      (fun i b h => by
        obtain ⟨g, h1, h2⟩ := hGl b ⟨i, h⟩
        obtain ⟨a1, a2, a3⟩ := hm.mine g b h1 h2
        exact ⟨a2, fun h => a3 (h.sub hm hW)⟩) g2 (fun i hi => by
        have hl := (giveL_spec hgl).1
        unfold gvOf
        rw [List.getElem?_eq_none (by omega)]
        split <;> rfl) g3
    rw [harr] at hcall
    refine hcall.mono fun e w' ⟨v, γ', ρ', O', he, hturn⟩ => ⟨v, he, ?_⟩
    exact turn_ok hm hs hgl hok hvals hT hnd hwo htl ht0 had hLr (fun q hq => hLt k fa fb pms szs ks F hc hg (q, true) (mem_ksW.1 hq)) hturn

end
end Wf

/-
  Is it nil?
-/
namespace Wf
open Go Go.RowKit

section
variable {P : Program} {c : Ctx} {N : Nat} {w0 : World} {O0 : Nat → Prop} {L Lr : Loc} {w : World}

theorem Val.unp {v : V} {u : Value} (h : Val c L w N v u) : Val c L w N v.unp u := by
  cases v with
  | p k x => cases h with
    | p _ _ _ hr => exact .d _ _ hr
  | _ => exact h

theorem equalIn_of {ty : TypeId} {a b : Value} {r : Bool} (h : ∀ d, (Op.equalIn (d + 1) ty a b).run P w = .ok r w) : (Op.equal ty a b).run P w = .ok r w := h 9999

/-- Values that are compared with nil. -/
inductive NilAs : Nat → Value → Bool → Prop
  | ptr0 : NilAs 0 (.pointer none) true
  | ptr1 (a) : NilAs 0 (.pointer (some a)) false
  | map0 : NilAs 1 (.map none) true
  | map1 (b) : NilAs 1 (.map (some b)) false
  | fn0 : NilAs 2 .nilFunc true
  | fn1 (f a b) : NilAs 2 (.func f a b) false
  | sl0 (n k) : NilAs 3 (.slice none n k) true
  | sl1 (a n k) : NilAs 3 (.slice (some a) n k) false

theorem nil_run {ty : TypeId} {k : Nat} {a b : Value} {r : Bool} (hk : nilKind P ty = some k) (ha : NilAs k a r) (hb : NilAs k b true) :
    (∀ x y, (do eqGuard .eql ty x y a b; binOp .eql ty a b : Sem Value).run P w = .ok (.bool r) w) ∧
    ∀ x y, (do eqGuard .neq ty x y a b; binOp .neq ty a b : Sem Value).run P w = .ok (.bool !r) w := by
  have he : (Op.equal ty a b).run P w = .ok r w := by
    refine equalIn_of fun d => ?_
    unfold nilKind at hk
    split at hk <;> first | (injection hk with hk; subst hk) | cases hk
    all_goals (rename_i hu; unfold Op.equalIn)
    · cases hb
      cases ha <;> simp [ty_und hu]
    · cases hb
      cases ha <;> simp [ty_und hu]
    · cases hb
      cases ha <;> simp [ty_und hu]
    · cases hb
      cases ha <;> simp [ty_und hu]
  constructor <;> intro x y
  · cases ha <;> cases hb <;> simp [eqGuard, binOp, he]
  · cases ha <;> cases hb <;> simp [eqGuard, binOp, he]

theorem nilConst_val {k : Nat} {b : V} {u : Value} (hb : nilConst k b = true) (hv : Val c L w N b u) : NilAs k u true := by
  unfold nilConst at hb
  split at hb
  · simp at hb; subst hb
    have := hv.dat; cases this; exact .ptr0
  · simp at hb; subst hb
    have := hv.dat; cases this; exact .map0
  · simp at hb; subst hb
    have := hv.dat; cases this; exact .fn0
  · simp at hb; subst hb
    have := hv.dat
    cases this with
    | slE _ a cap h1 h2 h3 => obtain ⟨rfl, rfl⟩ := h2 rfl; exact .sl0 _ _
    | sl _ _ _ _ _ _ _ h => exact absurd rfl h
  · cases hb

theorem isNil_val (hs : Sees Lr L) {k : Nat} {a : V} {u : Value} {r : Bool} (ha : isNil Lr k a = some r) (hk : k ≤ 3) (hv : Val c L w N a u) : NilAs k u r := by
  unfold isNil at ha
  split at ha
  · rename_i hk0; subst hk0
    split at ha
    · injection ha with ha; subst ha; have := hv.dat; cases this; exact .ptr0
    · injection ha with ha; subst ha
      cases hv with
      | p _ _ _ hr => cases hr; exact .ptr0
    · injection ha with ha; subst ha; have := hv.dat; cases this; exact .ptr1 _
    · injection ha with ha; subst ha; have := hv.dat; cases this; exact .ptr1 _
    · injection ha with ha; subst ha
      cases hv with
      | p _ _ _ hr => cases hr; exact .ptr1 _
    · injection ha with ha; subst ha
      cases hv with
      | p _ _ _ hr => cases hr; exact .ptr1 _
    · rename_i g n o
      split at ha
      · rename_i hok
        injection ha with ha; subst ha
        have hd := ((okPtr_ptr hs hok).1 g n o rfl).2
        cases hv with
        | ptr _ _ _ _ k1 k2 => obtain ⟨b, _, rfl⟩ := k2 hd; exact .ptr1 _
      · cases ha
    · cases ha
  split at ha
  · rename_i hk0; subst hk0
    split at ha
    · injection ha with ha; subst ha; have := hv.dat; cases this; exact .map0
    · injection ha with ha; subst ha; have := hv.dat; cases this; exact .map1 _
    · rename_i g n
      split at ha
      · rename_i hok
        injection ha with ha; subst ha
        simp only [okRef, esOf] at hok
        have hg := hs g n
        cases hx : Lr.get g n <;> rw [hx] at hok hg <;> simp at hok
        cases hv with
        | map _ _ _ k1 k2 => obtain ⟨b, _, rfl⟩ := k2 (by rw [hg (by simp)]; simp); exact .map1 _
      · cases ha
    · rename_i k n i o
      split at ha
      · rename_i hok
        injection ha with ha; subst ha
        simp only [okRef, esOf] at hok
        cases hx : mapOf Lr k n i o with
        | none => rw [hx] at hok; simp at hok
        | some l =>
          cases hv with
          | vmap _ _ _ _ _ k1 k2 => obtain ⟨b, _, rfl⟩ := k2 _ (hs.mapRow hx); exact .map1 _
      · cases ha
    · cases ha
  split at ha
  · rename_i hk0; subst hk0
    split at ha
    · injection ha with ha; subst ha; have := hv.dat; cases this; exact .fn0
    · injection ha with ha; subst ha; have := hv.dat; cases this; exact .fn1 _ _ _
    · injection ha with ha; subst ha; cases hv; exact .fn1 _ _ _
    · cases ha
  · have h3 : k = 3 := by omega
    subst h3
    split at ha
    · split at ha
      · split at ha
        · rename_i ht
          subst ht
          injection ha with ha; subst ha
          have := hv.dat
          cases this with
          | slE _ a cap h1 h2 h3 => obtain ⟨rfl, rfl⟩ := h2 rfl; exact .sl0 _ _
          | sl _ _ _ _ _ _ _ h => exact absurd rfl h
        · split at ha
          · rename_i ht
            subst ht
            injection ha with ha; subst ha
            have := hv.dat
            cases this with
            | slE _ a cap h1 h2 h3 => cases a with
              | none => exact absurd rfl (h3.1 rfl)
              | some a => exact .sl1 _ _ _
            | sl _ _ _ _ _ _ _ h => exact absurd rfl (by assumption)
          · split at ha
            · rename_i ht
              subst ht
              injection ha with ha; subst ha
              have := hv.dat
              cases this with
              | slE _ a cap h1 h2 h3 => cases a with
                | none => exact .sl0 _ _
                | some a => exact absurd (h3.2 rfl) (by simp)
              | sl _ _ _ _ _ _ _ h => exact absurd rfl (by assumption)
            · cases ha
      · injection ha with ha; subst ha
        have := hv.dat
        cases this with
        | sl => exact .sl1 _ _ _
    · rename_i g n off len
      split at ha
      · rename_i hok
        obtain ⟨hok, hlen⟩ := hok
        injection ha with ha; subst ha
        simp only [okRef] at hok
        have hg := hs g n
        have fin : ∀ {β sz}, SlAt w β sz off len u → NilAs 3 u false := by
          rintro β sz ⟨a, cap, rfl, h1, h2⟩
          rcases h2 with h2 | ⟨b, x, T, fz, _, rfl, _⟩
          · omega
          · exact .sl1 _ _ _
        cases hv with
        | ref _ _ _ _ _ k1 k2 k3 =>
          cases hx : Lr.get g n <;> rw [hx] at hok hg <;> simp at hok
          · exact fin (k2 _ _ _ (hg (by simp))).2
          · exact fin (k3 _ _ (hg (by simp))).2
      · cases ha
    · rename_i k n i o lo len
      split at ha
      · rename_i hok
        obtain ⟨hok, hlen⟩ := hok
        injection ha with ha; subst ha
        simp only [okRef, elsOf] at hok
        cases hx : rowOf Lr k n i o with
        | none => rw [hx] at hok; simp at hok
        | some l =>
          cases hv with
          | vref _ _ _ _ _ _ _ k1 k2 =>
            obtain ⟨_, a, cap, rfl, h1, h2⟩ := k2 _ (hs.row hx)
            rcases h2 with h2 | ⟨b, x, T, fz, _, rfl, _⟩
            · omega
            · exact .sl1 _ _ _
      · cases ha
    · cases ha

theorem nilKind_le {ty : TypeId} {k : Nat} (h : nilKind P ty = some k) : k ≤ 3 := by
  unfold nilKind at h
  split at h <;> first | (injection h with h; omega) | cases h

end
end Wf

/-
  All operations of the machine, one by one.
-/
namespace Wf
open Go Go.RowKit

section
variable {P : Program} {c : Ctx} {N : Nat} {w0 : World} {O0 : Nat → Prop} {L Lr : Loc} {w : World}

theorem OpOk.value {o : Oper} {ρ : Operand → Value} {out : Out} {u : Value} {w' : World} (h : (execOp ρ o).run P w = .ok (.value u) w') (hd : Did c N w0 O0 L w out u w') :
    OpOk P c N w0 O0 L w o ρ out := .inl ⟨u, w', h, hd⟩
theorem OpOk.skip {o : Oper} {ρ : Operand → Value} {out : Out} {w' : World} (h : (execOp ρ o).run P w = .ok .skip w') (hd : Did c N w0 O0 L w out undef w') :
    OpOk P c N w0 O0 L w o ρ out := .inr (.inl ⟨w', h, hd⟩)

theorem run_newVar {t : TypeId} {v : Value} : (newVar t v).run P w = .ok ⟨w.heap.size, 0, none⟩ (w.alloc (.cells v.cells t)) := by
  simp only [newVar, newRow, Sem.run_bind, Sem.run_pure, Result.andThen_ok, run_newObj, World.alloc_eq]

theorem CellsRep.of_agg {A : Nat → Prop} {γ} {cs : List D} {u : Value} (h : Rep w A N γ (.agg cs) u) : CellsRep w A N γ cs u.cells := by
  cases h with
  | agg _ vs h1 h2 h3 =>
    exact ⟨h1, fun i d v hd hv => ⟨h2 i d v hd hv, h3 i v hv⟩⟩

theorem CellsRep.of_cell {A : Nat → Prop} {γ} {x : D} {u : Value} (h : Rep w A N γ x u) (hx : x.cell = true) : CellsRep w A N γ [x] u.cells := by
  have h1 := h.cell hx
  rw [cells_of_one h1]
  refine ⟨rfl, fun i d v hd hv => ?_⟩
  cases i with
  | zero => simp at hd hv; subst hd; subst hv; exact ⟨h, h1⟩
  | succ i => simp at hd

theorem Vals.map {ρa : Operand → V} {ρ : Operand → Value} (hρ : ∀ x, Val c L w N (ρa x) (ρ x)) (l : List Operand) : Vals c L w N (l.map ρa) (l.map ρ) := by
  refine ⟨by simp, fun i v u h1 h2 => ?_⟩
  rw [List.getElem?_map] at h1 h2
  cases hx : l[i]? with
  | none => rw [hx] at h1; cases h1
  | some x => rw [hx] at h1 h2; injection h1 with h1; injection h2 with h2; subst h1; subst h2; exact hρ x

theorem CellsV.of_agg {ds : List D} {ks : List Nat} {vs : List V} {u : Value} (h : Val c L w N (.agg ds ks vs) u) : CellsV c L w N (ovs ks vs (ds.map .d)) u.cells := by
  cases h with
  | agg _ _ _ us h1 h2 h3 => exact ⟨by rw [ovs_len]; simpa [Value.cells] using h1, fun i v u hv hu => ⟨h2 i v u hv (by simpa [Value.cells] using hu), h3 i u (by simpa [Value.cells] using hu)⟩⟩
theorem CellsV.of_one {v : V} {u : Value} (h : Val c L w N v u) (h1 : u.oneCell' = true) : CellsV c L w N (ovs [0] [v] (([.undef] : List D).map .d)) u.cells := by
  rw [cells_of_one h1]
  refine ⟨rfl, fun i d y hd hv => ?_⟩
  cases i with
  | zero => simp [ovs] at hd hv; subst hd; subst hv; exact ⟨h, h1⟩
  | succ i => simp at hv

theorem vbPart_ok {ag : Bool} {n off : Nat} {ds : List D} {ks : List Nat} {vs : List V} {v : V} {us : Array Value} (h : vbPart ag n off ds ks vs = some v) (h1 : us.size = ds.length)
    (h2 : ∀ (i : Nat) (v : V) (u : Value), (ovs ks vs (ds.map .d))[i]? = some v → us[i]? = some u → Val c L w N v u) (h3 : ∀ (i : Nat) (u : Value), us[i]? = some u → u.oneCell' = true) :
    ∃ u, Val c L w N v u ∧ (if ag then u = .agg (us.extract off (off + n)) ∧ off + n ≤ us.size else us[off]? = some u) := by
  unfold vbPart at h
  cases ag with
  | true =>
    simp only [if_true] at h
    split at h
    · rename_i hle
      injection h with h; subst h
      refine ⟨_, Val.mk (vs := us.extract off (off + n)) (by simp; omega) (fun i v u hv hu => ?_) (fun i u hu => ?_), rfl, by omega⟩
      · obtain ⟨hu1, hi⟩ := extract_at hu
        refine h2 (off + i) v u ?_ hu1
        rw [ovs_get, ovGet_in] at hv
        rw [ovs_get]
        simp only [List.length_map, List.length_take, List.length_drop] at hv ⊢
        rw [if_pos (by omega)] at hv ⊢
        rw [if_pos hi] at hv
        cases hg : ovGet ks vs (off + i) with
        | some y => rw [hg] at hv; exact hv
        | none =>
          rw [hg] at hv
          simp only [List.getElem?_map] at hv ⊢
          rw [List.getElem?_take, if_pos hi, List.getElem?_drop] at hv
          exact hv
      · exact h3 _ u (extract_at hu).1
    · cases h
  | false =>
    simp only [Bool.false_eq_true, if_false] at h
    split at h
    · rename_i hlt
      have hu : us[off]? = some (us[off]'(by omega)) := by simp
      refine ⟨_, h2 off v _ ?_ hu, by simp⟩
      rw [ovs_get, if_pos (by simpa using hlt)]
      cases hg : ovGet ks vs off with
      | some y => rw [hg] at h; exact h
      | none => rw [hg] at h; simpa using h
    · cases h

theorem OptVal.map {ρa : Operand → V} {ρ : Operand → Value} (hρ : ∀ x, Val c L w N (ρa x) (ρ x)) (x : Option Operand) : OptVal c L w N (x.map ρa) (x.map ρ) := by
  cases x with
  | none => trivial
  | some x => exact hρ x

theorem okRef_unp {v : V} (h : okRef Lr v = true) : okRef Lr v.unp = true := by
  cases v <;> first | exact h | rfl

/-- Bytes, put together. -/
def pushAll (s : ByteArray) (l : List D) : ByteArray := l.foldl (fun s d => s.push (byteOf d)) s

theorem pushAll_eq : ∀ (l : List D) (s : ByteArray), (pushAll s l).data = s.data ++ (l.map byteOf).toArray
  | [], s => by simp [pushAll]
  | d :: l, s => by
    show (pushAll (s.push (byteOf d)) l).data = _
    rw [pushAll_eq l]
    simp [ByteArray.push]

theorem baOf_eq (l : List D) : pushAll ByteArray.empty l = baOf l := by
  have := pushAll_eq l ByteArray.empty
  unfold baOf
  rw [show pushAll ByteArray.empty l = ⟨(pushAll ByteArray.empty l).data⟩ from rfl, this]
  rw [show ByteArray.empty.data = #[] from rfl]
  simp

theorem bytes_loop {A : Nat → Prop} {γ : Nat → Nat → Option Nat} : ∀ (l : List D) (vs : List Value) (s : ByteArray), Reps w A N γ l vs → l.all isByte = true →
    (forIn vs s (fun c s => (match c with | .int .u8 n => pure (ForInStep.yield (s.push (UInt8.ofNat n.toNat))) | _ => do stuck "bytesToString: byte expected"; pure (ForInStep.yield s) : Sem (ForInStep ByteArray))) : Sem ByteArray).run P w = .ok (pushAll s l) w
  | [], vs, s, hr, _ => by
    have := hr.nil_inv; subst this
    simp [pushAll]
  | d :: l, vs, s, hr, hb => by
    obtain ⟨v, vs', rfl, h1, h2⟩ := hr.cons_inv
    simp only [List.all_cons, Bool.and_eq_true] at hb
    obtain ⟨hb1, hb2⟩ := hb
    cases d <;> simp [isByte] at hb1
    rename_i k n
    cases k <;> simp at hb1
    cases h1
    have := bytes_loop l vs' (s.push (UInt8.ofNat n.toNat)) h2 hb2
    simp only [List.forIn_cons, Sem.run_bind, Sem.run_pure, Result.andThen_ok]
    rw [this]; rfl

theorem bytes_run (hm : Mem c N w0 O0 L w) (hs : Sees Lr L) {src dst : TypeId} {v : V} {l : List D} {u : Value} (hl : elsOf Lr v = some l) (hv : Val c L w N v u) (hb : l.all isByte = true) (h1 : tyBytes P src = true) (h2 : tyStr P dst = true) :
    (convert src dst u).run P w = .ok (.string (baOf l)) w := by
  have hcell : l.all (fun d => d.cell) = true := by
    rw [List.all_eq_true] at hb ⊢
    intro d hd
    have := hb d hd
    cases d <;> simp_all [isByte, D.cell]
  have hdst : P.underlying dst = some .string := by
    unfold tyStr at h2
    split at h2
    · assumption
    · cases h2
  obtain ⟨e, hsrc, he⟩ : ∃ e, P.underlying src = some (.slice e) ∧ P.underlying e = some (.int .u8) := by
    unfold tyBytes at h1
    split at h1
    · rename_i e hu
      exact ⟨e, hu, tyInt_und (of_decide_eq_true h1).1⟩
    · cases h1
  have hso : srcOf P Lr src v = some l := by
    unfold srcOf
    have : tyStr P src = false := by unfold tyStr; rw [hsrc]
    split
    · rename_i s; cases hl
    · rw [this]; simpa using hl
  obtain ⟨_, nx, n1, n2, n3, n4⟩ := src_ok (P := P) hm hs hso hv hcell l.length (Nat.le_refl _)
  rw [List.take_length] at n3
  obtain ⟨a, cap, rfl, hc, hh⟩ := els_ok hm hs hl hv
  cases a with
  | none =>
    have : l = [] := by
      rcases hh with h | ⟨b, o, sz, vs, h, _⟩
      · exact h
      · cases h
    subst this
    simp [convert, ty_und hsrc, ty_und hdst, ty_und he, Conv.bytesToString, baOf]; rfl
  | some a =>
    simp only [Builtin.firstCells, Nat.mul_one] at n1
    have hloop := bytes_loop (P := P) (N := 0) (A := own c L) l nx.toList ByteArray.empty (by exact ⟨n3.1, fun i d v h1 h2 => (n3.2 i d v h1 h2).out (fun _ h => h) (Nat.zero_le _)⟩) hb
    simp only [convert, Sem.run_bind, ty_und hsrc, ty_und hdst, Result.andThen_ok, ty_und he, Conv.bytesToString, n1, Sem.run_pure]
    rw [← baOf_eq]
    rw [← Array.forIn_toList]
    exact congrArg (fun r => Result.andThen r fun a w' => Result.ok (Value.string a) w') hloop

/-- A slice of cells, seen as an array. -/
theorem sl_at {A : Nat → Prop} {N : Nat} {γ : Nat → Nat → Option Nat} {t : Tag} {l : List D} {u : Value} (h : Rep w A N γ (.sl t l) u) (hl : 0 < l.length) (hc : l.all D.cell = true) :
    ∃ b o cap, u = .slice (some ⟨b, o, none⟩) l.length cap ∧ Rep w A N γ (.at_ (.agg l)) (.pointer (some ⟨b, o, none⟩)) := by
  cases h with
  | slE _ a cap h1 h2 _ => simp at hl
  | sl _ _ b o sz cap vs h1 h2 h3 h4 h5 h6 h7 h8 h9 =>
    rw [List.all_eq_true] at hc
    have hcell : ∀ i (hi : i < l.length), (vs i).oneCell' = true := fun i hi => (h8 i _ (List.getElem?_eq_getElem hi)).cell (hc _ (List.getElem_mem hi))
    have hsz : sz = 1 := by
      have := (h9 0 hl).1
      rw [cells_of_one (hcell 0 hl)] at this
      simpa using this.symm
    subst hsz
    have hget : ∀ (j : Nat) (u : Value), ((List.range l.length).map vs).toArray[j]? = some u → j < l.length ∧ u = vs j := by
      intro j u h
      rw [List.getElem?_toArray, List.getElem?_map] at h
      by_cases hj : j < l.length
      · rw [List.getElem?_range hj] at h
        exact ⟨hj, (Option.some.inj h).symm⟩
      · rw [List.getElem?_eq_none (by simp; omega)] at h
        cases h
    refine ⟨b, o, cap, rfl, .at_ _ (.agg ((List.range l.length).map vs).toArray) b o h5 h7 (fun j u hu => ?_) (.agg _ _ (by simp) (fun i d v hd hv => ?_) (fun i v hv => ?_))⟩
    · obtain ⟨hj, rfl⟩ := hget j u hu
      have := (h9 j hj).2 0 (vs j) (by rw [cells_of_one (hcell j hj)]; rfl)
      simpa using this
    · obtain ⟨hj, rfl⟩ := hget i v hv
      exact h8 i d hd
    · obtain ⟨hj, rfl⟩ := hget i v hv
      exact hcell i hj

theorem aop0_ok {Γ : Env} (hΓ : ∀ f sp, Γ f = some sp → Sound P f sp) (hm : Mem c N w0 O0 L w) (hs : Sees Lr L) {o : Oper} {ρa : Operand → V} {ρ : Operand → Value}
    (hnew : makesL o.op ≠ 0 → Lr (o.dst.getD 0) = L (o.dst.getD 0)) (hcall : makesL o.op = 5 → ∀ i, i ≤ 4 → Lr (o.dst.getD 0 + 1000 * i) = L (o.dst.getD 0 + 1000 * i))
    (hd : o.dst.getD 0 < 90000) (hct : ∀ f args aty, o.op = .call ⟨.value f, args, aty⟩ → ∀ q a b pms szs ks F, acallee (ρa f) = some (q, a, b) → Γ q = some (.st pms szs ks F) → ∀ x ∈ ks, Lr (tb x.1) = L (tb x.1))
    {out : Out} (hρ : ∀ x, Val c L w N (ρa x) (ρ x)) (h : aop0 P Γ o ρa Lr = some out) : OpOk P c N w0 O0 L w o ρ out := by
  unfold aop0 at h
  dsimp only at h
  have hLn : makesL o.op ≠ 0 → Lr.new (o.dst.getD 0) = L.new (o.dst.getD 0) := fun hh => by unfold Loc.new; rw [hnew hh]
  have ht0 : o.dst.getD 0 < 100000 := Nat.lt_trans hd (by decide)
  cases hop : o.op <;> rw [hop] at h hnew hcall hLn hct
  case move x =>
    injection h with h; subst h
    exact .value (by simp [execOp, hop]) (Did.same hm (hρ x))
  case assign x =>
    injection h with h; subst h
    exact .value (by simp [execOp, hop]) (Did.same hm (hρ x))
  case pick x y z =>
    dsimp only at h
    split at h
    · rename_i b hb
      injection h with h; subst h
      have hv := hρ x; rw [hb] at hv
      have := hv.bool
      refine .value (u := if b then ρ y else ρ z) (by simp [execOp, hop, this, asBool]) (Did.same hm ?_)
      cases b
      · exact hρ z
      · exact hρ y
    · cases h
  case alloc e =>
    dsimp only at h
    split at h
    · rename_i cs hz
      obtain ⟨i, zv, z1, z2, z3⟩ := ty_zero hz
      have hr := (valD_cells z3).2.2 w (own c L) N c.γ
      injection h with h; subst h
      rw [hLn (by simp [makesL])]
      refine .value ?_ (new_box hm ht0 (a := true) (T := e) (CellsRep.of_agg hr))
      simp only [execOp, hop]
      exact next_value (by simp [Instr.alloc, zeroValue, typeInfo, z1, z2, run_newVar])
    · rename_i x hz
      split at h
      · rename_i hx
        obtain ⟨i, zv, z1, z2, z3⟩ := ty_zero hz
        have hr := (valD_cells z3).2.2 w (own c L) N c.γ
        injection h with h; subst h
        rw [hLn (by simp [makesL])]
        refine .value ?_ (new_box hm ht0 (a := false) (T := e) (CellsRep.of_cell hr hx))
        simp only [execOp, hop]
        exact next_value (by simp [Instr.alloc, zeroValue, typeInfo, z1, z2, run_newVar])
      · cases h
    · cases h
  case box e x =>
    have hv := (hρ x).unp
    have hrun : (execOp ρ o).run P w = .ok (.value (.pointer (some ⟨w.heap.size, 0, none⟩))) (w.alloc (.cells (ρ x).cells e)) := by
      simp only [execOp, hop]
      exact next_value (by simp [Instr.box, run_newVar])
    dsimp only at h
    split at h
    · rename_i cs hx
      rw [hx] at hv
      injection h with h; subst h
      rw [hLn (by simp [makesL])]
      exact .value hrun (new_box hm ht0 (a := true) (T := e) (CellsRep.of_agg hv.dat))
    · rename_i ds ks vs hx
      rw [hx] at hv
      injection h with h; subst h
      rw [hLn (by simp [makesL])]
      exact .value hrun (new_vbox hm ht0 (a := true) (T := e) (CellsV.of_agg hv))
    · rename_i x' _ hx
      rw [hx] at hv
      split at h
      · rename_i hc
        injection h with h; subst h
        rw [hLn (by simp [makesL])]
        exact .value hrun (new_box hm ht0 (a := false) (T := e) (CellsRep.of_cell hv.dat hc))
      · cases h
    · split at h
      · rename_i hk
        injection h with h; subst h
        rw [hLn (by simp [makesL])]
        exact .value hrun (new_vbox hm ht0 (a := false) (T := e) (CellsV.of_one hv (okRef_one hs hk.2 hk.1 hv)))
      · cases h
  case build t ps =>
    obtain ⟨v, hv0, rfl⟩ := out_some h
    have hv : Vals c L w N ((ps.toList.map fun (i, x) => (i, (ρa x).unp)).map (·.2)) (ps.toList.map fun p => ρ p.2) := by
      have := Vals.map (ρa := fun x => (ρa x).unp) (fun x => (hρ x).unp) (ps.toList.map (·.2))
      simpa [List.map_map, Function.comp_def] using this
    obtain ⟨u, k1, k2⟩ := abuild_ok hm hs hv0 hv
    refine .value ?_ (Did.same hm k2)
    simp only [execOp, hop]
    refine next_value ?_
    rw [← k1]
    congr 2
    apply Array.ext'
    simp [List.map_map, Function.comp_def, List.zip_map']
  case buildSlice t n ps =>
    dsimp only at h
    have hv : Vals c L w N ((ps.toList.map fun (i, x) => (i, ρa x)).map (·.2)) (ps.toList.map fun p => ρ p.2) := by
      have := Vals.map hρ (ps.toList.map (·.2))
      simpa [List.map_map, Function.comp_def] using this
    obtain ⟨u, w', k1, k2⟩ := abuildSlice_ok hm hs h hv
    refine .value ?_ k2
    simp only [execOp, hop]
    refine next_value ?_
    rw [← k1]
    congr 2
    apply Array.ext'
    simp [List.map_map, Function.comp_def, List.zip_map']
  case load t a =>
    obtain ⟨v, hv, rfl⟩ := out_some h
    obtain ⟨u, k1, k2⟩ := aload_ok hm hs hv (hρ a)
    refine .value ?_ (Did.same hm k2)
    simp only [execOp, hop]
    exact next_value k1
  case store t a x =>
    dsimp only at h
    split at h
    · rename_i hk
      obtain ⟨w', k1, k2⟩ := astore_ok hm hs h (hρ a) (hρ x).unp (okRef_unp hk)
      refine .skip ?_ k2
      simp only [execOp, hop]
      exact next_skip k1
    · cases h
  case nilCheck x =>
    have hv := hρ x
    have fin : ∀ v, (∃ a, ρ x = .pointer (some a)) → Val c L w N v (ρ x) → OpOk P c N w0 O0 L w o ρ { v } := by
      rintro v ⟨a, ha⟩ hv
      exact .value (u := ρ x) (by simp [execOp, hop, ha]) (Did.same hm hv)
    dsimp only at h
    split at h
    · rename_i g n o' hx
      rw [hx] at hv
      split at h
      · rename_i hk
        injection h with h; subst h
        have hd := ((okPtr_ptr hs hk).1 g n o' rfl).2
        refine fin _ ?_ hv
        cases hv with
        | ptr _ _ _ u h1 h2 => obtain ⟨b, hb, hu⟩ := h2 hd; exact ⟨_, hu⟩
      · cases h
    · rename_i g n i o' hx
      rw [hx] at hv
      split at h
      · rename_i hk
        injection h with h; subst h
        obtain ⟨sz, els, l, e1, e2⟩ := (okPtr_ptr hs hk).2.1 g n i o' rfl
        refine fin _ ?_ hv
        cases hv with
        | ept _ _ _ _ u h1 h2 => obtain ⟨b, hb, hu⟩ := h2 sz els l e1 e2; exact ⟨_, hu⟩
      · cases h
    · rename_i k n i o' j f hx
      rw [hx] at hv
      split at h
      · rename_i hk
        injection h with h; subst h
        obtain ⟨els, e1, e2⟩ := (okPtr_ptr hs hk).2.2.2 k n i o' j f rfl
        refine fin _ ?_ hv
        cases hv with
        | vept _ _ _ _ _ _ u h1 h2 => obtain ⟨b, hb, hu⟩ := h2 els e1 e2; exact ⟨_, hu⟩
      · cases h
    · rename_i k n o' hx
      rw [hx] at hv
      injection h with h; subst h
      refine fin _ ?_ hv
      have hr := hv.dat
      generalize ρ x = u at *
      cases hr; exact ⟨_, rfl⟩
    · rename_i d hx
      rw [hx] at hv
      injection h with h; subst h
      refine fin _ ?_ hv
      have hr := hv.dat
      generalize ρ x = u at *
      cases hr; exact ⟨_, rfl⟩
    · rename_i k y hx
      rw [hx] at hv
      split at h
      · split at h
        · rename_i hc
          obtain ⟨rfl, rfl⟩ := hc
          injection h with h; subst h
          have hv' := hv.unp
          refine fin _ ?_ hv'
          have hr := hv'.dat
          generalize ρ x = u at *
          cases hr; exact ⟨_, rfl⟩
        · cases h
      · cases h
    · rename_i f a b hx
      rw [hx] at hv
      injection h with h; subst h
      refine .value (u := ρ x) ?_ (Did.same hm hv)
      simp only [execOp, hop]
      generalize ρ x = u at *
      cases hv; rfl
    · rename_i f a b hx
      rw [hx] at hv
      injection h with h; subst h
      have hr := hv.dat
      refine .value (u := ρ x) ?_ (Did.same hm hv)
      simp only [execOp, hop]
      generalize ρ x = u at *
      cases hr; rfl
    · cases h
  case binOp op ty x y _ =>
    have hx := hρ x
    have hy := hρ y
    dsimp only at h
    split at h
    · rename_i a b ha hb
      rw [ha] at hx; rw [hb] at hy
      have rx := hx.dat
      have ry := hy.dat
      obtain ⟨us, hus, _⟩ := hx.datAgg
      obtain ⟨vs, hvs, _⟩ := hy.datAgg
      split at h
      · cases h
      · rename_i hg
        have hg' : P.eqGuardType P.depth ty = false := by simpa using hg
        split at h
        · obtain ⟨v, hv, rfl⟩ := out_some h
          cases hq : aeq P 5 ty (.agg a) (.agg b) with
          | none => rw [hq] at hv; cases hv
          | some r =>
            rw [hq] at hv
            injection hv with hv; subst hv
            refine .value (u := .bool r) ?_ (Did.same hm (.d _ _ (.bool r)))
            have := aeq_ok 5 (Op.maxDepth - 5) ty _ _ r _ _ hq rx ry
            simp only [execOp, hop]
            refine next_value ?_
            rw [hus, hvs] at this ⊢
            have e : 5 + (Op.maxDepth - 5) = Op.maxDepth := rfl
            rw [e] at this
            simp [eqGuard, hg', binOp, Op.equal, this]
        · obtain ⟨v, hv, rfl⟩ := out_some h
          cases hq : aeq P 5 ty (.agg a) (.agg b) with
          | none => rw [hq] at hv; cases hv
          | some r =>
            rw [hq] at hv
            injection hv with hv; subst hv
            refine .value (u := .bool !r) ?_ (Did.same hm (.d _ _ (.bool !r)))
            have := aeq_ok 5 (Op.maxDepth - 5) ty _ _ r _ _ hq rx ry
            simp only [execOp, hop]
            refine next_value ?_
            rw [hus, hvs] at this ⊢
            have e : 5 + (Op.maxDepth - 5) = Op.maxDepth := rfl
            rw [e] at this
            simp [eqGuard, hg', binOp, Op.equal, this]
        · cases h
    · split at h
      · rename_i k hk
        split at h
        · rename_i hc
          have nb := nilConst_val hc hy
          split at h
          · obtain ⟨v, hv, rfl⟩ := out_some h
            cases hq : isNil Lr k (ρa x) with
            | none => rw [hq] at hv; cases hv
            | some r =>
              rw [hq] at hv
              injection hv with hv; subst hv
              refine .value (u := .bool r) ?_ (Did.same hm (.d _ _ (.bool r)))
              have := (nil_run (w := w) hk (isNil_val hs hq (nilKind_le hk) hx) nb).1 x y
              simp only [execOp, hop]
              exact next_value this
          · obtain ⟨v, hv, rfl⟩ := out_some h
            cases hq : isNil Lr k (ρa x) with
            | none => rw [hq] at hv; cases hv
            | some r =>
              rw [hq] at hv
              injection hv with hv; subst hv
              refine .value (u := .bool !r) ?_ (Did.same hm (.d _ _ (.bool !r)))
              have := (nil_run (w := w) hk (isNil_val hs hq (nilKind_le hk) hx) nb).2 x y
              simp only [execOp, hop]
              exact next_value this
          · cases h
        · cases h
      · split at h
        · rename_i a b ha hb
          rw [ha] at hx; rw [hb] at hy
          obtain ⟨v, hv, rfl⟩ := out_some h
          cases hq : abin (tyBool P ty) op a b with
          | none => rw [hq] at hv; cases hv
          | some d =>
            rw [hq] at hv
            injection hv with hv; subst hv
            obtain ⟨z, k1, k2⟩ := abin_ok (x := x) (y := y) hq hx.dat hy.dat
            refine .value ?_ (Did.same hm (.d _ _ k2))
            simp only [execOp, hop]
            exact next_value k1
        · cases h
  case unOp op ty x =>
    have hx := hρ x
    dsimp only at h
    split at h
    · rename_i a ha
      rw [ha] at hx
      obtain ⟨v, hv, rfl⟩ := out_some h
      cases hq : aun op a with
      | none => rw [hq] at hv; cases hv
      | some d =>
        rw [hq] at hv
        injection hv with hv; subst hv
        unfold aun at hq
        split at hq
        · injection hq with hq; subst hq
          refine .value ?_ (Did.same hm (.d _ _ (.int _ _)))
          simp only [execOp, hop, hx.int]
          exact next_value (by simp [Op.unary, Op.intArith])
        · injection hq with hq; subst hq
          refine .value ?_ (Did.same hm (.d _ _ (.bool _)))
          simp only [execOp, hop, hx.bool]
          exact next_value (by simp [Op.unary])
        · injection hq with hq; subst hq
          refine .value ?_ (Did.same hm (.d _ _ (.int _ _)))
          simp only [execOp, hop, hx.int]
          exact next_value (by simp [Op.unary, Op.intBits, bits])
        · cases hq
    · cases h
  case convert src dst x =>
    have hx := hρ x
    dsimp only at h
    split at h
    · rename_i k1 n hn
      split at h
      rotate_left
      · cases h
      rename_i k0 k h1 h2
      rw [hn] at hx
      injection h with h; subst h
      refine .value ?_ (Did.same hm (.d _ _ (.int _ _)))
      simp only [execOp, hop, hx.int]
      exact next_value (by simp [convert, ty_und (tyInt_und h1), ty_und (tyInt_und h2), Conv.intToInt])
    · split at h
      rotate_left
      · cases h
      rename_i hc
      obtain ⟨c1, c2⟩ := hc
      split at h
      rotate_left
      · cases h
      rename_i l hl
      split at h
      rotate_left
      · cases h
      rename_i hb
      injection h with h; subst h
      have hrun := bytes_run (P := P) hm hs hl hx hb c1 c2
      refine .value ?_ (Did.same hm (.d _ _ (.str _)))
      simp only [execOp, hop]
      exact next_value hrun
  case makeFunc fn a b =>
    cases fn with
    | func f =>
      injection h with h; subst h
      refine .value ?_ (Did.same hm (.clo f _ _ (a.map ρ) (b.map ρ) (by simp) (by simp) (fun i v u h1 h2 => ?_) (fun i v u h1 h2 => ?_)))
      · simp [execOp, hop, Instr.makeFunc]
      · exact (Vals.map hρ a.toList).2 i v u h1 (by rw [← h2]; simp)
      · exact (Vals.map hρ b.toList).2 i v u h1 (by rw [← h2]; simp)
    | _ => cases h
  case makeMap ty r =>
    cases r with
    | some _ => cases h
    | none =>
      dsimp only at h
      split at h
      · injection h with h; subst h
        rw [hLn (by simp [makesL])]
        refine .value ?_ (new_map hm ht0)
        simp only [execOp, hop]
        exact next_value (by simp only [Instr.makeMap, Option.map_none, Sem.run_bind, Sem.run_pure, Result.andThen_ok, run_newObj, World.alloc_eq])
      · cases h
  case makeSlice ty n k =>
    dsimp only at h
    obtain ⟨u, w', k1, k2⟩ := amakeSlice_ok hm ht0 (hnew (by simp [makesL])) h (hρ n) (hρ k)
    refine .value ?_ k2
    simp only [execOp, hop]
    exact next_value k1
  case slice ty x lo hi mx =>
    dsimp only at h
    obtain ⟨v, hv, rfl⟩ := out_some h
    obtain ⟨u, k1, k2⟩ := aslice_ok hm hs hv (hρ x) (OptVal.map hρ lo) (OptVal.map hρ hi) (OptVal.map hρ mx)
    refine .value ?_ (Did.same hm k2)
    simp only [execOp, hop]
    exact next_value k1
  case fieldAddr s x f =>
    dsimp only at h
    split at h
    · rename_i hk
      obtain ⟨v, hv, rfl⟩ := out_some h
      obtain ⟨q1, q2, q3, q4⟩ := okPtr_ptr hs hk
      obtain ⟨u, k1, k2⟩ := afieldAddr_ok hv (hρ x) (fun g n off e => (q1 g n off e).2) q2 q4
      refine .value ?_ (Did.same hm k2)
      simp only [execOp, hop]
      exact next_value k1
    · cases h
  case field s x f =>
    have hx := hρ x
    dsimp only at h
    split at h
    · rename_i cs off size ag hc hf hfa
      rw [hc] at hx
      obtain ⟨v, hv, rfl⟩ := out_some h
      cases hq : partD ag size off cs with
      | none => rw [hq] at hv; cases hv
      | some d =>
        rw [hq] at hv
        injection hv with hv; subst hv
        obtain ⟨us, hus, z1, z2, z3⟩ := hx.datAgg
        obtain ⟨fs, fl, e1, e2, e3, e4⟩ := ty_fld hf
        obtain ⟨fs', fl', e1', e2', e4'⟩ := ty_fldAgg hfa
        rw [e1] at e1'; injection e1' with e1'; injection e1' with e1'; subst e1'
        rw [e2] at e2'; injection e2' with e2'; subst e2'
        obtain ⟨u, p1, p2, p3⟩ := part_rep hq z1 (fun i d u h1 h2 => ⟨z2 i d u h1 h2, z3 i u h2⟩)
        refine .value ?_ (Did.same hm (.d _ _ p1))
        simp only [execOp, hop, hus]
        have hp := run_part (w := w) (off := off) (cs := us) (v := u) e4' e4 (by
          split
          · rename_i ht; rw [if_pos ht] at p2; exact p2.1
          · rename_i ht; rw [if_neg ht] at p2; exact p2.1)
        exact next_value (by simp [Instr.field, ty_und e1, e2, asAgg, e3, hp])
    · rename_i ds ks vs off size ag hc hf hfa
      rw [hc] at hx
      obtain ⟨v, hv, rfl⟩ := out_some h
      generalize hu : ρ x = u at *
      cases hx with
      | agg _ _ _ us a1 a2 a3 =>
      obtain ⟨fs, fl, e1, e2, e3, e4⟩ := ty_fld hf
      obtain ⟨fs', fl', e1', e2', e4'⟩ := ty_fldAgg hfa
      rw [e1] at e1'; injection e1' with e1'; injection e1' with e1'; subst e1'
      rw [e2] at e2'; injection e2' with e2'; subst e2'
      obtain ⟨u', p1, p2⟩ := vbPart_ok hv a1 a2 a3
      refine .value ?_ (Did.same hm p1)
      simp only [execOp, hop, hu]
      have hp := run_part (w := w) (off := off) (cs := us) (v := u') e4' e4 (by
        split
        · rename_i ht; rw [if_pos ht] at p2; exact p2.1
        · rename_i ht; rw [if_neg ht] at p2; exact p2)
      exact next_value (by simp [Instr.field, ty_und e1, e2, asAgg, e3, hp])
    · cases h
  case indexAddr ty x i =>
    dsimp only at h
    split at h
    · rename_i hk
      obtain ⟨v, hv, rfl⟩ := out_some h
      obtain ⟨q1, q2, q3, q4⟩ := okPtr_ptr hs hk
      obtain ⟨u, k1, k2⟩ := aindexAddr_ok hm hs hv (hρ x) (hρ i) (fun g n off e => (q1 g n off e).1) q3 q2 q4
      refine .value ?_ (Did.same hm k2)
      simp only [execOp, hop]
      exact next_value k1
    · cases h
  case index ty x i =>
    have hx := hρ x
    have hi := hρ i
    dsimp only at h
    split at h
    · rename_i cs k n hc hn
      rw [hc] at hx
      rw [hn] at hi
      split at h
      · rename_i kk sz ag ht
        split at h
        · rename_i hb
          obtain ⟨v, hv, rfl⟩ := out_some h
          cases hq : partD ag sz (n.toNat * sz) cs with
          | none => rw [hq] at hv; cases hv
          | some d =>
            rw [hq] at hv
            injection hv with hv; subst hv
            obtain ⟨us, hus, z1, z2, z3⟩ := hx.datAgg
            obtain ⟨e, e1, e2, e3⟩ := ty_arr ht
            obtain ⟨u, p1, p2, p3⟩ := part_rep hq z1 (fun i d u h1 h2 => ⟨z2 i d u h1 h2, z3 i u h2⟩)
            refine .value ?_ (Did.same hm (.d _ _ p1))
            simp only [execOp, hop, hus, hi.int]
            have hp := run_part (w := w) (off := n.toNat * sz) (cs := us) (v := u) e3 e2 (by
              split
              · rename_i ht; rw [if_pos ht] at p2; exact p2.1
              · rename_i ht; rw [if_neg ht] at p2; exact p2.1)
            exact next_value (by simp [Instr.index, asIntOf, ty_und e1, hb.1, hb.2, ty_size e2, hp])
        · cases h
      · cases h
    · cases h
  case lookup ty m k ok =>
    dsimp only at h
    obtain ⟨v, hv, rfl⟩ := out_some h
    obtain ⟨u, k1, k2⟩ := alookup_ok hm hs hv (hρ m) (hρ k)
    refine .value ?_ (Did.same hm k2)
    simp only [execOp, hop]
    exact next_value k1
  case mapUpdate ty m k v =>
    dsimp only at h
    obtain ⟨w', k1, k2⟩ := amapUpdate_ok hm hs h (hρ m) (hρ k) (hρ v).unp
    refine .skip ?_ k2
    simp only [execOp, hop]
    exact next_skip k1
  case insert ty m k v =>
    dsimp only at h
    obtain ⟨w', k1, k2⟩ := amapUpdate_ok hm hs h (hρ m) (hρ k) (hρ v).unp
    refine .skip ?_ k2
    simp only [execOp, hop]
    exact next_skip k1
  case extract x i =>
    have hx := hρ x
    dsimp only at h
    split at h
    · rename_i l hl
      rw [hl] at hx
      obtain ⟨v, hv, rfl⟩ := out_some h
      cases hq : l[i]? with
      | none => rw [hq] at hv; cases hv
      | some d =>
        rw [hq] at hv
        injection hv with hv; subst hv
        have hr := hx.dat
        generalize hu : ρ x = u at *
        cases hr with
        | tup _ vs a1 a2 =>
          have hi : i < vs.size := by rw [a1]; exact (List.getElem?_eq_some_iff.1 hq).1
          have hvi := Array.getElem?_eq_getElem hi
          refine .value ?_ (Did.same hm (.d _ _ (a2 i d _ hq hvi)))
          simp [execOp, hop, hu, Instr.extract, hvi]
    · rename_i l hl
      rw [hl] at hx
      obtain ⟨v, hv, rfl⟩ := out_some h
      generalize hu : ρ x = u at *
      cases hx with
      | tup _ vs a1 a2 =>
        have hi : i < vs.size := by rw [a1]; exact (List.getElem?_eq_some_iff.1 hv).1
        have hvi := Array.getElem?_eq_getElem hi
        refine .value ?_ (Did.same hm (a2 i v _ hv hvi))
        simp [execOp, hop, hu, Instr.extract, hvi]
    · cases h
  case call cl =>
    obtain ⟨callee, args, argTypes⟩ := cl
    cases callee with
    | invoke _ _ => cases h
    | value f =>
      dsimp only at h
      have hv := Vals.map hρ args.toList
      obtain ⟨k, as, k1, k2⟩ := acall_ok hΓ hm hs (hcall (by simp [makesL])) hd h (hρ f) (us := args.map ρ) (by simpa using hv) (hct f args argTypes rfl)
      refine .inr (.inr ⟨k, as, ?_, k2⟩)
      simp only [execOp, hop, resolve]
      exact k1
    | builtin b =>
      cases b <;> first | (cases h; done) | skip
      case len =>
        dsimp only at h
        split at h
        · rename_i x ty ha hty
          have hargs : args = #[x] := by apply Array.ext'; simpa using ha
          have hat : argTypes = #[ty] := by apply Array.ext'; simpa using hty
          subst hargs; subst hat
          cases hl : alen P Lr ty (ρa x) with
          | none => rw [hl] at h; cases h
          | some n =>
          rw [hl] at h
          injection h with h; subst h
          refine .value ?_ (Did.same hm (.d _ _ (.int .i64 n)))
          have hx := hρ x
          simp only [execOp, hop, resolve, Sem.run_bind, Sem.run_pure, Result.andThen_ok, invoke, builtin]
          suffices hh : (Builtin.len_ #[ty] o.type (#[x].map ρ)).run P w = .ok (.int .i64 n) w by rw [hh]; rfl
          have maps : (if (tyMap P ty).isSome = true then (esOf Lr (ρa x)).map fun x => x.2.length else none) = some n → (Builtin.len_ #[ty] o.type (#[x].map ρ)).run P w = .ok (.int .i64 n) w := by
            intro hl
            split at hl
            rotate_left
            · cases hl
            rename_i ht
            cases hes : esOf Lr (ρa x) with
            | none => rw [hes] at hl; cases hl
            | some p =>
            obtain ⟨mk, es⟩ := p
            rw [hes] at hl
            injection hl with hl
            cases hty : tyMap P ty with
            | none => rw [hty] at ht; cases ht
            | some q =>
            obtain ⟨kk, et⟩ := q
            obtain ⟨kt, t1, t2⟩ := ty_map hty
            obtain ⟨b, me, ck, hu, h2, h3, h4⟩ := es_ok hm hs hes hx
            have hget : (getObj b).run P w = .ok (.map me ck) w := by simp [getObj, Sem.run, h2]
            simp [Builtin.len_, ty_und t1, hu, hget, goInt, h3, ← hl]
          unfold alen at hl
          split at hl
          · rename_i s hs'
            split at hl
            · rename_i ht
              injection hl with hl; subst hl
              rw [hs'] at hx
              have hr := hx.dat
              unfold tyStr at ht
              split at ht
              · rename_i hu
                generalize hv : ρ x = u at *
                cases hr
                simp [Builtin.len_, ty_und hu, hv, goInt]
              · cases ht
            · cases hl
          · exact maps hl
          · exact maps hl
          · exact maps hl
          · split at hl
            · rename_i ht
              cases he : tyElem P ty with
              | none => rw [he] at ht; cases ht
              | some sz =>
                obtain ⟨e, h1, _⟩ := ty_elem he
                cases hq : elsOf Lr (ρa x) with
                | none => rw [hq] at hl; cases hl
                | some l =>
                  rw [hq] at hl
                  injection hl with hl; subst hl
                  obtain ⟨a, cap, hu, _⟩ := els_ok hm hs hq hx
                  simp [Builtin.len_, ty_und h1, hu, goInt]
            · cases hl
        · cases h
      case min =>
        dsimp only at h
        split at h
        · rename_i a b ha
          injection h with h; subst h
          obtain ⟨l, hl⟩ : ∃ l, args.toList = l := ⟨_, rfl⟩
          rw [hl] at ha
          cases l with
          | nil => cases ha
          | cons x l => cases l with
            | nil => simp at ha
            | cons y l => cases l with
              | cons _ _ => simp at ha
              | nil =>
                have hargs : args = #[x, y] := by apply Array.ext'; simpa using hl
                subst hargs
                simp at ha
                have hx := hρ x; rw [ha.1] at hx
                have hy := hρ y; rw [ha.2] at hy
                refine .value ?_ (Did.same hm (.d _ _ (.int .i64 (min a b))))
                simp only [execOp, hop, resolve, Sem.run_bind, Sem.run_pure, Result.andThen_ok, invoke, builtin]
                suffices hh : (Builtin.min_ argTypes o.type (#[x, y].map ρ)).run P w = .ok (.int .i64 (min a b)) w by rw [hh]; rfl
                simp [Builtin.min_, hx.int, hy.int, Builtin.min2]
                split <;> omega
        · cases h
      case max =>
        dsimp only at h
        split at h
        · rename_i a b ha
          injection h with h; subst h
          obtain ⟨l, hl⟩ : ∃ l, args.toList = l := ⟨_, rfl⟩
          rw [hl] at ha
          cases l with
          | nil => cases ha
          | cons x l => cases l with
            | nil => simp at ha
            | cons y l => cases l with
              | cons _ _ => simp at ha
              | nil =>
                have hargs : args = #[x, y] := by apply Array.ext'; simpa using hl
                subst hargs
                simp at ha
                have hx := hρ x; rw [ha.1] at hx
                have hy := hρ y; rw [ha.2] at hy
                refine .value ?_ (Did.same hm (.d _ _ (.int .i64 (max a b))))
                simp only [execOp, hop, resolve, Sem.run_bind, Sem.run_pure, Result.andThen_ok, invoke, builtin]
                suffices hh : (Builtin.max_ argTypes o.type (#[x, y].map ρ)).run P w = .ok (.int .i64 (max a b)) w by rw [hh]; rfl
                simp [Builtin.max_, hx.int, hy.int, Builtin.max2]
                split <;> omega
        · cases h
      case append =>
        dsimp only at h
        split at h
        · rename_i s x ty ty2 ha hty
          have hargs : args = #[s, x] := by apply Array.ext'; simpa using ha
          have hat : argTypes = #[ty, ty2] := by apply Array.ext'; simpa using hty
          subst hargs; subst hat
          split at h
          · rename_i h2
            obtain ⟨u, w', k1, k2⟩ := aappend_ok (rty := o.type) hm hs ht0 (hnew (by simp [makesL])) h h2 (hρ s) (hρ x)
            refine .value ?_ k2
            simp only [execOp, hop, resolve, Sem.run_bind, Sem.run_pure, Result.andThen_ok, invoke, builtin]
            have k1' : (Builtin.append_ #[ty, ty2] o.type (#[s, x].map ρ)).run P w = .ok u w' := by simpa using k1
            rw [k1']; rfl
          · cases h
        · cases h
      case copy =>
        dsimp only at h
        split at h
        · rename_i s x ty ty2 ha hty
          have hargs : args = #[s, x] := by apply Array.ext'; simpa using ha
          have hat : argTypes = [ty, ty2].toArray := by apply Array.ext'; simpa using hty
          subst hargs; subst hat
          obtain ⟨u, w', k1, k2⟩ := acopy_ok (rty := o.type) (tys := [ty2]) hm hs h (hρ s) (hρ x)
          refine .value ?_ k2
          simp only [execOp, hop, resolve, Sem.run_bind, Sem.run_pure, Result.andThen_ok, invoke, builtin]
          have k1' : (Builtin.copy_ [ty, ty2].toArray o.type (#[s, x].map ρ)).run P w = .ok u w' := by simpa using k1
          rw [k1']; rfl
        · cases h
  case sliceToArrayPointer arr x =>
    dsimp only at h
    split at h
    · rename_i t l hx
      have hv := hρ x; rw [hx] at hv
      split at h
      · rename_i n e hu
        split at h
        · rename_i hc
          obtain ⟨h1, h2, h3, h4⟩ := hc
          injection h with h; subst h
          have hr := hv.dat
          obtain ⟨b, o', cap, e1, e2⟩ := sl_at hr (by omega) h4
          refine .value (u := .pointer (some ⟨b, o', none⟩)) ?_ (Did.same hm (.d _ _ e2))
          simp only [execOp, hop]
          refine next_value ?_
          rw [e1]
          simp [Instr.arrayAt, ty_und hu, h2]
        · cases h
      · cases h
    · cases h
  all_goals cases h

theorem Val.toP {v : V} {u : Value} (h : Val c L w N v u) (t : TypeId) : Val c L w N (toP P t v) u := by
  cases v with
  | d x =>
    simp only [Wf.toP]
    cases clsOf P t with
    | none => exact h
    | some k => exact .p _ _ _ h.dat
  | _ => exact h
theorem Did.toP {out : Out} {u : Value} {w' : World} (h : Did c N w0 O0 L w out u w') (t : TypeId) : Did c N w0 O0 L w { out with v := Wf.toP P t out.v } u w' := by
  obtain ⟨c', a, b, d⟩ := h
  exact ⟨c', a, b, d.toP t⟩
theorem aop_ok {Γ : Env} (hΓ : ∀ f sp, Γ f = some sp → Sound P f sp) (hm : Mem c N w0 O0 L w) (hs : Sees Lr L) {o : Oper} {ρa : Operand → V} {ρ : Operand → Value}
    (hnew : makesL o.op ≠ 0 → Lr (o.dst.getD 0) = L (o.dst.getD 0)) (hcall : makesL o.op = 5 → ∀ i, i ≤ 4 → Lr (o.dst.getD 0 + 1000 * i) = L (o.dst.getD 0 + 1000 * i))
    (hd : o.dst.getD 0 < 90000) (hct : ∀ f args aty, o.op = .call ⟨.value f, args, aty⟩ → ∀ q a b pms szs ks F, acallee (ρa f) = some (q, a, b) → Γ q = some (.st pms szs ks F) → ∀ x ∈ ks, Lr (tb x.1) = L (tb x.1))
    {out : Out} (hρ : ∀ x, Val c L w N (ρa x) (ρ x)) (h : aop P Γ o ρa Lr = some out) : OpOk P c N w0 O0 L w o ρ out := by
  unfold aop at h
  cases h0 : aop0 P Γ o ρa Lr with
  | none => rw [h0] at h; cases h
  | some out0 =>
    rw [h0] at h
    injection h with h; subst h
    rcases aop0_ok hΓ hm hs hnew hcall hd hct hρ h0 with ⟨u, w', e1, e2⟩ | ⟨w', e1, e2⟩ | ⟨f, args, e1, e2⟩
    · exact .inl ⟨u, w', e1, e2.toP _⟩
    · exact .inr (.inl ⟨w', e1, e2.toP _⟩)
    · refine .inr (.inr ⟨f, args, e1, e2.mono fun e w' ⟨v, he, hd⟩ => ⟨v, he, hd.toP _⟩⟩)
end
end Wf

/-
  A step of the machine over plain data is a step of the program's.
-/
namespace Wf
open Go Go.RowKit

/-- What there was at a function's start: where things lie; tables that may be written. -/
structure E0 where
  γ : Nat → Nat → Option Nat
  ρ : Nat → Nat → Nat → Option Nat
  W : Nat → Prop
  ι : Nat → Option Nat

structure RelC (N : Nat) (w0 : World) (O0 : Nat → Prop) (γ0 : E0) (c : Ctx) (s : St) (a : Act) (w : World) : Prop where
  mem : Mem c N w0 O0 s.L w
  slots : Vals c s.L w N s.slots a.tmps.toList
  defers : a.defers = []
  hγ : ∀ k i x, γ0.γ k i = some x → c.γ k i = some x
  stay : ∀ k, ¬ γ0.W k → (∀ T, tabOf s.L k ≠ some (true, T)) ∧ c.γ k = γ0.γ k ∧ c.ρ k = γ0.ρ k
  given : ∀ g, (s.L g).1 = 0 → (s.L g).2 = .dead ∨ c.ι g = γ0.ι g
  cells : ∀ (b : Nat) (x : Array Value) (T : TypeId) (fz : Nat × Nat), w0.heap[b]? = some (.cells x T fz) → ∃ (x' : Array Value) (fz' : Nat × Nat), w.heap[b]? = some (.cells x' T fz') ∧ x'.size = x.size

def Rel (N : Nat) (w0 : World) (O0 : Nat → Prop) (γ0 : E0) (s : St) (a : Act) (w : World) : Prop := ∃ c, RelC N w0 O0 γ0 c s a w

theorem Vals.put {c L w N} {vs : List V} {a : Act} {v : V} {u : Value} (hv : Vals c L w N vs a.tmps.toList) (h : Val c L w N v u) (dst : Option Tmp) : Vals c L w N (putV vs dst v) (a.put dst u).tmps.toList := by
  cases dst with
  | none => exact hv
  | some d =>
    refine ⟨by simp [putV, Act.put, hv.1.symm], fun i v' u' h1 h2 => ?_⟩
    simp only [putV, Act.put, Array.toList_setIfInBounds] at h1 h2
    rw [List.getElem?_set] at h1 h2
    by_cases hd : d = i
    · subst hd
      simp only [if_true] at h1 h2
      split at h1
      · split at h2
        · injection h1 with h1; injection h2 with h2; subst h1; subst h2; exact h
        · cases h2
      · cases h1
    · simp only [hd, if_false] at h1 h2
      exact hv.2 i v' u' h1 h2

theorem evalV_ok {c L w N} {vs : List V} {a : Act} (hv : Vals c L w N vs a.tmps.toList) (x : Operand) : Val c L w N (evalV vs x) (a.eval x) := by
  cases x with
  | tmp t =>
    simp only [evalV, Act.eval]
    by_cases ht : t < vs.length
    · have ht' : t < a.tmps.toList.length := by rw [hv.1]; exact ht
      have h1 := List.getElem?_eq_getElem ht
      have h2 := List.getElem?_eq_getElem ht'
      have := hv.2 t _ _ h1 h2
      rw [List.getD_eq_getElem?_getD, h1, Array.getD_eq_getD_getElem?, ← Array.getElem?_toList, h2]
      exact this
    · rw [List.getD_eq_getElem?_getD, List.getElem?_eq_none (Nat.le_of_not_lt ht)]
      exact .d _ _ (.undef _)
  | const v =>
    simp only [evalV, Act.eval]
    cases hd : cellD v with
    | none => exact .d _ _ (.undef _)
    | some d =>
      have : valD v = some d := by cases v <;> first | exact hd | cases hd
      exact .d _ _ ((valD_cells this).2.2 w _ N _)
  | global g => exact .d _ _ (.undef _)
  | func f => exact .clo f [] [] #[] #[] rfl rfl (by simp) (by simp)

theorem Sees.only (L : Loc) (rd : List Nat) : Sees (L.only rd) L := by
  intro g n h
  unfold Loc.get Loc.only at *
  by_cases hg : g ∈ rd
  · simp only [hg, if_true]
  · simp [hg] at h

theorem only_in (L : Loc) {rd : List Nat} {g : Nat} (h : g ∈ rd) : L.only rd g = L g := by simp [Loc.only, h]

section
variable {P : Program} {N : Nat} {w0 : World} {O0 : Nat → Prop} {γ0 : E0}

theorem RelC.given' {c : Ctx} {L : Loc} {w : World} {c' : Ctx} {L' : Loc} {w' : World} {ι0 : Nat → Option Nat} (h : ∀ g, (L g).1 = 0 → (L g).2 = .dead ∨ c.ι g = ι0 g) (k : Grow c L w c' L' w') : ∀ g, (L' g).1 = 0 → (L' g).2 = .dead ∨ c'.ι g = ι0 g := by
  intro g e
  have e0 : (L g).1 = 0 := by have := k.gen g; omega
  rcases k.obj g (by omega) with h1 | ⟨h1, h2⟩
  · exact .inl h1
  · rcases h g e0 with h3 | h3
    · rw [h3] at h2
      refine .inl ?_
      cases hx : (L' g).2 <;> simp [hx, Compat] at h2 ⊢
    · exact .inr (h1.trans h3)

theorem RelC.did {c : Ctx} {s : St} {a : Act} {w : World} (h : RelC N w0 O0 γ0 c s a w) {out : Out} {u : Value} {w' : World} (hd : Did c N w0 O0 s.L w out u w') (dst : Option Tmp) :
    Rel N w0 O0 γ0 { slots := putV s.slots dst out.v, L := s.L.upd out.wr } (a.put dst u) w' := by
  obtain ⟨c', m, g, v⟩ := hd
  refine ⟨c', m, (h.slots.grow g).put v dst, ?_, fun n i x hx => g.hγ n i x (h.hγ n i x hx), fun k hk => ?_, RelC.given' h.given g, fun b x T fz hb => ?_⟩
  · cases dst <;> exact h.defers
  · obtain ⟨a1, a2, a3⟩ := h.stay k hk
    obtain ⟨b1, b2, b3⟩ := g.stay k a1
    exact ⟨b1, b2.trans a2, b3.trans a3⟩
  · obtain ⟨x', fz', h1, h2⟩ := h.cells b x T fz hb
    obtain ⟨x'', fz'', k1, k2⟩ := g.cells' h1
    exact ⟨x'', fz'', k1, k2.trans h2⟩

theorem astep_ok {Γ : Env} (hΓ : ∀ f sp, Γ f = some sp → Sound P f sp) {ops : Array Oper} {i : Nat} {o : Oper} (ho : ops[i]? = some o) {s s' : St} {ft : Foot}
    (h : astep P Γ ops o s = some (s', ft)) {a : Act} {w : World} (hr : Rel N w0 O0 γ0 s a w) {K : Act → World → Prop} {Q : Exit → Act → World → Prop} (hK : ∀ a' w', Rel N w0 O0 γ0 s' a' w' → K a' w') :
    wpOp P ops Q i K a w := by
  obtain ⟨c, hr⟩ := hr
  have hg : ∀ b, aguard ops s.slots o = some b → Region.wanted o (yielded ops a.tmps) = b := by
    intro b hb
    unfold aguard at hb
    unfold Region.wanted
    split at hb
    · rename_i h1
      injection hb with hb; subst hb
      rw [h1]
    · rename_i j want h1
      rw [h1]
      dsimp only
      split at hb
      · rename_i b' hs
        injection hb with hb; subst hb
        cases hd : (ops[j]?).bind (·.dst) with
        | none => rw [hd] at hs; cases hs
        | some d =>
          rw [hd] at hs
          simp only [Option.bind_some] at hs
          have hd' : d < a.tmps.toList.length := by rw [hr.slots.1]; exact (List.getElem?_eq_some_iff.1 hs).1
          have h2 := List.getElem?_eq_getElem hd'
          have hv := (hr.slots.2 d _ _ hs h2).bool
          have : yielded ops a.tmps j = some b' := by
            unfold yielded
            rw [hd]
            simp only [Option.bind_some]
            rw [← Array.getElem?_toList, h2, hv]
          rw [this]
          cases b' <;> cases want <;> rfl
      · rename_i hs
        injection hb with hb; subst hb
        cases hd : (ops[j]?).bind (·.dst) with
        | none => rw [hd] at hs; cases hs
        | some d =>
          rw [hd] at hs
          simp only [Option.bind_some] at hs
          have hd' : d < a.tmps.toList.length := by rw [hr.slots.1]; exact (List.getElem?_eq_some_iff.1 hs).1
          have h2 := List.getElem?_eq_getElem hd'
          have hv := (hr.slots.2 d _ _ hs h2).dat
          have : yielded ops a.tmps j = none := by
            unfold yielded
            rw [hd]
            simp only [Option.bind_some]
            rw [← Array.getElem?_toList, h2]
            generalize a.tmps.toList[d] = u at hv
            cases hv; rfl
          rw [this]; rfl
      · cases hb
  unfold astep at h
  unfold wpOp
  rw [ho]
  dsimp only
  split at h
  · cases h
  · rename_i hgd
    injection h with h; injection h with h1 h2; subst h1
    rw [hg _ hgd]
    simp only [Bool.false_eq_true, if_false]
    refine hK _ _ ?_
    exact ⟨c, hr.mem, hr.slots.put undef_val o.dst, by cases o.dst <;> exact hr.defers, hr.hγ, hr.stay, hr.given, hr.cells⟩
  · rename_i hgd
    rw [hg _ hgd]
    simp only [if_true]
    dsimp only at h
    split at h
    · cases h
    rename_i hlt
    cases ha : aop P Γ o (evalV s.slots) (s.L.only (rdOf Γ o (o.op.operands.toList.map (evalV s.slots)) s.L)) with
    | none => rw [ha] at h; cases h
    | some out =>
      rw [ha] at h
      simp only [Option.bind_some] at h
      injection h with h; injection h with h1 h2; subst h1
      have hok := aop_ok (ρ := a.eval) hΓ hr.mem (Sees.only _ _) (o := o)
        (fun hh => only_in _ (by
          simp only [rdOf, List.mem_append]
          refine .inl (.inr ?_)
          split
          · rename_i e; exact absurd e hh
          · simp
          · simp))
        (fun hh i hi => only_in _ (by
          simp only [rdOf, List.mem_append]
          refine .inl (.inr ?_)
          rw [hh]
          have : i = 0 ∨ i = 1 ∨ i = 2 ∨ i = 3 ∨ i = 4 := by omega
          rcases this with rfl | rfl | rfl | rfl | rfl <;> simp))
        (Nat.lt_of_not_le hlt)
        (fun f args aty hop q b b' pms szs ks F h1 h2 x hx => only_in _ (by
          simp only [rdOf, List.mem_append]
          refine .inr (.inr ?_)
          rw [hop]
          have hhd : ((Op.call ⟨.value f, args, aty⟩).operands.toList.map (evalV s.slots)).head? = some (evalV s.slots f) := by
            simp [Op.operands, Call.operands]
          simp only [callTabs, hhd, Option.bind_some, h1, h2]
          exact List.mem_map.2 ⟨x, hx, rfl⟩))
        (evalV_ok hr.slots) ha
      refine .inl ?_
      unfold Oper.wp
      rcases hok with ⟨u, w', e1, e2⟩ | ⟨w', e1, e2⟩ | ⟨f, args, e1, e2⟩
      · rw [e1, Oper.upon_value]
        exact hK _ _ (hr.did e2 o.dst)
      · rw [e1, Oper.upon_skip]
        exact hK _ _ (hr.did e2 o.dst)
      · rw [e1, Oper.upon_enter]
        refine e2.mono fun e w' ⟨v, he, hd⟩ => ?_
        subst he
        exact hK _ _ (hr.did hd o.dst)
end
end Wf

/-
  A region of the machine over plain data, in whatever order.
-/
namespace Wf
open Go Go.RowKit

section
variable {P : Program} {Γ : Env} {ops : Array Oper}

/-- What an operation comes to, before it is laid down. -/
def comp (P : Program) (Γ : Env) (ops : Array Oper) (o : Oper) (s : St) : Option (Out × Foot) :=
  match aguard ops s.slots o with
  | none => none
  | some false => some ({ v := .d (.tup []) }, {})
  | some true =>
    let vs := o.op.operands.toList.map (evalV s.slots)
    let rd := rdOf Γ o vs s.L
    if 90000 ≤ o.dst.getD 0 then none else (aop P Γ o (evalV s.slots) (s.L.only rd)).bind fun out => some (out, { rd, wr := out.wr.map (·.1) })

def act (s : St) (dst : Option Tmp) (out : Out) : St := { slots := putV s.slots dst out.v, L := s.L.upd out.wr }

theorem astep_comp (o : Oper) (s : St) : astep P Γ ops o s = (comp P Γ ops o s).map fun x => (act s o.dst x.1, x.2) := by
  unfold astep comp
  cases aguard ops s.slots o with
  | none => rfl
  | some b =>
    cases b with
    | false => rfl
    | true =>
      dsimp only
      split
      · rfl
      · cases aop P Γ o (evalV s.slots) (s.L.only (rdOf Γ o (o.op.operands.toList.map (evalV s.slots)) s.L)) with
        | none => rfl
        | some out => rfl

theorem comp_foot {o : Oper} {s : St} {out : Out} {f : Foot} (h : comp P Γ ops o s = some (out, f)) : f.wr = out.wr.map (·.1) := by
  unfold comp at h
  split at h
  · cases h
  · injection h with h; injection h with h1 h2; subst h1; subst h2; rfl
  · dsimp only at h
    split at h
    · cases h
    cases ha : aop P Γ o (evalV s.slots) (s.L.only (rdOf Γ o (o.op.operands.toList.map (evalV s.slots)) s.L)) with
    | none => rw [ha] at h; cases h
    | some x =>
      rw [ha] at h
      simp only [Option.bind_some] at h
      injection h with h; injection h with h1 h2; subst h1; subst h2
      rfl

theorem map_pair_unp {ρ ρ' : Operand → V} {ps : Array (Nat × Operand)} (h : ∀ x ∈ (ps.toList.map (·.2)), ρ x = ρ' x) : (ps.toList.map fun (i, x) => (i, (ρ x).unp)) = ps.toList.map fun (i, x) => (i, (ρ' x).unp) :=
  List.map_congr_left fun p hp => by obtain ⟨i, x⟩ := p; dsimp only; rw [h x (List.mem_map.2 ⟨_, hp, rfl⟩)]
theorem map_pair_congr {ρ ρ' : Operand → V} {ps : Array (Nat × Operand)} (h : ∀ x ∈ (ps.toList.map (·.2)), ρ x = ρ' x) : (ps.toList.map fun (i, x) => (i, ρ x)) = ps.toList.map fun (i, x) => (i, ρ' x) :=
  List.map_congr_left fun p hp => by obtain ⟨i, x⟩ := p; dsimp only; rw [h x (List.mem_map.2 ⟨_, hp, rfl⟩)]

theorem opt_map_congr {ρ ρ' : Operand → V} {x : Option Operand} (h : ∀ y ∈ x.toArray, ρ y = ρ' y) : x.map ρ = x.map ρ' := by
  cases x with
  | none => rfl
  | some y => simp [h y (by simp)]

theorem aop0_congr {o : Oper} {ρ ρ' : Operand → V} (h : ∀ x ∈ o.op.operands, ρ x = ρ' x) (L : Loc) : aop0 P Γ o ρ L = aop0 P Γ o ρ' L := by
  unfold aop0
  cases hop : o.op <;> rw [hop] at h <;> try rfl
  case call cl =>
    obtain ⟨callee, args, argTypes⟩ := cl
    have hm : (∀ x ∈ args, ρ x = ρ' x) → args.toList.map ρ = args.toList.map ρ' := fun hh => List.map_congr_left fun x hx => hh x (by simpa using hx)
    cases callee with
    | invoke _ _ => rfl
    | value f =>
      have h1 : ρ f = ρ' f := h f (by simp [Op.operands, Call.operands])
      have h2 := hm fun x hx => h x (by simp [Op.operands, Call.operands, hx])
      dsimp only
      rw [h1, h2]
    | builtin b =>
      have h2 : ∀ x ∈ args, ρ x = ρ' x := fun x hx => h x (by simp [Op.operands, Call.operands, hx])
      have h3 := hm h2
      have h4 : ∀ l, args.toList = l → ∀ x ∈ l, ρ x = ρ' x := fun l hl x hx => h2 x (by rw [← Array.mem_toList_iff, hl]; exact hx)
      cases b <;> try rfl
      case len =>
        dsimp only
        generalize hl : args.toList = l
        split
        · rw [h4 _ hl _ (by simp)]
        · rename_i hn
          rfl
      case min => dsimp only; rw [h3]
      case max => dsimp only; rw [h3]
      case append =>
        dsimp only
        generalize hl : args.toList = l
        split
        · rw [h4 _ hl _ (by simp), h4 _ hl _ (List.mem_cons_of_mem _ (by simp))]
        · rfl
      case copy =>
        dsimp only
        generalize hl : args.toList = l
        split
        · rw [h4 _ hl _ (by simp), h4 _ hl _ (List.mem_cons_of_mem _ (by simp))]
        · rfl
  case build t ps =>
    dsimp only
    rw [map_pair_unp (ρ := ρ) (ρ' := ρ') fun x hx => h x (by simpa [Op.operands] using hx)]
  case buildSlice t n ps =>
    dsimp only
    rw [map_pair_congr (ρ := ρ) (ρ' := ρ') fun x hx => h x (by simpa [Op.operands] using hx)]
  case makeFunc fn a b =>
    have h1 : a.toList.map ρ = a.toList.map ρ' := List.map_congr_left fun x hx => h x (by simp [Op.operands]; exact .inl (by simpa using hx))
    have h2 : b.toList.map ρ = b.toList.map ρ' := List.map_congr_left fun x hx => h x (by simp [Op.operands]; exact .inr (by simpa using hx))
    cases fn <;> simp only [h1, h2]
  case makeMap t r => cases r <;> rfl
  case slice t x lo hi mx =>
    dsimp only
    have h0 : ρ x = ρ' x := h x (by simp [Op.operands])
    rw [h0, opt_map_congr (x := lo) (ρ := ρ) (ρ' := ρ') fun y hy => h y (by simp only [Op.operands, Array.mem_append]; simp at hy ⊢; simp [hy]),
      opt_map_congr (x := hi) (ρ := ρ) (ρ' := ρ') fun y hy => h y (by simp only [Op.operands, Array.mem_append]; simp at hy ⊢; simp [hy]),
      opt_map_congr (x := mx) (ρ := ρ) (ρ' := ρ') fun y hy => h y (by simp only [Op.operands, Array.mem_append]; simp at hy ⊢; simp [hy])]
  all_goals
    simp [Op.operands] at h
    simp only [h]
theorem aop_congr {o : Oper} {ρ ρ' : Operand → V} (h : ∀ x ∈ o.op.operands, ρ x = ρ' x) (L : Loc) : aop P Γ o ρ L = aop P Γ o ρ' L := by
  unfold aop
  rw [aop0_congr h]

theorem evalV_put {slots : List V} {dst : Option Tmp} {v : V} {x : Operand} (h : ∀ d, dst = some d → x ≠ .tmp d) : evalV (putV slots dst v) x = evalV slots x := by
  cases dst with
  | none => rfl
  | some d =>
    cases x with
    | tmp t =>
      have : d ≠ t := fun e => h d rfl (by rw [e])
      simp only [evalV, putV, List.getD_eq_getElem?_getD, List.getElem?_set_ne this]
    | _ => rfl

theorem aguard_put {o : Oper} {slots : List V} {dst : Option Tmp} {v : V} (h : ∀ d, dst = some d → d ∉ o.looksAt ops) : aguard ops (putV slots dst v) o = aguard ops slots o := by
  cases dst with
  | none => rfl
  | some d =>
    unfold aguard
    cases hg : o.guard with
    | none => rfl
    | some gw =>
      obtain ⟨g, want⟩ := gw
      dsimp only
      cases hd : (ops[g]?).bind (·.dst) with
      | none => rfl
      | some d' =>
        have : d ≠ d' := by
          rintro rfl
          exact h d rfl (List.mem_append_right _ (by simp [hg, hd]))
        simp only [Option.bind_some, putV, List.getElem?_set_ne this]

theorem idsL_rd {o : Oper} {vs : List V} {L L' : Loc} (h : ∀ g ∈ rdOf Γ o vs L', L g = L' g) : rdOf Γ o vs L = rdOf Γ o vs L' := by
  unfold rdOf at *
  congr 2
  split
  · rename_i hl
    simp only [hl, if_true] at h
    have hc : ∀ l : List Nat, (∀ g ∈ l, L g = L' g) → (l.flatMap fun g => g :: (match (L g).2 with | .vbox _ _ _ us => V.idsL us | _ => [])) = l.flatMap fun g => g :: (match (L' g).2 with | .vbox _ _ _ us => V.idsL us | _ => []) := by
      intro l
      induction l with
      | nil => intro _; rfl
      | cons g l ih =>
        intro hh
        simp only [List.flatMap_cons]
        rw [hh g (by simp), ih fun g' hg' => hh g' (by simp [hg'])]
    exact hc _ fun g hg => h g (List.mem_append_left _ (List.mem_append_left _ (List.mem_flatMap.2 ⟨g, hg, by simp⟩)))
  · rfl

theorem only_congr {L L' : Loc} {rd : List Nat} (h : ∀ g ∈ rd, L g = L' g) : L.only rd = L'.only rd := by
  funext g
  unfold Loc.only
  split
  · rename_i hg; exact h g hg
  · rfl

theorem comp_congr {o : Oper} {s s' : St} {out : Out} {f : Foot} (he : ∀ x ∈ o.op.operands, evalV s'.slots x = evalV s.slots x) (hg : aguard ops s'.slots o = aguard ops s.slots o)
    (hL : ∀ g ∈ f.rd, s'.L g = s.L g) (h : comp P Γ ops o s = some (out, f)) : comp P Γ ops o s' = some (out, f) := by
  unfold comp at h ⊢
  rw [hg]
  split at h
  · cases h
  · exact h
  · dsimp only at h ⊢
    have hvs : o.op.operands.toList.map (evalV s'.slots) = o.op.operands.toList.map (evalV s.slots) := List.map_congr_left fun x hx => he x (by simpa using hx)
    rw [hvs]
    split at h
    · cases h
    rename_i hlt
    rw [if_neg hlt]
    cases ha : aop P Γ o (evalV s.slots) (s.L.only (rdOf Γ o (o.op.operands.toList.map (evalV s.slots)) s.L)) with
    | none => rw [ha] at h; cases h
    | some x =>
      rw [ha] at h
      simp only [Option.bind_some] at h
      injection h with h; injection h with h1 h2; subst h1; subst h2
      dsimp only at hL
      rw [idsL_rd hL, only_congr hL, aop_congr he, ha]
      rfl

theorem upd_ne {wr : Wr} : ∀ {L : Loc} {g : Nat}, g ∉ wr.map (·.1) → L.upd wr g = L g := by
  induction wr with
  | nil => intros; rfl
  | cons x wr ih =>
    intro L g h
    obtain ⟨k, y⟩ := x
    simp only [List.map_cons, List.mem_cons, not_or] at h
    rw [Loc.upd, ih h.2, Loc.set_ne _ _ h.1]

theorem upd_congr {wr : Wr} : ∀ {L L' : Loc} {g : Nat}, L g = L' g → L.upd wr g = L'.upd wr g := by
  induction wr with
  | nil => intro L L' g h; exact h
  | cons x wr ih =>
    intro L L' g h
    obtain ⟨k, y⟩ := x
    rw [Loc.upd, Loc.upd]
    apply ih
    unfold Loc.set
    split
    · rfl
    · exact h

theorem upd_in {wr : Wr} : ∀ {L L' : Loc} {g : Nat}, g ∈ wr.map (·.1) → L.upd wr g = L'.upd wr g := by
  induction wr with
  | nil => intro L L' g h; simp at h
  | cons x wr ih =>
    intro L L' g h
    obtain ⟨k, y⟩ := x
    rw [Loc.upd, Loc.upd]
    by_cases hg : g ∈ wr.map (·.1)
    · exact ih hg
    · apply upd_congr
      simp only [List.map_cons, List.mem_cons] at h
      rcases h with h | h
      · subst h; rw [Loc.set_same, Loc.set_same]
      · exact absurd h hg

theorem upd_comm {a b : Wr} {L : Loc} (h : ∀ g ∈ a.map (·.1), g ∉ b.map (·.1)) : (L.upd a).upd b = (L.upd b).upd a := by
  funext g
  by_cases ha : g ∈ a.map (·.1)
  · rw [upd_ne (h g ha)]; exact upd_in ha
  · rw [upd_ne (wr := a) ha]
    exact upd_congr (upd_ne ha)

def indep' (a b : Foot) : Bool := (a.quiet && b.quiet) || indep a b

theorem indep_spec {a b : Foot} (h : indep' a b = true) : (∀ g ∈ a.wr, g ∉ b.rd) ∧ (∀ g ∈ b.wr, g ∉ a.rd) ∧ (∀ g ∈ a.wr, g ∉ b.wr) := by
  unfold indep' at h
  rw [Bool.or_eq_true] at h
  rcases h with h | h
  · simp [Foot.quiet] at h
    obtain ⟨h1, h3⟩ := h
    rw [h1, h3]
    exact ⟨by simp, by simp, by simp⟩
  · simp only [indep, Bool.and_eq_true, List.all_eq_true, Bool.not_eq_true'] at h
    obtain ⟨h1, h2⟩ := h
    refine ⟨fun g hg hb => ?_, fun g hg hb => ?_, fun g hg hb => ?_⟩
    · have := (h1 g hg).1; simp [hb] at this
    · have := h2 g hg; simp [hb] at this
    · have := (h1 g hg).2; simp [hb] at this

theorem astep_swap {oi oj : Oper} {s s1 s2 : St} {fi fj : Foot} (hap : oi.apart ops oj = true) (hin : indep' fi fj = true) (h1 : astep P Γ ops oi s = some (s1, fi)) (h2 : astep P Γ ops oj s1 = some (s2, fj)) :
    ∃ s1', astep P Γ ops oj s = some (s1', fj) ∧ astep P Γ ops oi s1' = some (s2, fi) := by
  rw [astep_comp] at h1 h2
  cases hc1 : comp P Γ ops oi s with
  | none => rw [hc1] at h1; cases h1
  | some p1 =>
  obtain ⟨out1, f1⟩ := p1
  rw [hc1] at h1
  injection h1 with h1; injection h1 with e1 e2; subst e1; subst e2
  dsimp only at h2 hin ⊢
  cases hc2 : comp P Γ ops oj (act s oi.dst out1) with
  | none => rw [hc2] at h2; cases h2
  | some p2 =>
  obtain ⟨out2, f2⟩ := p2
  rw [hc2] at h2
  injection h2 with h2; injection h2 with e1 e2; subst e1; subst e2
  dsimp only at hin ⊢
  obtain ⟨a1, a2, a3⟩ := Oper.apart_spec hap
  obtain ⟨i1, i2, i3⟩ := indep_spec hin
  have w1 := comp_foot hc1
  have w2 := comp_foot hc2
  have hlook : ∀ {o : Oper} {dst : Option Tmp} {v : V} {slots : List V}, (∀ d, dst = some d → d ∉ o.looksAt ops) → ∀ x ∈ o.op.operands, evalV (putV slots dst v) x = evalV slots x := by
    intro o dst v slots hd x hx
    refine evalV_put fun d hdd hxd => hd d hdd ?_
    subst hxd
    exact List.mem_append_left _ (List.mem_filterMap.2 ⟨.tmp d, by simpa using hx, rfl⟩)
  have c2 : comp P Γ ops oj s = some (out2, f2) := by
    refine comp_congr (s := act s oi.dst out1) (fun x hx => (hlook a1 x hx).symm) (aguard_put a1).symm (fun g hg => ?_) hc2
    refine (upd_ne ?_).symm
    rw [← w1]; exact fun hh => i1 g hh hg
  have c1 : comp P Γ ops oi (act s oj.dst out2) = some (out1, f1) := by
    refine comp_congr (s := s) (fun x hx => hlook a3 x hx) (aguard_put a3) (fun g hg => ?_) hc1
    refine upd_ne ?_
    rw [← w2]; exact fun hh => i2 g hh hg
  refine ⟨act s oj.dst out2, ?_, ?_⟩
  · rw [astep_comp, c2]; rfl
  · rw [astep_comp, c1]
    simp only [Option.map_some]
    congr 2
    unfold act
    congr 1
    · cases hd1 : oi.dst with
      | none => rfl
      | some d1 =>
        cases hd2 : oj.dst with
        | none => rfl
        | some d2 =>
          have : d2 ≠ d1 := fun e => a2 d1 hd1 (by rw [hd2, e])
          exact List.set_comm _ _ this
    · refine (upd_comm ?_).symm
      rw [← w1, ← w2]; exact i3

/-- Every order, in the machine over plain data. -/
def AAny (P : Program) (Γ : Env) (ops : Array Oper) (fp : Nat → Foot) (Q : St → Prop) : Nat → Array Bool → St → Prop
  | 0, listed, s => Region.ready .any ops listed = [] ∧ Q s
  | n + 1, listed, s => (Region.ready .any ops listed = [] → Q s) ∧
    ∀ i ∈ Region.ready .any ops listed, ∃ o s', ops[i]? = some o ∧ astep P Γ ops o s = some (s', fp i) ∧ AAny P Γ ops fp Q n (listed.setIfInBounds i true) s'

theorem aany_wp {N : Nat} {w0 : World} {O0 : Nat → Prop} {γ0 : E0} (hΓ : ∀ f sp, Γ f = some sp → Sound P f sp) {fp : Nat → Foot} {K : St → Prop} {Q : Exit → Act → World → Prop}
    (hQ : ∀ s a w, K s → Rel N w0 O0 γ0 s a w → Q .normal a w) : ∀ (n : Nat) (listed : Array Bool) (s : St) (a : Act) (w : World), AAny P Γ ops fp K n listed s → Rel N w0 O0 γ0 s a w → wpAny P .any ops Q n listed a w
  | 0, _, s, a, w, h, hr => ⟨h.1, hQ s a w h.2 hr⟩
  | n + 1, listed, s, a, w, h, hr => ⟨fun h0 => hQ s a w (h.1 h0) hr, fun i hi => by
      obtain ⟨o, s', ho, hst, hn⟩ := h.2 i hi
      exact astep_ok hΓ ho hst hr fun a' w' hr' => aany_wp hΓ hQ n _ s' a' w' hn hr'⟩

/-- i comes ahead of j, maybe by others. -/
inductive Ahead (ops : Array Oper) (i : Nat) : Nat → Prop where
  | refl : Ahead ops i i
  | step (m j : Nat) : Ahead ops i m → edge ops m j = true → Ahead ops i j
theorem descs_ahead {i j : Nat} (h : j ∈ descs ops i) : Ahead ops i j := by
  unfold descs at h
  have : ∀ (l acc : List Nat), (∀ j ∈ acc, Ahead ops i j) → ∀ j ∈ l.foldl (fun acc j => if acc.any (fun m => edge ops m j) then j :: acc else acc) acc, Ahead ops i j := by
    intro l
    induction l with
    | nil => intro acc ha j hj; exact ha j hj
    | cons k l ih =>
      intro acc ha j hj
      refine ih _ (fun q hq => ?_) j hj
      dsimp only at hq
      split at hq
      · rename_i hany
        rcases List.mem_cons.1 hq with rfl | hq
        · obtain ⟨m, hm, he⟩ := List.any_eq_true.1 hany
          exact .step m q (ha m hm) he
        · exact ha q hq
      · exact ha q hq
  exact this _ [i] (fun j hj => by simp at hj; subst hj; exact .refl) j h
theorem edge_spec {m j : Nat} (h : edge ops m j = true) : ∃ o, ops[j]? = some o ∧ ∃ e ∈ o.after, Region.binds .any e = true ∧ e.on = m := by
  unfold edge at h
  split at h
  · rename_i o ho
    obtain ⟨e, he, hb⟩ := Array.any_eq_true'.1 h
    simp only [Bool.and_eq_true, beq_iff_eq] at hb
    exact ⟨o, ho, e, he, hb.1, hb.2⟩
  · cases h
def Closed (ops : Array Oper) (listed : Array Bool) : Prop := ∀ m o, ops[m]? = some o → listed.getD m false = true → ∀ e ∈ o.after, Region.binds .any e = true → listed.getD e.on false = true
theorem Closed.set {listed : Array Bool} (h : Closed ops listed) {j : Nat} (hj : j ∈ Region.ready .any ops listed) : Closed ops (listed.setIfInBounds j true) := by
  intro m o ho hm e he hb
  by_cases hjm : j = m
  · subst hjm
    obtain ⟨_, o', ho', hall⟩ := mem_ready.1 hj
    rw [ho] at ho'; injection ho' with ho'; subst ho'
    exact getD_set_true (hall e he hb)
  · rw [getD_set_ne false hjm] at hm
    exact getD_set_true (h m o ho hm e he hb)
theorem Closed.reach {listed : Array Bool} (h : Closed ops listed) {i j : Nat} (hi : listed.getD i true = false) (hr : Ahead ops i j) : listed.getD j false = false := by
  induction hr with
  | refl =>
    rcases Nat.lt_or_ge i listed.size with h' | h'
    · simp [h'] at hi ⊢; exact hi
    · simp [Array.getElem?_eq_none h']
  | step m j _ he ih =>
    obtain ⟨o, ho, e, he1, he2, he3⟩ := edge_spec he
    cases hx : listed.getD j false with
    | false => rfl
    | true =>
      have := h j o ho hx e he1 he2
      rw [he3, ih] at this; cases this

theorem aany_first {fp : Nat → Foot} {K : St → Prop} {i : Nat} {oi : Oper} (hi : ops[i]? = some oi) : ∀ (fuel : Nat) (listed : Array Bool) (s s1 : St),
    Closed ops listed → (∀ j oj, ops[j]? = some oj → j ≠ i → listed.getD j true = false → (∀ e ∈ oj.after, Region.binds .any e = true → e.on ≠ i) → ¬ Ahead ops i j → oi.apart ops oj = true ∧ indep' (fp i) (fp j) = true) →
    i ∈ Region.ready .any ops listed → astep P Γ ops oi s = some (s1, fp i) → AAny P Γ ops fp K fuel (listed.setIfInBounds i true) s1 → AAny P Γ ops fp K (fuel + 1) listed s := by
  intro fuel
  induction fuel with
  | zero =>
    intro listed s s1 _ _ hr hst H
    refine ⟨fun h => (by rw [h] at hr; cases hr), fun j hj => ?_⟩
    by_cases hji : j = i
    · subst hji; exact ⟨oi, s1, hi, hst, H⟩
    · have := ready_mono hj hji
      rw [H.1] at this
      cases this
  | succ fuel ih =>
    intro listed s s1 hcl hfree hr hst H
    refine ⟨fun h => (by rw [h] at hr; cases hr), fun j hj => ?_⟩
    by_cases hji : j = i
    · subst hji; exact ⟨oi, s1, hi, hst, H⟩
    · obtain ⟨oj, s2, hoj, hst2, H2⟩ := H.2 j (ready_mono hj hji)
      obtain ⟨hjun, oj', hoj', hall⟩ := mem_ready.1 hj
      rw [hoj] at hoj'; injection hoj' with hoj'; subst hoj'
      have hnot : ∀ e ∈ oj.after, Region.binds .any e = true → e.on ≠ i := fun e he hb heq => by
        have h1 := hall e he hb
        have h0 := (mem_ready.1 hr).1
        rw [heq] at h1
        rcases Nat.lt_or_ge i listed.size with h' | h'
        · simp [h'] at h0 h1; rw [h0] at h1; cases h1
        · simp [Array.getElem?_eq_none h'] at h1
      have hnr : ¬ Ahead ops i j := by
        intro h
        cases h with
        | refl => exact hji rfl
        | step m _ hm he =>
          obtain ⟨o, ho, e, he1, he2, he3⟩ := edge_spec he
          rw [hoj] at ho; injection ho with ho; subst ho
          have h1 := hall e he1 he2
          rw [he3, hcl.reach (mem_ready.1 hr).1 hm] at h1; cases h1
      obtain ⟨hap, hin⟩ := hfree j oj hoj hji hjun hnot hnr
      obtain ⟨s1', k1, k2⟩ := astep_swap hap hin hst hst2
      refine ⟨oj, s1', hoj, k1, ?_⟩
      refine ih (listed.setIfInBounds j true) s1' s2 (hcl.set hj) (fun k ok hk hki hun hno => ?_) (ready_mono hr (Ne.symm hji)) k2 ?_
      · refine hfree k ok hk hki ?_ hno
        by_cases hjk : j = k
        · subst hjk; exact hjun
        · rw [getD_set_ne true hjk] at hun; exact hun
      · rw [Array.setIfInBounds_comm _ _ hji]
        exact H2

theorem aany_lex {fp : Nat → Foot} {K : St → Prop} (hfp : ∀ i j oj, i < j → ops[j]? = some oj → (∀ e ∈ oj.after, Region.binds .any e = true → e.on ≠ i) → ¬ Ahead ops i j → indep' (fp i) (fp j) = true) :
    ∀ (l : List Oper) (k : Nat) (listed : Array Bool) (s s' : St) (log : List Foot), Closed ops listed → (∀ j, l[j]? = ops[k + j]?) → (∀ j, listed.getD j true = false → k ≤ j) →
    Region.lexFrom .any ops l.length k listed = true → arunD P Γ ops l s = some (s', log) → (∀ j, j < l.length → log[j]? = some (fp (k + j))) → K s' → AAny P Γ ops fp K l.length listed s
  | [], _, _, s, s', log, _, _, _, hB, h, _, hK => by
    simp only [arunD, Option.some.injEq, Prod.mk.injEq] at h
    rw [h.1]
    exact ⟨by simpa [Region.lexFrom] using hB, hK⟩
  | o :: l, k, listed, s, s', log, hcl, hl, hk, hB, h, hlog, hK => by
    have h0 : ops[k]? = some o := by simpa using (hl 0).symm
    simp only [List.length_cons, Region.lexFrom, Bool.and_eq_true] at hB
    obtain ⟨⟨hr, hf⟩, hB'⟩ := hB
    simp only [arunD] at h
    cases hst : astep P Γ ops o s with
    | none => rw [hst] at h; cases h
    | some p =>
      obtain ⟨s1, f⟩ := p
      rw [hst] at h
      simp only [Option.bind_some] at h
      cases hrest : arunD P Γ ops l s1 with
      | none => rw [hrest] at h; cases h
      | some q =>
        obtain ⟨s2, log'⟩ := q
        rw [hrest] at h
        simp only [Option.map_some, Option.some.injEq, Prod.mk.injEq] at h
        obtain ⟨e1, e2⟩ := h
        subst e1; subst e2
        have hf0 : f = fp k := by simpa using hlog 0 (by simp)
        subst hf0
        refine aany_first h0 l.length listed s s1 hcl (fun j oj hj hne hun hno hnr => ⟨Region.free_spec h0 hf j oj hj hne hun hno, hfp k j oj ?_ hj hno hnr⟩) (by simpa using hr) hst ?_
        · have := hk j hun; omega
        · refine aany_lex hfp l (k + 1) _ s1 s2 log' (hcl.set (by simpa using hr)) (fun j => by have := hl (j + 1); simpa [Nat.add_assoc, Nat.add_comm 1 j] using this) (fun j hj => ?_) hB' hrest (fun j hj => ?_) hK
          · by_cases hjk : k = j
            · subst hjk
              have hlt : k < listed.size ∨ ¬ k < listed.size := Nat.lt_or_ge _ _ |>.imp id (by omega)
              rcases hlt with hlt | hlt
              · simp [hlt] at hj
              · simp [hlt] at hj
            · rw [getD_set_ne true hjk] at hj
              have := hk j hj; omega
          · have := hlog (j + 1) (by simpa using hj)
            simpa [Nat.add_assoc, Nat.add_comm 1 j] using this

theorem arunD_length : ∀ {l : List Oper} {s s' : St} {log : List Foot}, arunD P Γ ops l s = some (s', log) → log.length = l.length
  | [], _, _, _, h => by simp only [arunD, Option.some.injEq, Prod.mk.injEq] at h; rw [← h.2]; rfl
  | o :: l, s, s', log, h => by
    simp only [arunD] at h
    cases hst : astep P Γ ops o s with
    | none => rw [hst] at h; cases h
    | some p =>
      rw [hst] at h
      simp only [Option.bind_some] at h
      cases hrest : arunD P Γ ops l p.1 with
      | none => rw [hrest] at h; cases h
      | some q =>
        rw [hrest] at h
        simp only [Option.map_some, Option.some.injEq, Prod.mk.injEq] at h
        rw [← h.2]
        simp [arunD_length (s' := q.1) (log := q.2) hrest]

theorem chk_spec {log : List Foot} (h : chk ops log = true) {i j : Nat} {a b : Foot} {oj : Oper} (hij : i < j) (ha : log[i]? = some a) (hb : log[j]? = some b) (hj : ops[j]? = some oj)
    (hno : ∀ e ∈ oj.after, Region.binds .any e = true → e.on ≠ i) (hnr : ¬ Ahead ops i j) : indep' a b = true := by
  unfold chk at h
  rw [Bool.or_eq_true] at h
  rcases h with h | h
  · rw [List.all_eq_true] at h
    unfold indep'
    rw [h a (List.mem_of_getElem? ha), h b (List.mem_of_getElem? hb)]; rfl
  · rw [List.all_eq_true] at h
    have h1 := h i (List.mem_range.2 (List.getElem?_eq_some_iff.1 ha).1)
    rw [List.all_eq_true] at h1
    have h2 := h1 j (List.mem_range.2 (List.getElem?_eq_some_iff.1 hb).1)
    rw [ha, hb] at h2
    simp only [Bool.or_eq_true, Bool.not_eq_true', decide_eq_false_iff_not] at h2
    rcases h2 with (h2 | h2) | h2
    · exact absurd hij h2
    · simp only [edge, hj] at h2
      obtain ⟨e, he, hbb⟩ := Array.any_eq_true'.1 h2
      simp only [Bool.and_eq_true, beq_iff_eq] at hbb
      exact absurd hbb.2 (hno e he hbb.1)
    · rcases h2 with h2 | h2
      · unfold indep'; simpa using h2
      · exact absurd (descs_ahead (by simpa using h2)) hnr

section
variable {N : Nat} {w0 : World} {O0 : Nat → Prop} {γ0 : E0}

theorem Rel.drew {s : St} {a : Act} {w : World} (h : Rel N w0 O0 γ0 s a w) : Rel N w0 O0 γ0 s a w.drew := by
  obtain ⟨c, h⟩ := h
  obtain ⟨m, g⟩ := h.mem.drew
  exact ⟨c, m, h.slots.grow g, h.defers, h.hγ, h.stay, RelC.given' h.given g, h.cells⟩

theorem region_drawn (hΓ : ∀ f sp, Γ f = some sp → Sound P f sp) (hP : P.follows .mixedOrders = true) (hlex : Region.lexB .any ops = true) {id : Nat} {s s' : St} {log : List Foot}
    (h : arunD P Γ ops ops.toList s = some (s', log)) (hc : chk ops log = true) {a : Act} {w : World} (hr : Rel N w0 O0 γ0 s a w) {Q : Exit → Act → World → Prop}
    (hQ : ∀ a w, Rel N w0 O0 γ0 s' a w → Q .normal a w) : (Code.region id ops true).wp P Q a w := by
  simp only [Region.lexB, Bool.and_eq_true] at hlex
  refine wp_region_any hP ?_
  have hA : AAny P Γ ops (fun i => log.getD i {}) (fun s => s = s') ops.toList.length (Array.replicate ops.size false) s := by
    refine aany_lex ?_ ops.toList 0 _ s s' log (fun m o ho hm => by
      have hlt : m < ops.size := (Array.getElem?_eq_some_iff.1 ho).1
      simp [hlt] at hm) (by simp) (by simp) (by simpa using hlex.2) h (fun j hj => ?_) rfl
    · intro i j oj hij hj hno hnr
      have hjl : j < log.length := by rw [arunD_length h]; simpa using (Array.getElem?_eq_some_iff.1 hj).1
      have e1 := List.getElem?_eq_getElem hjl
      have e2 := List.getElem?_eq_getElem (show i < log.length by omega)
      rw [List.getD_eq_getElem?_getD, List.getD_eq_getElem?_getD, e1, e2]
      exact chk_spec hc hij e2 e1 hj hno hnr
    · have hjl : j < log.length := by rw [arunD_length h]; exact hj
      have e1 := List.getElem?_eq_getElem hjl
      rw [Nat.zero_add, List.getD_eq_getElem?_getD, e1]; rfl
  have := aany_wp (N := N) (w0 := w0) (O0 := O0) (γ0 := γ0) (Q := Q) hΓ (K := fun s => s = s') (fun s a w hs hr => by subst hs; exact hQ a w hr) _ _ s a w.drew hA (hr.drew)
  simpa using this

theorem arun_ok (hΓ : ∀ f sp, Γ f = some sp → Sound P f sp) {Q : Exit → Act → World → Prop} : ∀ (l : List Oper) (k : Nat) (s s' : St) (a : Act) (w : World), (∀ j, l[j]? = ops[k + j]?) →
    arun P Γ ops l s = some s' → Rel N w0 O0 γ0 s a w → (∀ a w, Rel N w0 O0 γ0 s' a w → Q .normal a w) → wpOps P ops Q (List.range' k l.length) a w
  | [], k, s, s', a, w, _, h, hr, hQ => by
    simp only [arun, Option.some.injEq] at h
    subst h
    exact hQ a w hr
  | o :: l, k, s, s', a, w, hl, h, hr, hQ => by
    have h0 : ops[k]? = some o := by simpa using (hl 0).symm
    simp only [arun] at h
    cases hst : astep P Γ ops o s with
    | none => rw [hst] at h; cases h
    | some p =>
      obtain ⟨s1, f⟩ := p
      rw [hst] at h
      simp only [Option.bind_some] at h
      simp only [List.length_cons, List.range'_succ]
      rw [wpOps_cons]
      exact astep_ok hΓ h0 hst hr fun a' w' hr' => arun_ok hΓ l (k + 1) s1 s' a' w' (fun j => by have := hl (j + 1); simpa [Nat.add_assoc, Nat.add_comm 1 j] using this) h hr' hQ

theorem region_text (hΓ : ∀ f sp, Γ f = some sp → Sound P f sp) {id : Nat} {s s' : St} (h : arun P Γ ops ops.toList s = some s') {a : Act} {w : World} (hr : Rel N w0 O0 γ0 s a w)
    {Q : Exit → Act → World → Prop} (hQ : ∀ a w, Rel N w0 O0 γ0 s' a w → Q .normal a w) : (Code.region id ops false).wp P Q a w := by
  refine wp_region ?_
  have := arun_ok (Q := Q) hΓ ops.toList 0 s s' a w (by simp) h hr hQ
  rw [List.range_eq_range']
  simpa using this
end
end
end Wf

/-
  Code, by the machine over plain data.
-/
namespace Wf
open Go Go.RowKit

theorem get_eq {L L' : Loc} {g : Nat} (h : L' g = L g) (n : Nat) : L'.get g n = L.get g n := by unfold Loc.get; rw [h]

theorem rowOf_eq {L L' : Loc} {k : Nat} (h : L' (tb k) = L (tb k)) (n i o : Nat) : rowOf L' k n i o = rowOf L k n i o := by unfold rowOf tabAt; rw [get_eq h]
theorem mapOf_eq {L L' : Loc} {k : Nat} (h : L' (tb k) = L (tb k)) (n i o : Nat) : mapOf L' k n i o = mapOf L k n i o := by unfold mapOf tabAt; rw [get_eq h]
theorem ovs_of : ∀ {ks : List Nat} {vs cs : List V} {i : Nat} {v : V}, (ovs ks vs cs)[i]? = some v → v ∈ vs ∨ v ∈ cs
  | [], vs, cs, i, v, h => .inr (List.mem_of_getElem? (by simpa [ovs] using h))
  | _ :: _, [], cs, i, v, h => .inr (List.mem_of_getElem? (by simpa [ovs] using h))
  | k :: ks, x :: vs, cs, i, v, h => by
    simp only [ovs, List.getElem?_set] at h
    split at h
    · split at h
      · injection h with h; subst h; exact .inl (by simp)
      · cases h
    · rcases ovs_of h with h | h
      · exact .inl (by simp [h])
      · exact .inr h
theorem ovs_ids {ks : List Nat} {vs : List V} {ds : List D} {i : Nat} {v : V} (h : (ovs ks vs (ds.map .d))[i]? = some v) {g : Nat} (hg : g ∈ v.ids) : g ∈ V.idsL vs := by
  rcases ovs_of h with h | h
  · exact idsL_mem h hg
  · obtain ⟨d, _, rfl⟩ := List.mem_map.1 h
    simp [V.ids] at hg
theorem TabRel.fewer {L L' : Loc} {c : Ctx} {R : Nat → Prop} {w : World} (h : TabRel L c R w) (hT : ∀ k x, tabOf L' k = some x → tabOf L k = some x) : TabRel L' c R w := by
  have ht : ∀ k i q, There L' k i q → There L k i q := fun k i q h => h.of fun wr T e => ⟨wr, hT k _ e⟩
  exact ⟨fun k wr T i cs h1 h2 => h.obj k wr T i cs (hT _ _ h1) h2, fun k wr T i b h1 h2 => h.tight k wr T i b (hT _ _ h1) h2, fun k i q k' i' q' b h1 h2 h3 h4 => h.inj k i q k' i' q' b (ht _ _ _ h1) (ht _ _ _ h2) h3 h4,
    fun k T i q b h1 h2 h3 => h.wr k T i q b (hT _ _ h1) (ht _ _ _ h2) h3, fun k T i q b h1 h2 h3 => h.ro k T i q b (hT _ _ h1) (ht _ _ _ h2) h3⟩

theorem Val.drop {c : Ctx} {L L' : Loc} {w : World} {N : Nat} {v : V} {u : Value} (h : Val c L w N v u) (hown : ∀ b, own c L' b → own c L b) : (∀ g ∈ v.ids, L' g = L g) → Val c L' w N v u := by
  induction h with
  | d x v h => exact fun _ => .d _ _ (h.out hown (Nat.le_refl _))
  | p k x v h => exact fun _ => .p _ _ _ (h.out hown (Nat.le_refl _))
  | vref k n i o lo len v h1 h2 =>
    intro hi
    have e := hi (tb k) (by simp [V.ids])
    exact .vref k n i o lo len v (by rw [e]; exact h1) (by rw [rowOf_eq e]; exact h2)
  | vept k n i o j off v h1 h2 =>
    intro hi
    have e := hi (tb k) (by simp [V.ids])
    exact .vept k n i o j off v (by rw [e]; exact h1) (by rw [rowOf_eq e]; exact h2)
  | vmap k n i o v h1 h2 =>
    intro hi
    have e := hi (tb k) (by simp [V.ids])
    exact .vmap k n i o v (by rw [e]; exact h1) (by rw [mapOf_eq e]; exact h2)
  | agg ds ks vs us h1 _ h3 ih =>
    intro hi
    exact .agg ds ks vs us h1 (fun i v u ha hu => ih i v u ha hu fun g hg => hi g (by simp only [V.ids]; exact ovs_ids ha hg)) h3
  | ptr g n off v h1 h2 =>
    intro hi
    have e := hi g (by simp [V.ids])
    exact .ptr g n off v (by rw [e]; exact h1) (by rw [get_eq e]; exact h2)
  | ept g n i off v h1 h2 =>
    intro hi
    have e := hi g (by simp [V.ids])
    exact .ept g n i off v (by rw [e]; exact h1) (by rw [get_eq e]; exact h2)
  | ref g n off len v h1 h2 h3 =>
    intro hi
    have e := hi g (by simp [V.ids])
    exact .ref g n off len v (by rw [e]; exact h1) (by rw [get_eq e]; exact h2) (by rw [get_eq e]; exact h3)
  | bref g n off len v h1 h2 =>
    intro hi
    have e := hi g (by simp [V.ids])
    exact .bref g n off len v (by rw [e]; exact h1) (by rw [get_eq e]; exact h2)
  | map g n v h1 h2 =>
    intro hi
    have e := hi g (by simp [V.ids])
    exact .map g n v (by rw [e]; exact h1) (by rw [get_eq e]; exact h2)
  | clo f a b va vb h1 h2 _ _ ih1 ih2 =>
    intro hi
    refine .clo f a b va vb h1 h2 (fun i v u ha hu => ih1 i v u ha hu fun g hg => hi g ?_) (fun i v u ha hu => ih2 i v u ha hu fun g hg => hi g ?_)
    · simp only [V.ids, List.mem_append]; exact .inl (idsL_mem (List.mem_of_getElem? ha) hg)
    · simp only [V.ids, List.mem_append]; exact .inr (idsL_mem (List.mem_of_getElem? ha) hg)
  | tup l vs h1 _ ih =>
    intro hi
    refine .tup l vs h1 fun i v u ha hu => ih i v u ha hu fun g hg => hi g ?_
    simp only [V.ids]; exact idsL_mem (List.mem_of_getElem? ha) hg

section
variable {P : Program} {Γ : Env} {N : Nat} {w0 : World} {O0 : Nat → Prop} {γ0 : E0}

theorem Wk.rel {s t : St} (h : Wk s t) : ∀ {a : Act} {w : World}, Rel N w0 O0 γ0 s a w → Rel N w0 O0 γ0 t a w := by
  induction h with
  | trans s t u _ _ ih1 ih2 => exact fun hr => ih2 (ih1 hr)
  | nil s i g sz hgs hi =>
    rintro a w ⟨c, hr⟩
    have hi' : i < a.tmps.toList.length := by
      rw [hr.slots.1]
      rcases hi with hi | hi <;> exact (List.getElem?_eq_some_iff.1 hi).1
    have hu := List.getElem?_eq_getElem hi'
    have hcell : ∃ x, a.tmps.toList[i] = .slice x 0 0 := by
      rcases hi with hi | hi
      · have hv := (hr.slots.2 i _ _ hi hu).dat
        generalize a.tmps.toList[i] = u at hv
        cases hv with
        | slE _ x cap h _ _ => rw [h rfl]; exact ⟨x, rfl⟩
        | sl _ _ _ _ _ _ _ h => exact absurd rfl h
      · have hv := (hr.slots.2 i _ _ hi hu).dat
        generalize a.tmps.toList[i] = u at hv
        cases hv with
        | slE _ x cap _ h _ => rw [(h rfl).2]; exact ⟨x, rfl⟩
        | sl _ _ _ _ _ _ _ h => exact absurd rfl h
    obtain ⟨x, hx⟩ := hcell
    have hd := none_row g sz x (wr := []) hgs hr.mem (Grow.refl ..) (by simp [Loc.upd, Loc.new])
    have := hr.did hd (some i)
    have e : a.put (some i) (.slice x 0 0) = a := by
      unfold Act.put
      dsimp only
      congr 1
      rw [← hx]
      apply Array.ext'
      rw [Array.toList_setIfInBounds]
      exact List.set_getElem_self hi'
    rw [e] at this
    exact this
  | drop s s' K h1 h3 h4 h5 h6 =>
    rintro a w ⟨c, hr⟩
    have hown : ∀ b, own c s'.L b → own c s.L b := by
      rintro b (hb | ⟨g, hg, hl⟩)
      · exact .inl hb
      · refine .inr ⟨g, hg, ?_⟩
        by_cases hk : g ∈ K
        · rw [← h3 g hk]; exact hl
        · rw [h4 g hk] at hl; cases hl
    have hnd : ∀ g, (s'.L g).2 ≠ .dead → g ∈ K := fun g hg => by
      by_cases hk : g ∈ K
      · exact hk
      · rw [h4 g hk] at hg; exact absurd rfl hg
    have hnd' : ∀ g, (s'.L g).2 ≠ .dead → (s.L g).2 ≠ .dead := fun g hg => by rw [← h3 g (hnd g hg)]; exact hg
    have htabs : ∀ k x, tabOf s'.L k = some x → tabOf s.L k = some x := fun k x e => by
      have hd : (s'.L (tb k)).2 ≠ .dead := by intro e'; unfold tabOf at e; rw [e'] at e; cases e
      rw [← tabOf_same (h3 (tb k) (hnd _ hd))]; exact e
    refine ⟨c, ⟨fun g => ?_, fun g g' b e1 e2 d1 d2 => hr.mem.inj g g' b e1 e2 (hnd' g d1) (hnd' g' d2), fun g b e d => hr.mem.mine g b e (hnd' g d), fun g b e d t => hr.mem.mineN g b e (hnd' g d) (by rw [← h3 g (hnd g d)]; exact t), hr.mem.tab.fewer htabs, hr.mem.iotab, fun k => ?_, hr.mem.size, hr.mem.size0,
      hr.mem.os, hr.mem.tape, hr.mem.output, hr.mem.keep, hr.mem.osub⟩, ⟨by rw [h1]; exact hr.slots.1, fun i v u hv hu => ?_⟩, hr.defers, hr.hγ, fun k hk => ⟨fun T e => (hr.stay k hk).1 T (htabs k _ e), (hr.stay k hk).2⟩, fun g e => by
      by_cases hk : g ∈ K
      · rw [h3 g hk] at e ⊢; exact hr.given g e
      · rw [h4 g hk]; exact .inl rfl, hr.cells⟩
    · by_cases hk : g ∈ K
      · have ho := hr.mem.obj g
        have h6' := h6 g hk
        rw [h3 g hk] at h6' ⊢
        have rows : ∀ {sz : Nat} {els : List D} {β : Option Nat}, (match β with
            | none => els = []
            | some b => ∃ (x : Array Value) (T : TypeId) (fz : Nat × Nat), w.heap[b]? = some (.cells x T fz) ∧ Unfrozen w b x.size ∧ els.length * sz ≤ x.size ∧ RowAt w (own c s.L) N c.γ b sz els) →
            (match β with
            | none => els = []
            | some b => ∃ (x : Array Value) (T : TypeId) (fz : Nat × Nat), w.heap[b]? = some (.cells x T fz) ∧ Unfrozen w b x.size ∧ els.length * sz ≤ x.size ∧ RowAt w (own c s'.L) N c.γ b sz els) := by
          intro sz els β ho
          cases β with
          | none => exact ho
          | some b =>
            obtain ⟨x, T, fz, p1, p2, p3, vs, p4⟩ := ho
            exact ⟨x, T, fz, p1, p2, p3, vs, fun i d hd => ⟨(p4 i d hd).1.out hown (Nat.le_refl _), (p4 i d hd).2⟩⟩
        cases hx : (s.L g).2 with
        | dead => trivial
        | tbl wr T => trivial
        | box ag ds =>
          rw [hx] at ho
          obtain ⟨b, x, T, fz, p1, p2, p3, p4, p5⟩ := ho
          exact ⟨b, x, T, fz, p1, p2, p3, p4, fun i d u hd hu => ⟨(p5 i d u hd hu).1.out hown (Nat.le_refl _), (p5 i d u hd hu).2⟩⟩
        | fbox ag ds =>
          rw [hx] at ho
          obtain ⟨b, x, T, fz, p1, p2, p4, p5⟩ := ho
          exact ⟨b, x, T, fz, p1, p2, p4, fun i d u hd hu => ⟨(p5 i d u hd hu).1.out hown (Nat.le_refl _), (p5 i d u hd hu).2⟩⟩
        | vbox ag ds ks vs =>
          rw [hx] at ho
          obtain ⟨b, x, T, fz, p1, p2, p3, p4, p5⟩ := ho
          exact ⟨b, x, T, fz, p1, p2, p3, p4, fun i v u hd hu => ⟨(p5 i v u hd hu).1.drop hown fun g' hg' => h3 g' (h6' ag ds ks vs hx g' (ovs_ids hd hg')), (p5 i v u hd hu).2⟩⟩
        | arr sz els lv => rw [hx] at ho; exact rows ho
        | trow sz els => rw [hx] at ho; exact rows ho
        | map kk es =>
          rw [hx] at ho
          obtain ⟨b, m, k, p1, p2, p3, p4⟩ := ho
          exact ⟨b, m, k, p1, p2, p3, fun i e p he hp => ⟨(p4 i e p he hp).1, (p4 i e p he hp).2.out hown (Nat.le_refl _)⟩⟩
      · rw [h4 g hk]; trivial
    · by_cases hk : tb k ∈ K
      · rw [h3 _ hk]; exact hr.mem.only k
      · rw [h4 _ hk]; exact .inl rfl
    · rcases h5 i v hv with h | ⟨h, hk⟩
      · subst h; exact .d _ _ (.undef _)
      · exact (hr.slots.2 i v u h hu).drop hown fun g hg => h3 g (hk g hg)

def AExit.real : AExit → Exit
  | .normal => .normal
  | .exit id => .exit id
  | .ret => .ret

theorem least (p : Nat → Prop) (h : ∃ n, p n) : ∃ n, p n ∧ ∀ m, p m → n ≤ m := by
  obtain ⟨n, hn⟩ := h
  induction n using Nat.strongRecOn with
  | _ n ih =>
    by_cases hx : ∃ m, m < n ∧ p m
    · obtain ⟨m, h1, h2⟩ := hx; exact ih m h1 h2
    · exact ⟨n, hn, fun m hm => Nat.le_of_not_lt fun hh => hx ⟨m, hh, hm⟩⟩
end
end Wf

/-
  Functions: from the machine over plain data to what a call does.
-/
namespace Wf
open Go Go.RowKit

mutual
/-- Data that refers to nothing of the caller's. -/
def D.free : D → Bool
  | .agg cs => D.freeL cs
  | .sl .fresh l | .sl .full l | .sl .nil l => D.freeL l
  | .fn _ a b => D.freeL a && D.freeL b
  | .mp .own _ es => D.freeE es
  | .sl _ _ | .at_ _ | .tup _ | .mp _ _ _ => false
  | _ => true
def D.freeL : List D → Bool
  | [] => true
  | d :: r => d.free && D.freeL r
def D.freeE : List (Int × D) → Bool
  | [] => true
  | p :: r => D.freeP p && D.freeE r
def D.freeP : Int × D → Bool
  | (_, d) => d.free
end

mutual
/-- Data, as a callee sees it. -/
def D.lent : D → D
  | .agg cs => .agg (D.lentL cs)
  | .sl .nil l => .sl .nil (D.lentL l)
  | .sl .nn [] => .sl .nn []
  | .sl .nul [] => .sl .nul []
  | .sl _ l => .sl .lent (D.lentL l)
  | .mp _ k es => .mp .lent k (D.lentE es)
  | .fn f a b => .fn f (D.lentL a) (D.lentL b)
  | .at_ d => .at_ d.lent
  | .tup l => .tup (D.lentL l)
  | d => d
def D.lentL : List D → List D
  | [] => []
  | d :: r => d.lent :: D.lentL r
def D.lentE : List (Int × D) → List (Int × D)
  | [] => []
  | p :: r => D.lentP p :: D.lentE r
def D.lentP : Int × D → Int × D
  | (n, d) => (n, d.lent)
end

theorem freeL_mem {d : D} : ∀ {l : List D}, D.freeL l = true → d ∈ l → d.free = true
  | [], _, h => by cases h
  | x :: l, h, hd => by
    simp only [D.freeL, Bool.and_eq_true] at h
    rcases List.mem_cons.1 hd with e | e
    · subst e; exact h.1
    · exact freeL_mem h.2 e
theorem freeE_mem {p : Int × D} : ∀ {l : List (Int × D)}, D.freeE l = true → p ∈ l → p.2.free = true
  | [], _, h => by cases h
  | x :: l, h, hd => by
    simp only [D.freeE, Bool.and_eq_true] at h
    rcases List.mem_cons.1 hd with e | e
    · subst e
      have := h.1
      obtain ⟨n, d⟩ := p
      simpa only [D.freeP] using this
    · exact freeE_mem h.2 e
theorem freeL_all {l : List D} : D.freeL l = l.all D.free := by
  induction l with
  | nil => rfl
  | cons d l ih => simp [D.freeL, ih]
theorem lentL_map (l : List D) : D.lentL l = l.map D.lent := by
  induction l with
  | nil => rfl
  | cons d l ih => simp [D.lentL, ih]
theorem lentE_map (l : List (Int × D)) : D.lentE l = l.map fun p => (p.1, p.2.lent) := by
  induction l with
  | nil => rfl
  | cons p l ih => obtain ⟨n, d⟩ := p; simp [D.lentE, D.lentP, ih]

theorem Rep.free {w : World} {A A' : Nat → Prop} {N : Nat} {γ} {d : D} {u : Value} (h : Rep w A N γ d u) (hA : ∀ b, A' b → A b ∨ b < N) : d.free = true → Rep w A' N γ d u := by
  induction h with
  | undef v => exact fun _ => .undef v
  | bool b => exact fun _ => .bool b
  | int k n => exact fun _ => .int k n
  | str s => exact fun _ => .str s
  | nilp => exact fun _ => .nilp
  | nilm => exact fun _ => .nilm
  | nilfn => exact fun _ => .nilfn
  | agg cs vs h1 _ h3 ih =>
    intro hf
    simp only [D.free] at hf
    exact .agg cs vs h1 (fun i d v hd hv => ih i d v hd hv (freeL_mem hf (List.mem_of_getElem? hd))) h3
  | tup cs vs h1 _ ih => intro hf; cases hf
  | fn f a b va vb h1 h2 _ _ ih1 ih2 =>
    intro hf
    simp only [D.free, Bool.and_eq_true] at hf
    exact .fn f a b va vb h1 h2 (fun i d v hd hv => ih1 i d v hd hv (freeL_mem hf.1 (List.mem_of_getElem? hd))) (fun i d v hd hv => ih2 i d v hd hv (freeL_mem hf.2 (List.mem_of_getElem? hd)))
  | slE t a cap h h' h'' => exact fun _ => .slE t a cap h h' h''
  | sl t l b o sz cap vs h1 h1' h2 h3 h4 h5 h6 _ h8 ih =>
    intro hf
    have hl : D.freeL l = true ∧ t ≠ .lent := by cases t <;> simp_all [D.free]
    refine .sl t l b o sz cap vs h1 h1' h2 h3 (fun hb => ?_) h5 h6 (fun i d hd => ih i d hd (freeL_mem hl.1 (List.mem_of_getElem? hd))) h8
    rcases hA b hb with h | h
    · exact h4 h
    · have := h5 hl.2; omega
  | at_ d v b o h1 h2 h3 _ ih => intro hf; cases hf
  | h k i off b hn => exact fun _ => .h k i off b hn
  | mp t k es b m ck h1 h2 h3 h4 h5 h6 _ ih =>
    intro hf
    have hl : D.freeE es = true ∧ t = .own := by cases t <;> simp_all [D.free]
    refine .mp t k es b m ck (fun hb => ?_) h2 h3 h4 h5 h6 fun i e p he hp => ih i e p he hp (freeE_mem hl.1 (List.mem_of_getElem? hp))
    rcases hA b hb with h | h
    · exact h1 h
    · have := h2 hl.2; omega

theorem Rep.lent {w : World} {A : Nat → Prop} {N : Nat} {γ} {d : D} {u : Value} (h : Rep w A N γ d u) (N' : Nat) : Rep w A N' γ d.lent u := by
  have hget : ∀ {l : List D} {i : Nat} {d : D}, (D.lentL l)[i]? = some d → ∃ e, l[i]? = some e ∧ d = e.lent := by
    intro l i d hd
    rw [lentL_map, List.getElem?_map] at hd
    cases he : l[i]? with
    | none => rw [he] at hd; cases hd
    | some e => rw [he] at hd; injection hd with hd; exact ⟨e, rfl, hd.symm⟩
  have hgetE : ∀ {l : List (Int × D)} {i : Nat} {p : Int × D}, (D.lentE l)[i]? = some p → ∃ e, l[i]? = some e ∧ p = (e.1, e.2.lent) := by
    intro l i d hd
    rw [lentE_map, List.getElem?_map] at hd
    cases he : l[i]? with
    | none => rw [he] at hd; cases hd
    | some e => rw [he] at hd; injection hd with hd; exact ⟨e, rfl, hd.symm⟩
  have hlen : ∀ l : List D, (D.lentL l).length = l.length := fun l => by rw [lentL_map]; simp
  have hlenE : ∀ l : List (Int × D), (D.lentE l).length = l.length := fun l => by rw [lentE_map]; simp
  induction h with
  | undef v => exact .undef v
  | bool b => exact .bool b
  | int k n => exact .int k n
  | str s => exact .str s
  | nilp => exact .nilp
  | nilm => exact .nilm
  | nilfn => exact .nilfn
  | agg cs vs h1 _ h3 ih =>
    exact .agg _ vs (by rw [hlen]; exact h1) (fun i d v hd hv => by obtain ⟨e, he, rfl⟩ := hget hd; exact ih i e v he hv) h3
  | tup cs vs h1 _ ih =>
    exact .tup _ vs (by rw [hlen]; exact h1) (fun i d v hd hv => by obtain ⟨e, he, rfl⟩ := hget hd; exact ih i e v he hv)
  | fn f a b va vb h1 h2 _ _ ih1 ih2 =>
    exact .fn f _ _ va vb (by rw [hlen]; exact h1) (by rw [hlen]; exact h2) (fun i d v hd hv => by obtain ⟨e, he, rfl⟩ := hget hd; exact ih1 i e v he hv)
      (fun i d v hd hv => by obtain ⟨e, he, rfl⟩ := hget hd; exact ih2 i e v he hv)
  | slE t a cap h h' h'' =>
    cases t with
    | nil => exact .slE .nil a cap (fun h => by cases h) h' (by simp)
    | nn => exact .slE .nn a cap (fun h => by cases h) (by simp) h''
    | nul => exact .slE .nul a cap (fun h => by cases h) (by simp) h''
    | _ => exact .slE .lent a cap (fun h => by cases h) (fun h => by cases h) (by simp)
  | sl t l b o sz cap vs h1 h1' h2 h3 h4 h5 h6 _ h8 ih =>
    have := Rep.sl (w := w) (A := A) (N := N') (γ := γ) .lent (D.lentL l) b o sz cap vs (by intro h; apply h1; have := hlen l; rw [h] at this; exact List.eq_nil_of_length_eq_zero this.symm) (by simp)
      (by rw [hlen]; exact h2) (fun h => by cases h) h4 (fun h => absurd rfl h) h6 (fun i d hd => by obtain ⟨e, he, rfl⟩ := hget hd; exact ih i e he) (fun i hi => h8 i (by rw [hlen] at hi; exact hi))
    rw [hlen] at this
    cases t with
    | nil => exact absurd rfl h1'
    | nn => cases l with
      | nil => exact absurd rfl h1
      | cons d l => exact this
    | nul => cases l with
      | nil => exact absurd rfl h1
      | cons d l => exact this
    | _ => exact this
  | at_ d v b o h1 h2 h3 _ ih => exact .at_ _ v b o h1 h2 h3 ih
  | h k i off b hn => exact .h k i off b hn
  | mp t k es b m ck h1 h2 h3 h4 h5 h6 _ ih =>
    exact .mp .lent k (D.lentE es) b m ck h1 (fun h => by cases h) h3 h4 (by rw [hlenE]; exact h5) (fun i e p he hp => by obtain ⟨q, hq, rfl⟩ := hgetE hp; exact h6 i e q he hq)
      (fun i e p he hp => by obtain ⟨q, hq, rfl⟩ := hgetE hp; exact ih i e q he hq)

end Wf

/-
  What a function answers.
-/
namespace Wf
open Go Go.RowKit

def ares1 (P : Program) (s : St) : ResultVar → Option V
  | .tmp t => some (s.slots.getD t (.d .undef))
  | .cell a t => aload P s.L t (s.slots.getD a (.d .undef))

/-- Results that are rows or maps of the frame's own stay as they are; all others become data. -/
def keepV (sz : Nat) : V → Bool
  | .ref _ _ _ _ => decide (0 < sz)
  | .map _ _ => true
  | .p _ _ => true
  | _ => false
def prep : Loc → List Nat → List V → Option (List V × Loc)
  | L, [], [] => some ([], L)
  | L, sz :: szs, v :: vs => if keepV sz v = true then (prep L szs vs).map fun x => (v :: x.1, x.2) else (toD L v).bind fun y => (prep (L.upd y.2) szs vs).map fun x => (.d y.1 :: x.1, x.2)
  | _, _, _ => none

def sealV (L : Loc) (sz : Nat) : V → Option (Option Nat × D)
  | .d (.sl .full []) => some (none, if 0 < sz then .sl .own [] else .sl .full [])
  | .d (.sl .nil []) => some (none, if 0 < sz then .sl .own [] else .sl .nil [])
  | .d x => if x.free = true then some (none, x) else none
  | .p _ x => if x.free = true then some (none, x) else none
  | .ref g n off len => match off, L.get g n with
    | 0, .arr sz' els true => if len = els.length ∧ sz' = sz ∧ els.all D.free = true ∧ (g < 90000 ∨ n = 0) then some (some g, .sl .own els) else none
    | _, _ => none
  | .map g n => match L.get g n with
    | .map kk es => if g < 90000 ∧ D.freeE es = true then some (none, .mp .own kk es) else none
    | _ => none
  | _ => none

def sealL (L : Loc) : List Nat → List V → Option (List (Option Nat × D))
  | [], [] => some []
  | sz :: szs, v :: vs => (sealV L sz v).bind fun x => (sealL L szs vs).map fun r => x :: r
  | _, _ => none

def distinct : List (Option Nat) → Bool
  | [] => true
  | none :: r => distinct r
  | some g :: r => !(r.contains (some g)) && distinct r

/-- What a function answers, and what its memory is then. -/
def ares (P : Program) (ro : Nat → Bool) (res : List ResultVar) (szs : List Nat) (s : St) : Option (D × Loc) :=
  (res.mapM (ares1 P s)).bind fun vs0 => (prep s.L szs vs0).bind fun y => (sealL y.2 szs y.1).bind fun rs =>
    if distinct (rs.map (·.1)) = true ∧ (rs.all fun x => match x.1 with | some g => ro g | none => true) = true then (match rs with
      | [(_, d)] => some (d, y.2)
      | rs => some (.tup (rs.map (·.2)), y.2)) else none

theorem distinct_spec : ∀ {l : List (Option Nat)}, distinct l = true → ∀ (i j g : Nat), l[i]? = some (some g) → l[j]? = some (some g) → i = j
  | [], _, i, j, g, h, _ => by simp at h
  | none :: l, h, i, j, g, hi, hj => by
    cases i with
    | zero => simp at hi
    | succ i =>
      cases j with
      | zero => simp at hj
      | succ j => rw [distinct_spec (l := l) h i j g (by simpa using hi) (by simpa using hj)]
  | some k :: l, h, i, j, g, hi, hj => by
    simp only [distinct, Bool.and_eq_true, Bool.not_eq_true', List.contains_eq_mem, decide_eq_false_iff_not] at h
    cases i with
    | zero =>
      cases j with
      | zero => rfl
      | succ j =>
        simp at hi hj
        subst hi
        exact absurd (List.mem_of_getElem? hj) h.1
    | succ i =>
      cases j with
      | zero =>
        simp at hi hj
        subst hj
        exact absurd (List.mem_of_getElem? hi) h.1
      | succ j => rw [distinct_spec (l := l) h.2 i j g (by simpa using hi) (by simpa using hj)]

theorem sealL_spec {L : Loc} : ∀ {szs : List Nat} {vs : List V} {rs : List (Option Nat × D)}, sealL L szs vs = some rs → szs.length = rs.length ∧ vs.length = rs.length ∧
    ∀ (i : Nat) (sz : Nat) (v : V) (x : Option Nat × D), szs[i]? = some sz → vs[i]? = some v → rs[i]? = some x → sealV L sz v = some x
  | [], [], rs, h => by injection h with h; subst h; exact ⟨rfl, rfl, by simp⟩
  | [], _ :: _, _, h => by cases h
  | _ :: _, [], _, h => by cases h
  | sz :: szs, v :: vs, rs, h => by
    simp only [sealL] at h
    cases h1 : sealV L sz v with
    | none => rw [h1] at h; cases h
    | some x =>
      rw [h1] at h
      simp only [Option.bind_some] at h
      cases h2 : sealL L szs vs with
      | none => rw [h2] at h; cases h
      | some r =>
        rw [h2] at h
        injection h with h; subst h
        obtain ⟨p1, p2, p3⟩ := sealL_spec h2
        refine ⟨by simp [p1], by simp [p2], fun i sz' v' x' e1 e2 e3 => ?_⟩
        cases i with
        | zero => simp at e1 e2 e3; subst e1; subst e2; subst e3; exact h1
        | succ i => exact p3 i sz' v' x' (by simpa using e1) (by simpa using e2) (by simpa using e3)

section
variable {P : Program} {N : Nat} {w0 : World} {O0 : Nat → Prop} {γ0 : E0}

theorem ares1_ok {c : Ctx} {s : St} {a : Act} {w : World} (hr : RelC N w0 O0 γ0 c s a w) {x : ResultVar} {v : V} (h : ares1 P s x = some v) :
    ∃ u, (match x with | .tmp t => pure (a.tmps.getD t undef) | .cell q t => (do loadVar t (← asAddr (a.tmps.getD q undef))) : Sem Value).run P w = .ok u w ∧ Val c s.L w N v u := by
  cases x with
  | tmp t =>
    injection h with h; subst h
    exact ⟨_, rfl, evalV_ok hr.slots (.tmp t)⟩
  | cell q t =>
    simp only [ares1] at h
    obtain ⟨u, k1, k2⟩ := aload_ok hr.mem (Lr := s.L) (fun _ _ _ => rfl) h (evalV_ok hr.slots (.tmp q))
    refine ⟨u, ?_, k2⟩
    simp only [Act.eval] at k1
    dsimp only
    generalize a.tmps.getD q undef = p at *
    rw [← k1]
    cases p with
    | pointer y =>
      cases y with
      | none => simp [Instr.loadAt, Instr.sureAddr] at k1
      | some y => simp [Instr.loadAt, asAddr, Instr.sureAddr]
    | _ => simp [Instr.loadAt, Instr.sureAddr] at k1

theorem mapM_ex {α β γ : Type} {P : Program} {w : World} {f : α → Sem γ} {g : α → Option β} {R : β → γ → Prop} : ∀ (l : List α) (r : List β), l.mapM g = some r → (∀ x v, g x = some v → ∃ u, (f x).run P w = .ok u w ∧ R v u) →
    ∃ us, (l.mapM f).run P w = .ok us w ∧ us.length = r.length ∧ ∀ (i : Nat) (v : β) (u : γ), r[i]? = some v → us[i]? = some u → R v u
  | [], r, h, _ => by simp at h; subst h; exact ⟨[], by simp, rfl, by simp⟩
  | x :: l, r, h, hf => by
    simp only [List.mapM_cons] at h
    cases h1 : g x with
    | none => rw [h1] at h; cases h
    | some v =>
      rw [h1] at h
      cases h2 : l.mapM g with
      | none => rw [h2] at h; cases h
      | some r' =>
        rw [h2] at h
        injection h with h; subst h
        obtain ⟨u, k1, k2⟩ := hf x v h1
        obtain ⟨us, q1, q2, q3⟩ := mapM_ex l r' h2 hf
        refine ⟨u :: us, by simp [List.mapM_cons, k1, q1], by simp [q2], fun i v' u' e1 e2 => ?_⟩
        cases i with
        | zero => simp at e1 e2; subst e1; subst e2; exact k2
        | succ i => exact q3 i v' u' (by simpa using e1) (by simpa using e2)

/-- Results that become data. -/
theorem prep_ok {c : Ctx} {w : World} : ∀ (szs : List Nat) (vs : List V) (us : List Value) (L : Loc) (vs' : List V) (L' : Loc), prep L szs vs = some (vs', L') → Mem c N w0 O0 L w → Vals c L w N vs us →
    Mem c N w0 O0 L' w ∧ Grow c L w c L' w ∧ Vals c L' w N vs' us ∧ vs'.length = vs.length
  | [], [], us, L, vs', L', h, hm, hv => by
    injection h with h; injection h with h1 h2; subst h1; subst h2
    exact ⟨hm, Grow.refl .., hv, rfl⟩
  | [], _ :: _, _, _, _, _, h, _, _ => by cases h
  | _ :: _, [], _, _, _, _, h, _, _ => by cases h
  | sz :: szs, v :: vs, us, L, vs', L', h, hm, hv => by
    obtain ⟨u, us', rfl, h1, h2⟩ := hv.cons_inv
    have cons : ∀ {x : V} {xs : List V} {L : Loc}, Val c L w N x u → Vals c L w N xs us' → Vals c L w N (x :: xs) (u :: us') := by
      intro x xs L h k
      refine ⟨by simp [k.1], fun i v' u' e1 e2 => ?_⟩
      cases i with
      | zero => simp at e1 e2; subst e1; subst e2; exact h
      | succ i => exact k.2 i v' u' (by simpa using e1) (by simpa using e2)
    simp only [prep] at h
    split at h
    · cases hp : prep L szs vs with
      | none => rw [hp] at h; cases h
      | some x =>
        obtain ⟨xs, L1⟩ := x
        rw [hp] at h
        injection h with h; injection h with e1 e2; subst e1; subst e2
        obtain ⟨m1, m2, m3, m4⟩ := prep_ok szs vs us' L xs L1 hp hm h2
        exact ⟨m1, m2, cons (h1.grow m2) m3, by simp [m4]⟩
    · cases ht : toD L v with
      | none => rw [ht] at h; cases h
      | some y =>
        obtain ⟨d, wr⟩ := y
        rw [ht] at h
        simp only [Option.bind_some] at h
        cases hp : prep (L.upd wr) szs vs with
        | none => rw [hp] at h; cases h
        | some x =>
          obtain ⟨xs, L1⟩ := x
          rw [hp] at h
          injection h with h; injection h with e1 e2; subst e1; subst e2
          obtain ⟨k1, k2, k3⟩ := toD_ok hm (Lr := L) (fun _ _ _ => rfl) ht h1
          obtain ⟨m1, m2, m3, m4⟩ := prep_ok szs vs us' (L.upd wr) xs L1 hp k1 (h2.grow k2)
          exact ⟨m1, k2.trans m2, cons (.d _ _ (k3.grow m2)) m3, by simp [m4]⟩

theorem seal_ok {c : Ctx} {L : Loc} {w : World} (hm : Mem c N w0 O0 L w) {A' : Nat → Prop} (hA : ∀ b, A' b → own c L b ∨ b < N) (hmap : ∀ g n kk es b, L.get g n = .map kk es → c.ι g = some b → N ≤ b → ¬ A' b)
    {sz : Nat} {v : V} {x : Option Nat × D} {u : Value}
    (h : sealV L sz v = some x) (hv : Val c L w N v u) : CompOk w A' N c.γ (x.1.bind c.ι) sz x.2 u ∧ (∀ g, x.1 = some g → (g < 90000 ∨ (L g).1 = 0) ∧ ∃ sz els, (L g).2 = .arr sz els true) ∧ ∀ l, x.2 ≠ .tup l := by
  have data : ∀ {d : D}, d.free = true → Rep w (own c L) N c.γ d u → x = (none, d) → CompOk w A' N c.γ (x.1.bind c.ι) sz x.2 u ∧ (∀ g, x.1 = some g → (g < 90000 ∨ (L g).1 = 0) ∧ ∃ sz els, (L g).2 = .arr sz els true) ∧ ∀ l, x.2 ≠ .tup l := by
    rintro d hf hr rfl
    have hrr := hr.free hA hf
    refine ⟨?_, fun g e => (by cases e), fun l e => (by rw [show d = .tup l from e] at hf; cases hf)⟩
    cases d with
    | sl t l => cases t <;> first | exact ⟨rfl, hrr⟩ | (simp [D.free] at hf)
    | _ => exact ⟨rfl, hrr⟩
  unfold sealV at h
  split at h
  · injection h with h; subst h
    refine ⟨?_, fun g e => (by cases e), fun l e => (by revert e; dsimp only; split <;> simp)⟩
    have hrr := hv.dat
    split
    · refine ⟨?_, rfl⟩
      cases hrr with
      | slE _ a cap hc _ _ => exact ⟨a, cap, rfl, Nat.zero_le _, .inl (hc rfl)⟩
      | sl _ _ _ _ _ _ _ h0 => exact absurd rfl h0
    · exact ⟨rfl, hrr.free hA rfl⟩
  · injection h with h; subst h
    refine ⟨?_, fun g e => (by cases e), fun l e => (by revert e; dsimp only; split <;> simp)⟩
    have hrr := hv.dat
    split
    · refine ⟨?_, rfl⟩
      cases hrr with
      | slE _ a cap _ hc _ => exact ⟨a, cap, rfl, Nat.zero_le _, .inl (hc rfl).2⟩
      | sl _ _ _ _ _ _ _ h0 => exact absurd rfl h0
    · exact ⟨rfl, hrr.free hA rfl⟩
  · split at h
    · rename_i hf
      injection h with h
      exact data hf hv.dat h.symm
    · cases h
  · split at h
    · rename_i hf
      injection h with h
      exact data hf hv.unp.dat h.symm
    · cases h
  · rename_i g n off len
    split at h
    · rename_i sz' els hL
      split at h
      · rename_i hc
        obtain ⟨h1, h2, h3, h4⟩ := hc
        injection h with h; subst h
        subst h1; subst h2
        obtain ⟨e1, e2⟩ := get_at hL (by simp)
        refine ⟨?_, fun g' e => (by injection e with e; subst e; exact ⟨by rw [e1]; exact h4, _, _, e2⟩), fun l e => (by cases e)⟩
        have ho := hm.obj g
        rw [e2] at ho
        cases hv with
        | ref _ _ _ _ _ k1 k2 k3 =>
          refine ⟨(k2 _ _ _ hL).2, ?_⟩
          simp only [Option.bind_some]
          cases hι : c.ι g with
          | none => simp only [ObjOk, hι] at ho; exact ho
          | some b =>
            simp only [ObjOk, hι] at ho
            obtain ⟨y, T, fz, p1, p2, p3, vs, p4⟩ := ho
            refine ⟨y, T, fz, p1, p2, p3, vs, fun i d hd => ⟨(p4 i d hd).1.free hA ?_, (p4 i d hd).2⟩⟩
            exact List.all_eq_true.1 h3 d (List.mem_of_getElem? hd)
      · cases h
    · cases h
  · rename_i g n
    split at h
    · rename_i kk es hL
      split at h
      · rename_i hc
        obtain ⟨hg, hf⟩ := hc
        injection h with h; subst h
        refine ⟨⟨rfl, ?_⟩, fun g e => (by cases e), fun l e => (by cases e)⟩
        obtain ⟨e1, e2⟩ := get_at hL (by simp)
        obtain ⟨b, m, ck, p1, p2, p3, p4⟩ := hm.get hL (by simp)
        have hN := hm.mineN g b p1 (by rw [e2]; simp) (by rw [e2]; simp) hg
        cases hv with
        | map _ _ _ k1 k2 =>
          obtain ⟨b', q1, rfl⟩ := k2 (by rw [hL]; simp)
          rw [p1] at q1; cases q1
          exact .mp .own kk es b m ck (hmap g n kk es b hL p1 hN) (fun _ => hN) (lt_of_heap p2) p2 p3 (fun i e p a b => (p4 i e p a b).1) fun i e p a b => ((p4 i e p a b).2).free hA (freeE_mem hf (List.mem_of_getElem? b))
      · cases h
    · cases h
  · cases h

theorem ares_ok {c : Ctx} {s : St} {a : Act} {w : World} (hr : RelC N w0 O0 γ0 c s a w) {ro : Nat → Bool} {Og : Nat → Prop} (hro : ∀ g b, ro g = true → 90000 ≤ g → γ0.ι g = some b → Og b) {fn : Func} {szs : List Nat} {r : D} {L' : Loc}
    (h : ares P ro fn.results.toList szs s = some (r, L')) :
    ∃ v, (results fn a.tmps).run P w = .ok v w ∧ RelC N w0 O0 γ0 c { s with L := L' } a w ∧ ResOk w (fun b => (b < N ∧ ¬ Og b) ∨ c.O b) N c.γ szs r v := by
  unfold ares at h
  cases h1 : fn.results.toList.mapM (ares1 P s) with
  | none => rw [h1] at h; cases h
  | some vs0 =>
  rw [h1] at h
  simp only [Option.bind_some] at h
  cases h0 : prep s.L szs vs0 with
  | none => rw [h0] at h; cases h
  | some y =>
  obtain ⟨vs, L1⟩ := y
  rw [h0] at h
  simp only [Option.bind_some] at h
  cases h2 : sealL L1 szs vs with
  | none => rw [h2] at h; cases h
  | some rs =>
  rw [h2] at h
  simp only [Option.bind_some] at h
  split at h
  rotate_left
  · cases h
  rename_i hd
  obtain ⟨hd, hroA⟩ := hd
  obtain ⟨us, q1, q2, q3⟩ := mapM_ex (P := P) (w := w) (R := Val c s.L w N) _ _ h1 (fun x v hv => ares1_ok hr hv)
  obtain ⟨m1, m2, m3, m4⟩ := prep_ok szs vs0 us s.L vs L1 h0 hr.mem ⟨q2, q3⟩
  have hrel : RelC N w0 O0 γ0 c { s with L := L1 } a w := ⟨m1, hr.slots.grow m2, hr.defers, hr.hγ, fun k hk => ⟨(m2.stay k (hr.stay k hk).1).1, (hr.stay k hk).2⟩, RelC.given' hr.given m2, hr.cells⟩
  obtain ⟨z1, z2, z3⟩ := sealL_spec h2
  have hlu : us.length = rs.length := by have := m3.1; omega
  have hrun : (results fn a.tmps).run P w = .ok (if h : us.toArray.size = 1 then us.toArray[0] else .tuple us.toArray) w := by
    unfold results
    rw [Array.mapM_eq_mapM_toList]
    simp only [Sem.run_bind, Sem.run_map, Sem.run_pure]
    exact congrArg (fun r : Result (List Value) => (r.andThen fun a w' => Result.ok a.toArray w').andThen fun a w' => Result.ok (if h : a.size = 1 then a[0] else Value.tuple a) w') q1
  let ow : Nat → Option Nat := fun i => ((rs[i]?).bind (·.1)).bind c.ι
  have how : ∀ i b, ow i = some b → ∃ g d, rs[i]? = some (some g, d) ∧ c.ι g = some b := by
    intro i b hb
    simp only [ow] at hb
    cases hx : rs[i]? with
    | none => rw [hx] at hb; cases hb
    | some x =>
      obtain ⟨g, d⟩ := x
      rw [hx] at hb
      cases g with
      | none => cases hb
      | some g => exact ⟨g, d, rfl, hb⟩
  have hcomp : ∀ (A' : Nat → Prop), (∀ b, A' b → own c L1 b ∨ b < N) → (∀ g n kk es b, L1.get g n = .map kk es → c.ι g = some b → N ≤ b → ¬ A' b) → ∀ (i : Nat) (x : Option Nat × D), rs[i]? = some x → ∃ sz v u, szs[i]? = some sz ∧ vs[i]? = some v ∧ us[i]? = some u ∧
      CompOk w A' N c.γ (x.1.bind c.ι) sz x.2 u ∧ (∀ g, x.1 = some g → (g < 90000 ∨ (L1 g).1 = 0) ∧ ∃ sz els, (L1 g).2 = .arr sz els true) ∧ ∀ l, x.2 ≠ .tup l := by
    intro A' hA' hmap i x hx
    have hi := (List.getElem?_eq_some_iff.1 hx).1
    have e1 := List.getElem?_eq_getElem (show i < szs.length by omega)
    have e2 := List.getElem?_eq_getElem (show i < vs.length by omega)
    have e3 := List.getElem?_eq_getElem (show i < us.length by omega)
    obtain ⟨k1, k2⟩ := seal_ok m1 hA' hmap (z3 i _ _ x e1 e2 hx) (m3.2 i _ _ e2 e3)
    exact ⟨_, _, _, e1, e2, e3, k1, k2⟩
  have harr0 : ∀ (i g : Nat) (d : D), rs[i]? = some (some g, d) → (g < 90000 ∨ (L1 g).1 = 0) ∧ ∃ sz els, (L1 g).2 = .arr sz els true := by
    intro i g d hx
    obtain ⟨_, _, _, _, _, _, _, k⟩ := hcomp (fun _ => False) (fun _ h => h.elim) (fun _ _ _ _ _ _ _ _ h => h) i _ hx
    exact k.1 g rfl
  have harr : ∀ (i g : Nat) (d : D), rs[i]? = some (some g, d) → ∃ sz els, (L1 g).2 = .arr sz els true := fun i g d hx => (harr0 i g d hx).2
  have hlive : ∀ (i g : Nat) (d : D), rs[i]? = some (some g, d) → (L1 g).2 ≠ .dead ∧ (L1 g).2.live = true := by
    intro i g d hx
    obtain ⟨sz, els, e⟩ := harr i g d hx
    rw [e]; exact ⟨by simp, rfl⟩
  have hA : ∀ b, (((b < N ∧ ¬ Og b) ∨ c.O b) ∨ ∃ i, ow i = some b) → own c L1 b ∨ b < N := by
    rintro b ((hb | hb) | ⟨i, hb⟩)
    · exact .inr hb.1
    · exact .inl (.inl hb)
    · obtain ⟨g, d, hx, hι⟩ := how i b hb
      exact .inl (.inr ⟨g, hι, (hlive i g d hx).2⟩)
  have hmapA : ∀ g n kk es b, L1.get g n = .map kk es → c.ι g = some b → N ≤ b → ¬ (((b < N ∧ ¬ Og b) ∨ c.O b) ∨ ∃ i, ow i = some b) := by
    rintro g n kk es b hL hι hN ((hb | hb) | ⟨i, hb⟩)
    · omega
    · obtain ⟨_, e2⟩ := get_at hL (by simp)
      exact (m1.mine g b hι (by rw [e2]; simp)).2.2 hb
    · obtain ⟨_, e2⟩ := get_at hL (by simp)
      obtain ⟨g', d, hx, hι'⟩ := how i b hb
      have := m1.inj g g' b hι hι' (by rw [e2]; simp) (hlive i g' d hx).1
      subst this
      obtain ⟨sz, els, e⟩ := harr i g d hx
      rw [e2] at e; cases e
  have fin : ∀ {r0 : D}, (match r0 with
      | .tup ds => ∃ vs : Array Value, (if h : us.toArray.size = 1 then us.toArray[0] else Value.tuple us.toArray) = .tuple vs ∧ vs.size = ds.length ∧ szs.length = ds.length ∧
          ∀ (i : Nat) (d : D) (u : Value) (sz : Nat), ds[i]? = some d → vs[i]? = some u → szs[i]? = some sz → CompOk w (fun b => ((b < N ∧ ¬ Og b) ∨ c.O b) ∨ ∃ i, ow i = some b) N c.γ (ow i) sz d u
      | d => ∃ sz, szs = [sz] ∧ CompOk w (fun b => ((b < N ∧ ¬ Og b) ∨ c.O b) ∨ ∃ i, ow i = some b) N c.γ (ow 0) sz d (if h : us.toArray.size = 1 then us.toArray[0] else Value.tuple us.toArray)) →
      ResOk w (fun b => (b < N ∧ ¬ Og b) ∨ c.O b) N c.γ szs r0 (if h : us.toArray.size = 1 then us.toArray[0] else .tuple us.toArray) := by
    intro r0 h
    refine ⟨ow, fun i j b hi hj => ?_, fun i b hb => ?_, h⟩
    · obtain ⟨g, d, hx, hι⟩ := how i b hi
      obtain ⟨g', d', hx', hι'⟩ := how j b hj
      have := m1.inj g g' b hι hι' (hlive i g d hx).1 (hlive j g' d' hx').1
      subst this
      exact distinct_spec hd i j g (by rw [List.getElem?_map, hx]; rfl) (by rw [List.getElem?_map, hx']; rfl)
    · obtain ⟨g, d, hx, hι⟩ := how i b hb
      obtain ⟨k1, k2, k3⟩ := m1.mine g b hι (hlive i g d hx).1
      obtain ⟨sz, els, earr⟩ := harr i g d hx
      have hrg : ro g = true := by
        rw [List.all_eq_true] at hroA
        exact hroA _ (List.mem_of_getElem? hx)
      refine ⟨k2, fun hh => hh.elim (fun h => ?_) k3⟩
      rcases Nat.lt_or_ge g 90000 with h' | h'
      · have := m1.mineN g b hι (by rw [earr]; simp) (by rw [earr]; simp) h'; omega
      · rcases (harr0 i g d hx).1 with h5 | h5
        · omega
        · rcases hrel.given g h5 with h6 | h6
          · rw [show (L1 g).2 = .dead from h6] at earr; cases earr
          · exact h.2 (hro g b hrg h' (by rw [← h6]; exact hι))
  have key : L1 = L' ∧ ResOk w (fun b => (b < N ∧ ¬ Og b) ∨ c.O b) N c.γ szs r (if h : us.toArray.size = 1 then us.toArray[0] else .tuple us.toArray) := by
    split at h
    · rename_i g d
      injection h with h; injection h with e1 e2; subst e1; subst e2
      refine ⟨rfl, fin ?_⟩
      obtain ⟨sz, v, u, e1, e2, e3, k1, k2⟩ := hcomp _ hA hmapA 0 (g, d) (by simp)
      simp only [List.length_cons, List.length_nil] at z1 z2 hlu
      have hus : us = [u] := by
        cases us with
        | nil => simp at e3
        | cons x l =>
          simp at e3; subst e3
          have : l = [] := by simpa using hlu
          rw [this]
      have hszs : szs = [sz] := by
        cases szs with
        | nil => simp at e1
        | cons x l =>
          simp at e1; subst e1
          have : l = [] := by simpa using z1
          rw [this]
      have hnt : ∀ l, d ≠ .tup l := k2.2
      rw [hus]
      cases d with
      | tup l => exact absurd rfl (hnt l)
      | _ => exact ⟨sz, hszs, k1⟩
    · rename_i hn
      injection h with h; injection h with e1 e2; subst e1; subst e2
      refine ⟨rfl, fin ?_⟩
      have hne : us.length ≠ 1 := by
        intro h1
        rw [hlu] at h1
        cases rs with
        | nil => simp at h1
        | cons x l =>
          have : l = [] := by simpa using h1
          subst this
          exact hn x.1 x.2 rfl
      refine ⟨us.toArray, by simp [hne], by simp; omega, by simp; omega, fun i d u sz e1 e2 e3 => ?_⟩
      rw [List.getElem?_map] at e1
      cases hx : rs[i]? with
      | none => rw [hx] at e1; cases e1
      | some x =>
        rw [hx] at e1
        injection e1 with e1; subst e1
        obtain ⟨sz', v, u', f1, f2, f3, k1, k2⟩ := hcomp _ hA hmapA i x hx
        rw [f1] at e3; injection e3 with e3; subst e3
        simp at e2
        rw [f3] at e2; injection e2 with e2; subst e2
        have : ow i = x.1.bind c.ι := by simp only [ow, hx]; rfl
        rw [this]; exact k1
  obtain ⟨rfl, hres⟩ := key
  exact ⟨_, hrun, hrel, hres⟩

end
end Wf

