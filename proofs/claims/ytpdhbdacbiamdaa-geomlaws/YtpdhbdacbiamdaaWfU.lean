/-
  Calls: what is lent, what is handed back.
-/
import Derived.Test.YtpdhbdacbiamdaaWfT
set_option linter.unusedVariables false
set_option linter.unusedSimpArgs false
set_option linter.unnecessarySimpa false
namespace Wf
open Go Go.RowKit

/-- The state of memory beyond the frame, behind a call. -/
structure Kept (w : World) (O : Nat → Prop) (w' : World) : Prop where
  os : w'.os = w.os
  tape : w'.tape = w.tape
  output : w'.output = w.output
  size : w.heap.size ≤ w'.heap.size
  block : ∀ b, b < w.heap.size → ¬ O b → w'.heap[b]? = w.heap[b]?
  cells : ∀ (b : Nat) (x : Array Value) (T : TypeId) (fz : Nat × Nat), w.heap[b]? = some (.cells x T fz) → ∃ (x' : Array Value) (fz' : Nat × Nat), w'.heap[b]? = some (.cells x' T fz') ∧ x'.size = x.size

def ArrOk (w : World) (A : Nat → Prop) (N : Nat) (γ : Nat → Option Addr) (β : Option Nat) (sz : Nat) (els : List D) : Prop :=
  match β with
  | none => els = []
  | some b => ∃ (x : Array Value) (T : TypeId) (fz : Nat × Nat), w.heap[b]? = some (.cells x T fz) ∧ Unfrozen w b x.size ∧ els.length * sz ≤ x.size ∧ RowAt w A N γ b sz els

def CompOk (w : World) (A : Nat → Prop) (N : Nat) (γ : Nat → Option Addr) (β : Option Nat) (sz : Nat) (d : D) (u : Value) : Prop :=
  match d with
  | .sl .own els => SlAt w β sz 0 els.length u ∧ ArrOk w A N γ β sz els
  | d => β = none ∧ Rep w A N γ d u

/-- A result, handed over: rows that are the caller's own from then on. -/
def ResOk (w : World) (A : Nat → Prop) (N : Nat) (γ : Nat → Option Addr) (szs : List Nat) (r : D) (v : Value) : Prop :=
  ∃ ow : Nat → Option Nat, (∀ i j b, ow i = some b → ow j = some b → i = j) ∧ (∀ i b, ow i = some b → b < w.heap.size ∧ ¬ A b) ∧
    match r with
    | .tup ds => ∃ vs : Array Value, v = .tuple vs ∧ vs.size = ds.length ∧ szs.length = ds.length ∧
        ∀ (i : Nat) (d : D) (u : Value) (sz : Nat), ds[i]? = some d → vs[i]? = some u → szs[i]? = some sz → CompOk w (fun b => A b ∨ ∃ i, ow i = some b) N γ (ow i) sz d u
    | d => ∃ sz, szs = [sz] ∧ CompOk w (fun b => A b ∨ ∃ i, ow i = some b) N γ (ow 0) sz d v

/-- A function answers as its spec says. -/
def Sound (P : Program) (M : GM) (f : FuncId) : Spec M → Prop
  | .pure szs F => (∃ fn, P.funcs[f]? = some fn ∧ (fn.name == "runtime.NumGoroutine") = false ∧ fn.body.isNone = false) ∧
      ∀ ds r, F ds = some r → ∀ (w : World) γ us, Reps w (fun _ => False) 0 γ ds us →
        Calls P f us.toArray w fun e w' => ∃ v, e = .returned v ∧ Kept w (fun _ => False) w' ∧ ResOk w' (fun b => b < w.heap.size) w.heap.size γ szs r v
  | .st szs F => (∃ fn, P.funcs[f]? = some fn ∧ (fn.name == "runtime.NumGoroutine") = false ∧ fn.body.isNone = false) ∧
      ∀ ds s r s', F ds s = some (r, s') → ∀ (w : World) γ O us, M.rel s γ O w → (∀ b, O b → b < w.heap.size) → Reps w O 0 γ ds us →
        Calls P f us.toArray w fun e w' => ∃ v γ' O', e = .returned v ∧ (∀ n a, γ n = some a → γ' n = some a) ∧ M.rel s' γ' O' w' ∧ (∀ b, O' b → b < w'.heap.size ∧ (O b ∨ w.heap.size ≤ b)) ∧
          Kept w O w' ∧ ResOk w' (fun b => b < w.heap.size ∨ O' b) w.heap.size γ' szs r v

section
variable {M : GM} {c : Ctx} {N : Nat} {w0 : World} {O0 : Nat → Prop} {L Lr : Loc} {G : M.S} {w : World}

theorem Rep.out {A A' : Nat → Prop} {N N' : Nat} {γ} {d : D} {u : Value} (h : Rep w A N γ d u) (hA : ∀ b, A' b → A b) (hN : N' ≤ N) : Rep w A' N' γ d u :=
  h.mono (fun _ _ _ => rfl) (fun b _ h => hA b h) hN (Nat.le_refl _) (fun _ _ h => h)

theorem lend_els (hm : Mem M c N w0 O0 L G w) (hs : Sees Lr L) {v : V} {l : List D} {u : Value} (he : elsOf Lr v = some l) (hv : Val c L w N v u) : Rep w c.O 0 c.γ (.sl .lent l) u := by
  obtain ⟨a, cap, rfl, hc, h⟩ := els_ok hm hs he hv
  rcases h with rfl | ⟨b, o, sz, vs, rfl, hb, hO, h⟩
  · exact .slE _ _ _ (by simp)
  · by_cases h0 : l = []
    · subst h0; exact .slE _ _ _ (by simp)
    · exact .sl _ _ b o sz cap vs h0 hc (by simp) hO (by simp) hb (fun i d hd => ((h i d hd).1).out (fun b h => .inl h) (Nat.zero_le _))
        (fun i hi => (h i _ (List.getElem?_eq_getElem hi)).2)

theorem lend1_ok (hm : Mem M c N w0 O0 L G w) (hs : Sees Lr L) {v : V} {d : D} {u : Value} (he : lend1 Lr v = some d) (hv : Val c L w N v u) : Rep w c.O 0 c.γ d u := by
  cases v with
  | d x => simp [lend1] at he; subst he; exact hv.dat.out (fun b h => .inl h) (Nat.zero_le _)
  | ref g n off len =>
    simp only [lend1] at he
    cases hl : elsOf Lr (.ref g n off len) with
    | none => rw [hl] at he; cases he
    | some l => rw [hl] at he; simp at he; subst he; exact lend_els hm hs hl hv
  | bref g n off len =>
    simp only [lend1] at he
    cases hl : elsOf Lr (.bref g n off len) with
    | none => rw [hl] at he; cases he
    | some l => rw [hl] at he; simp at he; subst he; exact lend_els hm hs hl hv
  | _ => cases he

theorem lend2_ok (hm : Mem M c N w0 O0 L G w) (hs : Sees Lr L) {v : V} {d : D} {u : Value} (he : lend2 Lr v = some d) (hv : Val c L w N v u) : Rep w c.O 0 c.γ d u := by
  by_cases hp : ∃ g n off, v = .ptr g n off
  rotate_left
  · have : lend2 Lr v = lend1 Lr v := by
      cases v <;> first | rfl | exact absurd ⟨_, _, _, rfl⟩ hp
    rw [this] at he
    exact lend1_ok hm hs he hv
  · obtain ⟨g, n, off, rfl⟩ := hp
    simp only [lend2] at he
    cases hv with
    | ptr _ _ _ _ k1 k2 =>
    split at he
    · rename_i ds hy
      injection he with he; subst he
      have hL := hs g n (by rw [hy]; simp)
      rw [hy] at hL
      obtain ⟨b, x, T, fz, h1, h2, h3, h4, h5⟩ := hm.get hL (by simp)
      obtain ⟨b', e1, rfl⟩ := k2 (by rw [hL]; simp)
      rw [h1] at e1; cases e1
      obtain ⟨_, e2⟩ := get_at hL (by simp)
      have hmine := hm.mine g b h1 (by rw [e2]; simp)
      refine .at_ _ (.agg x) b 0 hmine.2.2 hmine.2.1 (fun j u hu => ?_) (.agg _ _ h4 (fun i d v hd hv => ((h5 i d v hd hv).1).out (fun b h => .inl h) (Nat.zero_le _)) (fun i v hv => ?_))
      · rw [Nat.zero_add]; exact cells_in h2 (by simpa [Value.cells] using hu)
      · have hi : i < ds.length := by
          rcases Nat.lt_or_ge i x.size with h' | h'
          · omega
          · rw [Array.getElem?_eq_none h'] at hv; cases hv
        exact (h5 i _ v (List.getElem?_eq_getElem hi) hv).2
    · rename_i y hy
      injection he with he; subst he
      have hL := hs g n (by rw [hy]; simp)
      rw [hy] at hL
      obtain ⟨b, x, T, fz, h1, h2, h3, h4, h5⟩ := hm.get hL (by simp)
      obtain ⟨b', e1, rfl⟩ := k2 (by rw [hL]; simp)
      rw [h1] at e1; cases e1
      obtain ⟨_, e2⟩ := get_at hL (by simp)
      have hmine := hm.mine g b h1 (by rw [e2]; simp)
      simp at h4
      have hx0 : x[0]? = some (x[0]'(by omega)) := by simp
      obtain ⟨r1, r2⟩ := h5 0 y _ (by simp) hx0
      refine .at_ _ _ b 0 hmine.2.2 hmine.2.1 (fun j u hu => ?_) (r1.out (fun b h => .inl h) (Nat.zero_le _))
      rw [cells_of_one r2] at hu
      cases j with
      | zero => simp at hu; subst hu; exact cells_in h2 (by simpa using hx0)
      | succ j => simp at hu
    · rename_i q hy
      cases hl : lend1 Lr q with
      | none => rw [hl] at he; cases he
      | some d' =>
        rw [hl] at he
        injection he with he; subst he
        have hL := hs g n (by rw [hy]; simp)
        rw [hy] at hL
        obtain ⟨b, u0, T, fz, h1, h2, h3, h4, h5⟩ := hm.get hL (by simp)
        obtain ⟨b', e1, rfl⟩ := k2 (by rw [hL]; simp)
        rw [h1] at e1; cases e1
        obtain ⟨_, e2⟩ := get_at hL (by simp)
        have hmine := hm.mine g b h1 (by rw [e2]; simp)
        refine .at_ _ u0 b 0 hmine.2.2 hmine.2.1 (fun j u hu => ?_) (lend1_ok hm hs hl h5)
        rw [cells_of_one h4] at hu
        cases j with
        | zero => simp at hu; subst hu; exact cells_in h2 rfl
        | succ j => simp at hu
    · cases he

theorem mapM_get {α β : Type} {f : α → Option β} : ∀ {l : List α} {r : List β}, l.mapM f = some r → r.length = l.length ∧ ∀ (i : Nat) (a : α) (b : β), l[i]? = some a → r[i]? = some b → f a = some b
  | [], r, h => by simp at h; subst h; simp
  | a :: l, r, h => by
    simp only [List.mapM_cons] at h
    cases h1 : f a with
    | none => rw [h1] at h; cases h
    | some b =>
      rw [h1] at h
      cases h2 : l.mapM f with
      | none => rw [h2] at h; cases h
      | some r' =>
        rw [h2] at h
        injection h with h; subst h
        obtain ⟨p1, p2⟩ := mapM_get h2
        refine ⟨by simp [p1], fun i a' b' ha hb => ?_⟩
        cases i with
        | zero => simp at ha hb; subst ha; subst hb; exact h1
        | succ i => exact p2 i a' b' (by simpa using ha) (by simpa using hb)

theorem lend_ok (hm : Mem M c N w0 O0 L G w) (hs : Sees Lr L) {v : V} {d : D} {u : Value} (he : lend Lr v = some d) (hv : Val c L w N v u) : Rep w c.O 0 c.γ d u := by
  by_cases hclo : ∃ f a b, v = .clo f a b
  rotate_left
  · have : lend Lr v = lend2 Lr v := by
      cases v <;> first | rfl | exact absurd ⟨_, _, _, rfl⟩ hclo
    rw [this] at he
    exact lend2_ok hm hs he hv
  · obtain ⟨f, a, b, rfl⟩ := hclo
    simp only [lend] at he
    cases h1 : a.mapM (lend2 Lr) with
    | none => rw [h1] at he; cases he
    | some a' =>
      rw [h1] at he
      simp only [Option.bind_some] at he
      cases h2 : b.mapM (lend2 Lr) with
      | none => rw [h2] at he; cases he
      | some b' =>
        rw [h2] at he
        injection he with he; subst he
        obtain ⟨p1, p2⟩ := mapM_get h1
        obtain ⟨q1, q2⟩ := mapM_get h2
        cases hv with
        | clo _ _ _ va vb k1 k2 k3 k4 =>
          refine .fn _ _ _ _ _ (by omega) (by omega) (fun i d v hd hv => ?_) (fun i d v hd hv => ?_)
          · have hi : i < a.length := by
              rcases Nat.lt_or_ge i va.size with h' | h'
              · omega
              · rw [Array.getElem?_eq_none h'] at hv; cases hv
            exact lend2_ok hm hs (p2 i _ _ (List.getElem?_eq_getElem hi) hd) (k3 i _ _ (List.getElem?_eq_getElem hi) hv)
          · have hi : i < b.length := by
              rcases Nat.lt_or_ge i vb.size with h' | h'
              · omega
              · rw [Array.getElem?_eq_none h'] at hv; cases hv
            exact lend2_ok hm hs (q2 i _ _ (List.getElem?_eq_getElem hi) hd) (k4 i _ _ (List.getElem?_eq_getElem hi) hv)

/-- Rows that a call hands over find their places. -/
theorem adopt_core (hm : Mem M c N w0 O0 L G w) {w' : World} {G' : M.S} {γ' : Nat → Option Addr} {O' : Nat → Prop} (hγ : ∀ n a, c.γ n = some a → γ' n = some a) (hglob : M.rel G' γ' O' w')
    (hO : ∀ b, O' b → b < w'.heap.size ∧ (c.O b ∨ w.heap.size ≤ b)) (hk : Kept w c.O w') (ad : Nat → Option (Nat × List D × Option Nat)) (L' : Loc)
    (hL' : ∀ g, L' g = match ad g with | some (sz, els, _) => (L.new g, .arr sz els true) | none => L g)
    (hblk : ∀ g sz els b, ad g = some (sz, els, some b) → w.heap.size ≤ b ∧ b < w'.heap.size ∧ ¬ O' b)
    (hinj : ∀ g g' sz els sz' els' b, ad g = some (sz, els, some b) → ad g' = some (sz', els', some b) → g = g')
    (hrow : ∀ g sz els β, ad g = some (sz, els, β) → ArrOk w' (fun b => (b < w.heap.size ∨ O' b) ∨ ∃ g sz els, ad g = some (sz, els, some b)) N γ' β sz els) :
    let c' : Ctx := { ι := fun g => match ad g with | some (_, _, β) => β | none => c.ι g, γ := γ', O := O' }
    Mem M c' N w0 O0 L' G' w' ∧ Grow c L w c' L' w' ∧ ∀ b, own c' L' b → (b < w.heap.size ∨ O' b) ∨ ∃ g sz els, ad g = some (sz, els, some b) := by
  intro c'
  have hout : ∀ b, own c' L' b → (b < w.heap.size ∨ O' b) ∨ ∃ g sz els, ad g = some (sz, els, some b) := by
    rintro b (h | ⟨g, h1, h2⟩)
    · exact .inl (.inr h)
    · rw [hL'] at h2
      cases ha : ad g with
      | none =>
        simp only [c', ha] at h1 h2
        exact .inl (.inl (hm.mine g b h1 (by intro e; rw [e] at h2; cases h2)).2.1)
      | some p =>
        obtain ⟨sz, els, β⟩ := p
        simp only [c', ha] at h1
        subst h1
        exact .inr ⟨g, sz, els, ha⟩
  have hg : Grow c L w c' L' w' := by
    refine ⟨hk.size, fun b hb hlt => hk.block b hlt fun h => hb (.inl h), ?_, hγ, ?_, ?_, ?_⟩
    · rintro b hlt (h | ⟨g, h1, h2⟩)
      · rcases (hO b h).2 with h' | h'
        · exact .inl h'
        · omega
      · rw [hL'] at h2
        cases ha : ad g with
        | none => simp only [c', ha] at h1 h2; exact .inr ⟨g, h1, h2⟩
        | some p =>
          obtain ⟨sz, els, β⟩ := p
          simp only [c', ha] at h1
          subst h1
          have := (hblk g sz els b ha).1; omega
    · intro b x T fz hb _; exact hk.cells b x T fz hb
    · intro g
      rw [hL']
      cases ha : ad g with
      | none => exact Nat.le_refl _
      | some p => simp [Loc.new]
    · intro g e
      rw [hL'] at e ⊢
      cases ha : ad g with
      | none => exact .inr ⟨by simp only [c', ha], Compat.refl _⟩
      | some p => rw [ha] at e; simp [Loc.new] at e
  refine ⟨⟨?_, ?_, ?_, hglob, Nat.le_trans hm.size hk.size, hm.size0, by rw [hk.os]; exact hm.os, by rw [hk.tape]; exact hm.tape, by rw [hk.output]; exact hm.output, ?_, ?_⟩, hg, hout⟩
  · intro g
    rw [hL']
    cases ha : ad g with
    | none =>
      simp only [c', ha]
      refine (hm.obj g).grow hg fun b hb hd => ?_
      obtain ⟨_, a2, a3⟩ := hm.mine g b hb hd
      exact hk.block b a2 a3
    | some p =>
      obtain ⟨sz, els, β⟩ := p
      simp only [c', ha]
      have hr := hrow g sz els β ha
      cases β with
      | none => exact hr
      | some b =>
        obtain ⟨x, T, fz, r1, r2, r3, vs, r4⟩ := hr
        refine ⟨x, T, fz, r1, r2, r3, vs, fun i d hd => ⟨((r4 i d hd).1).out hout (Nat.le_refl _), (r4 i d hd).2.1, (r4 i d hd).2.2⟩⟩
  · intro g g' b h1 h2 h3 h4
    rw [hL'] at h3 h4
    cases ha : ad g with
    | none =>
      simp only [c', ha] at h1 h3
      cases ha' : ad g' with
      | none => simp only [c', ha'] at h2 h4; exact hm.inj g g' b h1 h2 h3 h4
      | some p =>
        obtain ⟨sz, els, β⟩ := p
        simp only [c', ha'] at h2; subst h2
        have := (hblk g' sz els b ha').1
        have := (hm.mine g b h1 h3).2.1
        omega
    | some p =>
      obtain ⟨sz, els, β⟩ := p
      simp only [c', ha] at h1; subst h1
      cases ha' : ad g' with
      | none =>
        simp only [c', ha'] at h2 h4
        have := (hblk g sz els b ha).1
        have := (hm.mine g' b h2 h4).2.1
        omega
      | some p' =>
        obtain ⟨sz', els', β'⟩ := p'
        simp only [c', ha'] at h2; subst h2
        exact hinj g g' _ _ _ _ b ha ha'
  · intro g b h1 h2
    rw [hL'] at h2
    cases ha : ad g with
    | none =>
      simp only [c', ha] at h1 h2
      obtain ⟨a1, a2, a3⟩ := hm.mine g b h1 h2
      refine ⟨a1, Nat.lt_of_lt_of_le a2 hk.size, fun h => ?_⟩
      rcases (hO b h).2 with h' | h'
      · exact a3 h'
      · omega
    | some p =>
      obtain ⟨sz, els, β⟩ := p
      simp only [c', ha] at h1; subst h1
      obtain ⟨a1, a2, a3⟩ := hblk g sz els b ha
      exact ⟨Nat.le_trans hm.size a1, a2, a3⟩
  · intro b hb hO0
    rw [hk.block b (Nat.lt_of_lt_of_le hb hm.size) fun h => ?_]
    · exact hm.keep b hb hO0
    · rcases (hm.osub b h).2 with h' | h'
      · exact hO0 h'
      · omega
  · intro b hb
    obtain ⟨a1, a2⟩ := hO b hb
    refine ⟨a1, ?_⟩
    rcases a2 with h | h
    · exact (hm.osub b h).2
    · exact .inr (Nat.le_trans hm.size h)

end
end Wf
