/-
  What operations do: struct literals, boxes.
-/
import Derived.Test.YtpdhbdacbiamdaaWfR
set_option linter.unusedVariables false
set_option linter.unusedSimpArgs false
set_option linter.unnecessarySimpa false
namespace Wf
open Go Go.RowKit

def CellsRep (w : World) (A : Nat → Prop) (N : Nat) (γ : Nat → Option Addr) (ds : List D) (x : Array Value) : Prop :=
  x.size = ds.length ∧ ∀ (i : Nat) (d : D) (u : Value), ds[i]? = some d → x[i]? = some u → Rep w A N γ d u ∧ u.oneCell' = true

theorem CellsRep.splice {w : World} {A N γ} {ds xs : List D} {x : Array Value} {off : Nat} {vs : List Value} (h : CellsRep w A N γ ds x) (hr : Reps w A N γ xs vs) (h1 : ∀ v ∈ vs, v.oneCell' = true)
    (ho : off + xs.length ≤ ds.length) : CellsRep w A N γ (ds.take off ++ xs ++ ds.drop (off + xs.length)) (splice x off vs) := by
  have hvl := hr.1
  have hx := h.1
  refine ⟨by rw [splice_size (by omega), hx]; simp; omega, fun i d u hd hu => ?_⟩
  rw [list_splice ho] at hd
  rw [splice_at (by omega), hvl] at hu
  split at hd
  · rename_i hi
    rw [if_pos hi] at hu
    exact ⟨hr.2 _ _ _ hd hu, h1 u (List.mem_of_getElem? hu)⟩
  · rename_i hi
    rw [if_neg hi] at hu
    exact h.2 i d u hd hu

theorem lay_fill {w : World} {A N γ} {pl pl' : Nat → Option (Nat × Nat)} (hp : ∀ i p, pl i = some p → pl' i = some p) : ∀ (is : List Nat) (ds : List D) (us : List Value) (cs cs' : List D) (x : Array Value),
    lay pl cs (is.zip ds) = some cs' → Reps w A N γ ds us → CellsRep w A N γ cs x → ∃ x', Instr.fill pl' x (is.zip us) = some x' ∧ CellsRep w A N γ cs' x'
  | [], ds, us, cs, cs', x, h, _, hc => by simp [lay] at h; subst h; exact ⟨x, by simp [Instr.fill], hc⟩
  | i :: is, [], us, cs, cs', x, h, hr, hc => by
    simp [lay] at h; subst h
    have : us = [] := hr.nil_inv
    subst this
    exact ⟨x, by simp [Instr.fill], hc⟩
  | i :: is, d :: ds, us, cs, cs', x, h, hr, hc => by
    obtain ⟨u, us', rfl, hu, hus⟩ := hr.cons_inv
    simp only [List.zip_cons_cons, lay] at h ⊢
    cases hpi : pl i with
    | none => rw [hpi] at h; cases h
    | some p =>
      obtain ⟨off, size⟩ := p
      rw [hpi] at h
      dsimp only at h
      have hx := hc.1
      by_cases hag : ∃ xs, d = .agg xs
      · obtain ⟨xs, rfl⟩ := hag
        dsimp only at h
        split at h
        · rename_i hc2
          obtain ⟨q1, q2⟩ := hc2
          cases hu' : u with
          | agg vs =>
            rw [hu'] at hu
            obtain ⟨r1, r2⟩ := reps_agg hu
            have hvs : vs.size = size := by have := r1.1; simp at this; omega
            rw [fill_step (hp _ _ hpi) (by simpa [Value.cells] using hvs) (by omega)]
            refine lay_fill hp is ds us' _ cs' _ h hus ?_
            have := hc.splice r1 r2 (off := off) (by omega)
            rw [q1] at this; exact this
          | _ => rw [hu'] at hu; cases hu
        · cases h
      · have hd : d.cell = true ∧ (if size = 1 ∧ off + 1 ≤ cs.length then lay pl (cs.set off d) (is.zip ds) else none) = some cs' := by
          cases d <;> first | exact ⟨rfl, h⟩ | cases h | exact absurd ⟨_, rfl⟩ hag
        obtain ⟨hcell, h'⟩ := hd
        split at h'
        · rename_i hc2
          obtain ⟨rfl, q2⟩ := hc2
          have ho := hu.cell hcell
          obtain ⟨o1, o2, o3⟩ := one_cells ho
          rw [fill_step (hp _ _ hpi) o2 (by omega), o1]
          refine lay_fill hp is ds us' _ cs' _ h' hus ?_
          have := hc.splice (reps_one hu) (by simpa using ho) (off := off) (by simp; omega)
          simp only [List.length_singleton] at this
          rw [← set_splice (by omega)] at this; exact this
        · cases h'

theorem mapM_run {α β : Type} {P : Program} {w : World} {f : α → Sem β} {g : α → β} : ∀ (l : List α), (∀ x ∈ l, (f x).run P w = .ok (g x) w) → (l.mapM f).run P w = .ok (l.map g) w
  | [], _ => by simp
  | x :: l, h => by
    have := mapM_run (f := f) (g := g) l (fun y hy => h y (by simp [hy]))
    simp [List.mapM_cons, h x (by simp), this]

section
variable {M : GM} {c : Ctx} {N : Nat} {w0 : World} {O0 : Nat → Prop} {L Lr : Loc} {G : M.S} {w : World}

theorem abuild_ok {P : Program} (hm : Mem M c N w0 O0 L G w) (hs : Sees Lr L) {t : TypeId} {parts : List (Nat × V)} {us : List Value} {o : Out M.S} (ha : abuild P Lr t parts = some o)
    (hv : Vals c L w N (parts.map (·.2)) us) :
    ∃ u w', (Instr.build t ((parts.map (·.1)).zip us).toArray).run P w = .ok u w' ∧ Did M c N w0 O0 L G w o u w' := by
  unfold abuild at ha
  split at ha
  rotate_left
  · cases ha
  rename_i zs ds wr pl hz htd hpl
  cases hl : lay pl zs ((parts.map (·.1)).zip ds) with
  | none => rw [hl] at ha; cases ha
  | some cs =>
  rw [hl] at ha
  injection ha with ha; subst ha
  obtain ⟨m1, m2, m3⟩ := toDs_ok _ _ _ _ L hm hs.weak htd hv
  obtain ⟨i, zv, z1, z2, z3⟩ := ty_zero hz
  obtain ⟨v1, v2, v3⟩ := valD_cells z3
  have hzero : ∀ w, (zeroValue t).run P w = .ok zv w := fun w => by simp [zeroValue, typeInfo, z1, z2]
  have hcr : CellsRep w (own c (L.upd wr)) N c.γ zs zv.cells := by
    have hr := v3 w (own c (L.upd wr)) N c.γ
    refine ⟨by simpa [D.width] using v1, fun k d u hd hu => ⟨?_, v2 rfl k u hu⟩⟩
    cases hzv : zv with
    | agg vs =>
      rw [hzv] at hr hu
      cases hr with
      | agg _ _ q1 q2 q3 => exact q2 k d u hd hu
    | _ => rw [hzv] at hr; cases hr
  have fin : ∀ x', CellsRep w (own c (L.upd wr)) N c.γ cs x' → Rep w (own c (L.upd wr)) N c.γ (.agg cs) (.agg x') := fun x' h =>
    .agg _ _ h.1 (fun i d v hd hv => (h.2 i d v hd hv).1) (fun i v hv => by
      have hi : i < cs.length := by
        rcases Nat.lt_or_ge i x'.size with h' | h'
        · have := h.1; omega
        · rw [Array.getElem?_eq_none h'] at hv; cases hv
      exact (h.2 i _ v (List.getElem?_eq_getElem hi) hv).2)
  unfold placesOf at hpl
  split at hpl
  · rename_i fs hu
    split at hpl
    · rename_i hall
      injection hpl with hpl; subst hpl
      have hsz : ∀ f ∈ fs.toList, ∃ n, tySize P f.type = some n := by
        intro f hf
        obtain ⟨k, hk, rfl⟩ := List.mem_iff_getElem.1 hf
        rw [List.all_eq_true] at hall
        have := hall k (by simp at hk ⊢; exact hk)
        obtain ⟨⟨off, n⟩, hn⟩ := Option.isSome_iff_exists.1 this
        obtain ⟨fs', x, h1, h2, _, h4⟩ := ty_fld hn
        rw [hu] at h1; cases h1
        refine ⟨n, ?_⟩
        have : fs[k]? = some (fs.toList[k]) := by simp
        rw [this] at h2; cases h2; exact h4
      let g : Field → Nat × Nat := fun f => (f.offset, (tySize P f.type).getD 0)
      have hmap : (fs.mapM fun (f : Field) => do pure (f.offset, ← Go.sizeOf f.type) : Sem (Array (Nat × Nat))).run P w = .ok (fs.toList.map g).toArray w := by
        rw [Array.mapM_eq_mapM_toList]
        have := mapM_run (P := P) (w := w) (f := fun (f : Field) => (do pure (f.offset, ← Go.sizeOf f.type) : Sem (Nat × Nat))) (g := g) fs.toList (by
          intro f hf
          obtain ⟨n, hn⟩ := hsz f hf
          simp [ty_size hn, g, hn])
        rw [Sem.run_map, this]
        rfl
      obtain ⟨x', f1, f2⟩ := lay_fill (w := w) (A := own c (L.upd wr)) (N := N) (γ := c.γ) (pl' := fun i => (fs.toList.map g).toArray[i]?) (by
        rintro k ⟨off, n⟩ hk
        obtain ⟨fs', x, h1, h2, rfl, h4⟩ := ty_fld hk
        rw [hu] at h1; cases h1
        simp [h2, g, h4]) _ _ us _ _ zv.cells hl m3 hcr
      refine ⟨.agg x', w, ?_, c, m1, m2, .d _ _ (fin x' f2)⟩
      unfold Instr.build
      simp only [Sem.run_bind, hzero, Result.andThen_ok, ty_und hu]
      rw [hmap]
      simp only [Result.andThen_ok]
      rw [f1]
      rfl
    · cases hpl
  · rename_i n e hu
    cases hsz : tySize P e with
    | none => rw [hsz] at hpl; cases hpl
    | some sz =>
      rw [hsz] at hpl
      injection hpl with hpl; subst hpl
      obtain ⟨x', f1, f2⟩ := lay_fill (w := w) (A := own c (L.upd wr)) (N := N) (γ := c.γ) (pl' := fun i => some (i * sz, sz)) (fun _ _ h => h) _ _ us _ _ zv.cells hl m3 hcr
      refine ⟨.agg x', w, ?_, c, m1, m2, .d _ _ (fin x' f2)⟩
      unfold Instr.build
      simp only [Sem.run_bind, hzero, Result.andThen_ok, ty_und hu, ty_size hsz]
      rw [f1]
      rfl
  · cases hpl

end
end Wf
