/-
  What operations do: literals, boxes, maps.
-/
import Derived.Test.YtpdhbdacbiamdaaFb
set_option linter.unusedVariables false
set_option linter.unusedSimpArgs false
set_option linter.unnecessarySimpa false
namespace Wf
open Go Go.RowKit

theorem fold_set (off : Nat) : ∀ (vs : List Value) (j : Nat) (x : Array Value), off + j + vs.length ≤ x.size →
    (vs.zipIdx j).foldl (fun cs p => cs.setIfInBounds (off + p.2) p.1) x = splice x (off + j) vs
  | [], j, x, _ => by simp [splice_nil]
  | v :: vs, j, x, h => by
    simp only [List.zipIdx_cons, List.foldl_cons]
    simp at h
    rw [fold_set off vs (j + 1) (x.setIfInBounds (off + j) v) (by simp; omega), show off + (j + 1) = off + j + 1 by omega]
    exact splice_cons (by simp; omega)

theorem fold_set_arr (off : Nat) (vs x : Array Value) (h : off + vs.size ≤ x.size) :
    vs.zipIdx.foldl (fun cs p => cs.setIfInBounds (off + p.2) p.1) x = splice x off vs.toList := by
  have := fold_set off vs.toList 0 x (by simpa using h)
  rw [← Array.foldl_toList, Array.toList_zipIdx]
  simpa using this

theorem fill_step {place : Nat → Option (Nat × Nat)} {x : Array Value} {i off size : Nat} {v : Value} {rest : List (Nat × Value)} (hp : place i = some (off, size)) (hv : v.cells.size = size) (ho : off + size ≤ x.size) :
    Instr.fill place x ((i, v) :: rest) = Instr.fill place (splice x off v.cells.toList) rest := by
  have := fold_set_arr off v.cells x (by omega)
  simp only [Instr.fill, hp, hv]
  rw [if_neg (by simp; omega)]
  rw [← this]

/-- Parts, one behind the other. -/
theorem fill_row {sz : Nat} : ∀ (vs : List Value) (k : Nat) (x : Array Value), (∀ v ∈ vs, v.cells.size = sz) → (k + vs.length) * sz ≤ x.size →
    ∃ x', Instr.fill (fun i => some (i * sz, sz)) x ((vs.zipIdx k).map fun p => (p.2, p.1)) = some x' ∧ x'.size = x.size ∧
      (∀ (i : Nat) (v : Value), vs[i]? = some v → ∀ (q : Nat) (u : Value), v.cells[q]? = some u → x'[(k + i) * sz + q]? = some u) ∧ ∀ j, j < k * sz → x'[j]? = x[j]?
  | [], k, x, _, _ => ⟨x, rfl, rfl, by simp, fun _ _ => rfl⟩
  | v :: vs, k, x, hv, h => by
    have hvs : v.cells.size = sz := hv v (by simp)
    have hk : k * sz + sz ≤ x.size := by
      have : (k + 1) * sz ≤ (k + (v :: vs).length) * sz := Nat.mul_le_mul_right _ (by simp)
      rw [Nat.succ_mul] at this; omega
    have hroom : k * sz + v.cells.toList.length ≤ x.size := by simp; omega
    obtain ⟨x', h1, h2, h3, h4⟩ := fill_row vs (k + 1) (splice x (k * sz) v.cells.toList) (fun u hu => hv u (by simp [hu])) (by
      rw [splice_size hroom]; simp at h; rw [show k + 1 + vs.length = k + (vs.length + 1) by omega]; exact h)
    refine ⟨x', ?_, by rw [h2, splice_size hroom], ?_, ?_⟩
    · simp only [List.zipIdx_cons, List.map_cons]
      rw [fill_step rfl hvs hk]; exact h1
    · intro i u hu q y hy
      cases i with
      | zero =>
        simp at hu; subst hu
        have hq : q < sz := by
          rcases Nat.lt_or_ge q v.cells.size with h' | h'
          · omega
          · rw [Array.getElem?_eq_none h'] at hy; cases hy
        rw [Nat.add_zero, h4 _ (by rw [Nat.succ_mul]; omega), splice_at hroom, if_pos (by simp; omega), show k * sz + q - k * sz = q by omega]
        simpa using hy
      | succ i =>
        have := h3 i u (by simpa using hu) q y hy
        rwa [show k + 1 + i = k + (i + 1) by omega] at this
    · intro j hj
      rw [h4 j (by rw [Nat.succ_mul]; omega), splice_at hroom, if_neg (by omega)]

section
variable {M : GM} {c : Ctx} {N : Nat} {w0 : World} {O0 : Nat → Prop} {L Lr : Loc} {G : M.S} {w : World}

/-- Values of a list. -/
def Vals (c : Ctx) (L : Loc) (w : World) (N : Nat) (vs : List V) (us : List Value) : Prop :=
  us.length = vs.length ∧ ∀ (i : Nat) (v : V) (u : Value), vs[i]? = some v → us[i]? = some u → Val c L w N v u

theorem Sees.upd_frozen (hs : Sees Lr L) {v : V} {x : D} {wr : Wr} (ht : toD Lr v = some (x, wr)) :
    (∀ g n sz els l, Lr.get g n = .arr sz els l → ∃ l', (L.upd wr).get g n = .arr sz els l') ∧ (∀ g n, Lr.get g n ≠ .dead → (∀ sz els l, Lr.get g n ≠ .arr sz els l) → (L.upd wr).get g n = Lr.get g n) := by
  cases v with
  | d y => simp [toD] at ht; obtain ⟨_, rfl⟩ := ht; exact ⟨fun g n sz els l h => ⟨l, by rw [show L.upd [] = L from rfl, hs g n (by rw [h]; simp), h]⟩, fun g n h _ => hs g n h⟩
  | ref g' n' off len =>
    simp only [toD] at ht
    cases hx : Lr.get g' n' <;> rw [hx] at ht <;> simp at ht
    rename_i sz' els' l'
    obtain ⟨_, _, rfl⟩ := ht
    have hL := hs g' n' (by rw [hx]; simp)
    rw [hx] at hL
    refine ⟨fun g n sz els l h => ?_, fun g n h h2 => ?_⟩
    · have hg := hs g n (by rw [h]; simp)
      rw [h] at hg
      by_cases e : g = g'
      · subst e
        obtain ⟨a1, a2⟩ := get_at hg (by simp)
        obtain ⟨b1, b2⟩ := get_at hL (by simp)
        rw [a2] at b2; cases b2
        have : n = n' := by omega
        subst this
        exact ⟨false, by simp [Loc.upd, Loc.get, Loc.set_same]⟩
      · exact ⟨l, by simp only [Loc.upd, Loc.get, Loc.set_ne _ _ e]; exact hg⟩
    · have hg := hs g n h
      by_cases e : g = g'
      · subst e
        obtain ⟨a1, a2⟩ := get_at (L := L) (g := g) (n := n) hg h
        obtain ⟨b1, b2⟩ := get_at hL (by simp)
        rw [a2] at b2
        exact absurd b2 (h2 _ _ _)
      · simp only [Loc.upd, Loc.get, Loc.set_ne _ _ e]; exact hg
  | _ => cases ht

/-- Sees, but for whether rows are still written. -/
def Sees' (Lr L : Loc) : Prop := (∀ g n sz els l, Lr.get g n = .arr sz els l → ∃ l', L.get g n = .arr sz els l')

theorem toD_ok' (hm : Mem M c N w0 O0 L G w) (hs : Sees' Lr L) {v : V} {u : Value} {x : D} {wr : Wr} (ht : toD Lr v = some (x, wr)) (hv : Val c L w N v u) :
    Mem M c N w0 O0 (L.upd wr) G w ∧ Grow c L w c (L.upd wr) w ∧ Rep w (own c (L.upd wr)) N c.γ x u ∧ Sees' Lr (L.upd wr) := by
  cases v with
  | d y =>
    have h := ht
    simp [toD] at h
    obtain ⟨rfl, rfl⟩ := h
    exact ⟨hm, Grow.refl .., hv.dat, hs⟩
  | ref g n off len =>
    have h := ht
    simp only [toD] at h
    cases hx : Lr.get g n <;> rw [hx] at h <;> simp at h
    rename_i sz els l
    obtain ⟨hle, rfl, rfl⟩ := h
    obtain ⟨l', hL⟩ := hs g n _ _ _ hx
    have hself : Sees L L := fun _ _ _ => rfl
    have ht2 : toD L (.ref g n off len) = some (.sl .fresh ((els.drop off).take len), [(g, (n, .arr sz els false))]) := by
      simp only [toD, hL]; rw [if_pos hle]
    obtain ⟨m1, m2, m3⟩ := toD_ok hm hself ht2 hv
    refine ⟨m1, m2, m3, fun g' n' sz' els' l2 h2 => ?_⟩
    obtain ⟨l3, h3⟩ := hs g' n' _ _ _ h2
    obtain ⟨h4, _⟩ := Sees.upd_frozen hself ht2
    exact h4 g' n' _ _ _ h3
  | _ => cases ht

theorem toDs_ok : ∀ (vs : List V) (us : List Value) (ds : List D) (wr : Wr) (L : Loc), Mem M c N w0 O0 L G w → Sees' Lr L → toDs Lr vs = some (ds, wr) → Vals c L w N vs us →
    Mem M c N w0 O0 (L.upd wr) G w ∧ Grow c L w c (L.upd wr) w ∧ Reps w (own c (L.upd wr)) N c.γ ds us
  | [], us, ds, wr, L, hm, hs, ht, hv => by
    simp [toDs] at ht
    obtain ⟨rfl, rfl⟩ := ht
    have : us = [] := List.eq_nil_of_length_eq_zero hv.1
    subst this
    exact ⟨hm, Grow.refl .., Reps.nil⟩
  | v :: vs, us, ds, wr, L, hm, hs, ht, hv => by
    simp only [toDs] at ht
    cases h1 : toD Lr v with
    | none => rw [h1] at ht; cases ht
    | some p =>
      obtain ⟨x, w1⟩ := p
      rw [h1] at ht
      simp only [Option.bind_some] at ht
      cases h2 : toDs Lr vs with
      | none => rw [h2] at ht; cases ht
      | some p =>
        obtain ⟨xs, w2⟩ := p
        rw [h2] at ht
        simp at ht
        obtain ⟨rfl, rfl⟩ := ht
        cases us with
        | nil => simp [Vals] at hv
        | cons u us =>
          obtain ⟨m1, m2, m3, m4⟩ := toD_ok' hm hs h1 (hv.2 0 v u (by simp) (by simp))
          obtain ⟨k1, k2, k3⟩ := toDs_ok vs us xs w2 (L.upd w1) m1 m4 h2 ⟨by simpa using hv.1, fun i v' u' a b => (hv.2 (i + 1) v' u' (by simpa using a) (by simpa using b)).grow m2⟩
          rw [Loc.upd_append]
          exact ⟨k1, m2.trans k2, Reps.cons (m3.grow k2) k3⟩

theorem Sees.weak (hs : Sees Lr L) : Sees' Lr L := fun g n sz els l h => ⟨l, by rw [hs g n (by rw [h]; simp), h]⟩

theorem abuildSlice_ok {P : Program} (hM : M.Ok) (hm : Mem M c N w0 O0 L G w) (hs : Sees Lr L) {t : TypeId} {n : Nat} {parts : List (Nat × V)} {us : List Value} {o : Out M.S} (ha : abuildSlice P Lr t n parts = some o)
    (hv : Vals c L w N (parts.map (·.2)) us) :
    ∃ u w', (Instr.buildSlice t n ((parts.map (·.1)).zip us).toArray).run P w = .ok u w' ∧ Did M c N w0 O0 L G w o u w' := by
  unfold abuildSlice at ha
  cases hty : appendTy P t n with
  | none => rw [hty] at ha; cases ha
  | some sz =>
  cases htd : toDs Lr (parts.map (·.2)) with
  | none => rw [hty, htd] at ha; cases ha
  | some p =>
  obtain ⟨ds, wr⟩ := p
  rw [hty, htd] at ha
  dsimp only at ha
  split at ha
  rotate_left
  · cases ha
  rename_i hc
  obtain ⟨c1, c2, c3⟩ := hc
  injection ha with ha; subst ha
  obtain ⟨m1, m2, m3⟩ := toDs_ok _ _ _ _ L hm hs.weak htd hv
  obtain ⟨e, i, z, zv, t1, t2, t3, t4, t5, t6, t7, t8, t9, t10⟩ := append_ty hty
  have hpl : parts.length = n := by have := congrArg List.length c1; simpa using this
  have hul : us.length = n := by rw [hv.1]; simpa using hpl
  have hdl : ds.length = n := by rw [← m3.1]; exact hul
  have hus : ∀ u ∈ us, u.cells.size = sz ∧ ∀ (q : Nat) (y : Value), u.cells[q]? = some y → y.oneCell' = true := by
    intro u hu
    obtain ⟨k, hk, rfl⟩ := List.mem_iff_getElem.1 hu
    have hd : ds[k]? = some (ds[k]'(by omega)) := by simp
    obtain ⟨o1, o2⟩ := okEls_spec c3 hd
    have := (m3.2 k _ _ hd (List.getElem?_eq_getElem hk)).cells o2
    exact ⟨by omega, this.2⟩
  have hzip : (parts.map (·.1)).zip us = (us.zipIdx 0).map fun p => (p.2, p.1) := by
    rw [c1]
    apply List.ext_getElem?
    intro k
    simp only [List.getElem?_map, List.getElem?_zipIdx]
    by_cases hk : k < n
    · have h1 : us[k]? = some (us[k]'(by omega)) := by simp
      have h2 : (List.range n)[k]? = some k := by simp [hk]
      have h3 : ((List.range n).zip us)[k]? = some (k, us[k]'(by omega)) := List.getElem?_zip_eq_some.2 ⟨h2, h1⟩
      rw [h3]
      simp [h1]
    · rw [List.getElem?_eq_none (show us.length ≤ k by omega), List.getElem?_eq_none (by simp; omega)]
      rfl
  let x0 : Array Value := (Array.range (n * sz)).map fun j => (if n * sz = 0 then #[] else zv.cells)[j % (if n * sz = 0 then (#[] : Array Value) else zv.cells).size]!
  have hx0 : x0.size = n * sz := by simp [x0]
  obtain ⟨x, f1, f2, f3, _⟩ := fill_row (sz := sz) us 0 x0 (fun u hu => (hus u hu).1) (by rw [hx0, hul, Nat.zero_add]; exact Nat.le_refl _)
  have hsize : ∀ w, (Go.sizeOf e).run P w = .ok sz w := fun w => ty_size (by unfold tySize; simp [t2, t3]) w
  have hzero : ∀ w, (zeroValue e).run P w = .ok zv w := fun w => by simp [zeroValue, typeInfo, t2, t4]
  have hrun : (Instr.buildSlice t n ((parts.map (·.1)).zip us).toArray).run P w = .ok (.slice (some ⟨w.heap.size, 0, none⟩) n n) (w.alloc (.cells x e)) := by
    have hbig : ¬ (n * sz > 2 ^ 24) := by omega
    rw [hzip]
    unfold Instr.buildSlice
    simp only [Sem.run_bind, ty_und t1, Result.andThen_ok, hsize, hbig, if_false]
    by_cases h0 : n * sz = 0
    · have e1 : x0 = (Array.range (n * sz)).map fun j => (#[] : Array Value)[j % (#[] : Array Value).size]! := by simp only [x0, h0, if_true]
      simp only [h0, if_true, Sem.run_bind, Sem.run_pure, Result.andThen_ok]
      rw [e1, h0] at f1
      simp only [f1, newRow, Sem.run_bind, Sem.run_pure, Result.andThen_ok, run_newObj, World.alloc_eq]
    · have e1 : x0 = (Array.range (n * sz)).map fun j => zv.cells[j % zv.cells.size]! := by simp only [x0, h0, if_false]
      simp only [h0, if_false, Sem.run_bind, hzero, Sem.run_pure, Result.andThen_ok]
      rw [e1] at f1
      simp only [f1, newRow, Sem.run_bind, Sem.run_pure, Result.andThen_ok, run_newObj, World.alloc_eq]
  refine ⟨_, _, hrun, ?_⟩
  -- the new row is nobody's: it is read alone
  have hgrow : Grow c (L.upd wr) w c (L.upd wr) (w.alloc (.cells x e)) := by
    refine ⟨by simp, fun b _ hb => Below.heap_alloc w _ b hb, fun _ _ h => h, fun _ _ h => h, ?_, fun _ => Nat.le_refl _, fun _ _ => .inr ⟨rfl, Compat.refl _⟩⟩
    intro b y T fz hb _
    exact ⟨y, fz, by rw [Below.heap_alloc w _ b (lt_of_heap hb)]; exact hb, rfl⟩
  have hmem : Mem M c N w0 O0 (L.upd wr) G (w.alloc (.cells x e)) := by
    refine ⟨fun g => (m1.obj g).grow hgrow fun b hb hd => Below.heap_alloc w _ b (m1.mine g b hb hd).2.1, m1.inj, fun g b h1 h2 => ?_, hM.stable m1.glob (fun b hb => Below.heap_alloc w _ b (m1.osub b hb).1) (by simp), ?_, m1.size0, m1.os, m1.tape, m1.output, fun b hb hO => ?_, fun b hb => ?_⟩
    · obtain ⟨a1, a2, a3⟩ := m1.mine g b h1 h2; exact ⟨a1, by simp; omega, a3⟩
    · have := m1.size; simp; omega
    · rw [Below.heap_alloc w _ b (by have := m1.size; omega)]; exact m1.keep b hb hO
    · obtain ⟨a1, a2⟩ := m1.osub b hb; exact ⟨by simp; omega, a2⟩
  refine ⟨c, hmem, m2.trans hgrow, .d _ _ ?_⟩
  have hnot : ¬ own c (L.upd wr) w.heap.size := by
    rintro (ho | ⟨g, h1, h2⟩)
    · have := (m1.osub _ ho).1; omega
    · have := (m1.mine g _ h1 (by intro e; rw [e] at h2; cases h2)).2.1; omega
  by_cases hn : n = 0
  · subst hn
    have : ds = [] := List.eq_nil_of_length_eq_zero hdl
    subst this
    exact .slE _ _ _ fun _ => rfl
  · have := Rep.sl (w := w.alloc (.cells x e)) (A := own c (L.upd wr)) (N := N) (γ := c.γ) .full ds w.heap.size 0 sz n (fun i => us.getD i undef) (by intro e; rw [e] at hdl; simp at hdl; omega) (by omega) (fun _ => hdl.symm)
      hnot (fun _ => m1.size) (by simp) (fun i d hd => by
        have hi : i < us.length := by
          rcases Nat.lt_or_ge i ds.length with h | h
          · omega
          · rw [List.getElem?_eq_none h] at hd; cases hd
        exact (m3.2 i d _ hd (by simp [hi])).grow hgrow)
      (fun i hi => by
        have hu : us[i]? = some (us.getD i undef) := by simp [show i < us.length by omega]
        refine ⟨(hus _ (List.mem_of_getElem? hu)).1, fun q y hy => ?_⟩
        rw [World.cell?_alloc_new, Nat.zero_add]
        have := f3 i _ hu q y hy
        rwa [Nat.zero_add] at this)
    rw [hdl] at this
    exact this

end
end Wf

/-
  What operations do: struct literals, boxes.
-/
namespace Wf
open Go Go.RowKit

def CellsRep (w : World) (A : Nat → Prop) (N : Nat) (γ : Nat → Option Addr) (ds : List D) (x : Array Value) : Prop :=
  x.size = ds.length ∧ ∀ (i : Nat) (d : D) (u : Value), ds[i]? = some d → x[i]? = some u → Rep w A N γ d u ∧ u.oneCell' = true

theorem CellsRep.splice {w : World} {A N γ} {ds xs : List D} {x : Array Value} {off : Nat} {vs : List Value} (h : CellsRep w A N γ ds x) (hr : Reps w A N γ xs vs) (h1 : ∀ v ∈ vs, v.oneCell' = true)
    (ho : off + xs.length ≤ ds.length) : CellsRep w A N γ (ds.take off ++ xs ++ ds.drop (off + xs.length)) (splice x off vs) := by
  have hvl := hr.1
  have hx := h.1
  refine ⟨by rw [splice_size (by omega), hx]; simp; omega, fun i d u hd hu => ?_⟩
  rw [list_splice ho] at hd
  rw [splice_at (by omega), hvl] at hu
  split at hd
  · rename_i hi
    rw [if_pos hi] at hu
    exact ⟨hr.2 _ _ _ hd hu, h1 u (List.mem_of_getElem? hu)⟩
  · rename_i hi
    rw [if_neg hi] at hu
    exact h.2 i d u hd hu

theorem lay_fill {w : World} {A N γ} {pl pl' : Nat → Option (Nat × Nat)} (hp : ∀ i p, pl i = some p → pl' i = some p) : ∀ (is : List Nat) (ds : List D) (us : List Value) (cs cs' : List D) (x : Array Value),
    lay pl cs (is.zip ds) = some cs' → Reps w A N γ ds us → CellsRep w A N γ cs x → ∃ x', Instr.fill pl' x (is.zip us) = some x' ∧ CellsRep w A N γ cs' x'
  | [], ds, us, cs, cs', x, h, _, hc => by simp [lay] at h; subst h; exact ⟨x, by simp [Instr.fill], hc⟩
  | i :: is, [], us, cs, cs', x, h, hr, hc => by
    simp [lay] at h; subst h
    have : us = [] := hr.nil_inv
    subst this
    exact ⟨x, by simp [Instr.fill], hc⟩
  | i :: is, d :: ds, us, cs, cs', x, h, hr, hc => by
    obtain ⟨u, us', rfl, hu, hus⟩ := hr.cons_inv
    simp only [List.zip_cons_cons, lay] at h ⊢
    cases hpi : pl i with
    | none => rw [hpi] at h; cases h
    | some p =>
      obtain ⟨off, size⟩ := p
      rw [hpi] at h
      dsimp only at h
      have hx := hc.1
      by_cases hag : ∃ xs, d = .agg xs
      · obtain ⟨xs, rfl⟩ := hag
        dsimp only at h
        split at h
        · rename_i hc2
          obtain ⟨q1, q2⟩ := hc2
          cases hu' : u with
          | agg vs =>
            rw [hu'] at hu
            obtain ⟨r1, r2⟩ := reps_agg hu
            have hvs : vs.size = size := by have := r1.1; simp at this; omega
            rw [fill_step (hp _ _ hpi) (by simpa [Value.cells] using hvs) (by omega)]
            refine lay_fill hp is ds us' _ cs' _ h hus ?_
            have := hc.splice r1 r2 (off := off) (by omega)
            rw [q1] at this; exact this
          | _ => rw [hu'] at hu; cases hu
        · cases h
      · have hd : d.cell = true ∧ (if size = 1 ∧ off + 1 ≤ cs.length then lay pl (cs.set off d) (is.zip ds) else none) = some cs' := by
          cases d <;> first | exact ⟨rfl, h⟩ | cases h | exact absurd ⟨_, rfl⟩ hag
        obtain ⟨hcell, h'⟩ := hd
        split at h'
        · rename_i hc2
          obtain ⟨rfl, q2⟩ := hc2
          have ho := hu.cell hcell
          obtain ⟨o1, o2, o3⟩ := one_cells ho
          rw [fill_step (hp _ _ hpi) o2 (by omega), o1]
          refine lay_fill hp is ds us' _ cs' _ h' hus ?_
          have := hc.splice (reps_one hu) (by simpa using ho) (off := off) (by simp; omega)
          simp only [List.length_singleton] at this
          rw [← set_splice (by omega)] at this; exact this
        · cases h'

theorem mapM_run {α β : Type} {P : Program} {w : World} {f : α → Sem β} {g : α → β} : ∀ (l : List α), (∀ x ∈ l, (f x).run P w = .ok (g x) w) → (l.mapM f).run P w = .ok (l.map g) w
  | [], _ => by simp
  | x :: l, h => by
    have := mapM_run (f := f) (g := g) l (fun y hy => h y (by simp [hy]))
    simp [List.mapM_cons, h x (by simp), this]

section
variable {M : GM} {c : Ctx} {N : Nat} {w0 : World} {O0 : Nat → Prop} {L Lr : Loc} {G : M.S} {w : World}

theorem abuild_ok {P : Program} (hm : Mem M c N w0 O0 L G w) (hs : Sees Lr L) {t : TypeId} {parts : List (Nat × V)} {us : List Value} {o : Out M.S} (ha : abuild P Lr t parts = some o)
    (hv : Vals c L w N (parts.map (·.2)) us) :
    ∃ u w', (Instr.build t ((parts.map (·.1)).zip us).toArray).run P w = .ok u w' ∧ Did M c N w0 O0 L G w o u w' := by
  unfold abuild at ha
  split at ha
  rotate_left
  · cases ha
  rename_i zs ds wr pl hz htd hpl
  cases hl : lay pl zs ((parts.map (·.1)).zip ds) with
  | none => rw [hl] at ha; cases ha
  | some cs =>
  rw [hl] at ha
  injection ha with ha; subst ha
  obtain ⟨m1, m2, m3⟩ := toDs_ok _ _ _ _ L hm hs.weak htd hv
  obtain ⟨i, zv, z1, z2, z3⟩ := ty_zero hz
  obtain ⟨v1, v2, v3⟩ := valD_cells z3
  have hzero : ∀ w, (zeroValue t).run P w = .ok zv w := fun w => by simp [zeroValue, typeInfo, z1, z2]
  have hcr : CellsRep w (own c (L.upd wr)) N c.γ zs zv.cells := by
    have hr := v3 w (own c (L.upd wr)) N c.γ
    refine ⟨by simpa [D.width] using v1, fun k d u hd hu => ⟨?_, v2 rfl k u hu⟩⟩
    cases hzv : zv with
    | agg vs =>
      rw [hzv] at hr hu
      cases hr with
      | agg _ _ q1 q2 q3 => exact q2 k d u hd hu
    | _ => rw [hzv] at hr; cases hr
  have fin : ∀ x', CellsRep w (own c (L.upd wr)) N c.γ cs x' → Rep w (own c (L.upd wr)) N c.γ (.agg cs) (.agg x') := fun x' h =>
    .agg _ _ h.1 (fun i d v hd hv => (h.2 i d v hd hv).1) (fun i v hv => by
      have hi : i < cs.length := by
        rcases Nat.lt_or_ge i x'.size with h' | h'
        · have := h.1; omega
        · rw [Array.getElem?_eq_none h'] at hv; cases hv
      exact (h.2 i _ v (List.getElem?_eq_getElem hi) hv).2)
  unfold placesOf at hpl
  split at hpl
  · rename_i fs hu
    split at hpl
    · rename_i hall
      injection hpl with hpl; subst hpl
      have hsz : ∀ f ∈ fs.toList, ∃ n, tySize P f.type = some n := by
        intro f hf
        obtain ⟨k, hk, rfl⟩ := List.mem_iff_getElem.1 hf
        rw [List.all_eq_true] at hall
        have := hall k (by simp at hk ⊢; exact hk)
        obtain ⟨⟨off, n⟩, hn⟩ := Option.isSome_iff_exists.1 this
        obtain ⟨fs', x, h1, h2, _, h4⟩ := ty_fld hn
        rw [hu] at h1; cases h1
        refine ⟨n, ?_⟩
        have : fs[k]? = some (fs.toList[k]) := by simp
        rw [this] at h2; cases h2; exact h4
      let g : Field → Nat × Nat := fun f => (f.offset, (tySize P f.type).getD 0)
      have hmap : (fs.mapM fun (f : Field) => do pure (f.offset, ← Go.sizeOf f.type) : Sem (Array (Nat × Nat))).run P w = .ok (fs.toList.map g).toArray w := by
        rw [Array.mapM_eq_mapM_toList]
        have := mapM_run (P := P) (w := w) (f := fun (f : Field) => (do pure (f.offset, ← Go.sizeOf f.type) : Sem (Nat × Nat))) (g := g) fs.toList (by
          intro f hf
          obtain ⟨n, hn⟩ := hsz f hf
          simp [ty_size hn, g, hn])
        rw [Sem.run_map, this]
        rfl
      obtain ⟨x', f1, f2⟩ := lay_fill (w := w) (A := own c (L.upd wr)) (N := N) (γ := c.γ) (pl' := fun i => (fs.toList.map g).toArray[i]?) (by
        rintro k ⟨off, n⟩ hk
        obtain ⟨fs', x, h1, h2, rfl, h4⟩ := ty_fld hk
        rw [hu] at h1; cases h1
        simp [h2, g, h4]) _ _ us _ _ zv.cells hl m3 hcr
      refine ⟨.agg x', w, ?_, c, m1, m2, .d _ _ (fin x' f2)⟩
      unfold Instr.build
      simp only [Sem.run_bind, hzero, Result.andThen_ok, ty_und hu]
      rw [hmap]
      simp only [Result.andThen_ok]
      rw [f1]
      rfl
    · cases hpl
  · rename_i n e hu
    cases hsz : tySize P e with
    | none => rw [hsz] at hpl; cases hpl
    | some sz =>
      rw [hsz] at hpl
      injection hpl with hpl; subst hpl
      obtain ⟨x', f1, f2⟩ := lay_fill (w := w) (A := own c (L.upd wr)) (N := N) (γ := c.γ) (pl' := fun i => some (i * sz, sz)) (fun _ _ h => h) _ _ us _ _ zv.cells hl m3 hcr
      refine ⟨.agg x', w, ?_, c, m1, m2, .d _ _ (fin x' f2)⟩
      unfold Instr.build
      simp only [Sem.run_bind, hzero, Result.andThen_ok, ty_und hu, ty_size hsz]
      rw [f1]
      rfl
  · cases hpl

end
end Wf

/-
  Keys that are pairs.
-/
namespace Wf
open Go

theorem ty_map {P : Program} {t : TypeId} {k : MK} {et : TypeId} (h : tyMap P t = some (k, et)) : ∃ kt, P.underlying t = some (.map kt et) ∧ tyKey P kt = some k := by
  unfold tyMap at h
  split at h
  · rename_i kt et' hu
    cases hk : tyKey P kt with
    | none => rw [hk] at h; cases h
    | some k' =>
      rw [hk] at h; simp at h; obtain ⟨rfl, rfl⟩ := h
      exact ⟨kt, hu, hk⟩
  · cases h
theorem findNow_spec {kk : IntKind} {n : Int} : ∀ (m : List MapEntry) (es : List (Int × D)) (i0 : Nat), m.length = es.length → (∀ (i : Nat) (e : MapEntry) (p : Int × D), m[i]? = some e → es[i]? = some p → e.key = .int kk p.1) →
    (∃ (j : Nat) (e : MapEntry) (x : D), Instr.findNow (.int kk) (.int kk n) m i0 = some (some (i0 + j, e.val)) ∧ m[j]? = some e ∧ es[j]? = some (n, x) ∧ findD n es = some x ∧ (∀ y, setD n y es = es.set j (n, y))) ∨
    (Instr.findNow (.int kk) (.int kk n) m i0 = some none ∧ findD n es = none ∧ ∀ y, setD n y es = es ++ [(n, y)])
  | [], [], _, _, _ => .inr ⟨rfl, rfl, fun _ => rfl⟩
  | [], _ :: _, _, h, _ => by simp at h
  | _ :: _, [], _, h, _ => by simp at h
  | e :: m, (a, x) :: es, i0, h, hk => by
    have hk0 := hk 0 e (a, x) (by simp) (by simp)
    by_cases hn : n = a
    · subst hn
      refine .inl ⟨0, e, x, ?_, by simp, by simp, by simp [findD], fun y => by simp [setD]⟩
      simp [Instr.findNow, hk0, Instr.sameNow]
    · have hne : (n == a) = false := by simpa using hn
      rcases findNow_spec m es (i0 + 1) (by simpa using h) (fun i e' p h1 h2 => hk (i + 1) e' p (by simpa using h1) (by simpa using h2)) with ⟨j, e', x', h1, h2, h3, h4, h5⟩ | ⟨h1, h2, h3⟩
      · refine .inl ⟨j + 1, e', x', ?_, by simpa using h2, by simpa using h3, by simp [findD, hn, h4], fun y => by simp [setD, hn, h5 y]⟩
        simp only [Instr.findNow, hk0, Instr.sameNow, if_true, hne]
        rw [h1]; congr 3; omega
      · refine .inr ⟨?_, by simp [findD, hn, h2], fun y => by simp [setD, hn, h3 y]⟩
        simp only [Instr.findNow, hk0, Instr.sameNow, if_true, hne]
        exact h1

theorem checkKey_int {w : World} {P : Program} {kt : TypeId} {k : IntKind} (e : Bool) (f : Nat) (n : Int) (h : P.underlying kt = some (.int k)) : (Instr.checkKey e (f + 1) kt (.int k n)).run P w = .ok () w := by
  simp [Instr.checkKey, ty_und h]

theorem part_pair {P : Program} {e : TypeId} {w : World} (h2 : P.underlying e = some (.int .i64)) (a b : Int) :
    (part e #[.int .i64 a, .int .i64 b] 0).run P w = .ok (.int .i64 a) w ∧ (part e #[.int .i64 a, .int .i64 b] 1).run P w = .ok (.int .i64 b) w := by
  have : (isAgg e).run P w = .ok false w := by unfold isAgg; simp [ty_und h2]
  constructor <;> simp [part, this]
theorem checkKey_pair {P : Program} {kt e : TypeId} {w : World} (h1 : P.underlying kt = some (.array 2 e)) (h2 : P.underlying e = some (.int .i64)) (h3 : tySize P e = some 1) (em : Bool) (f : Nat) (a b : Int) :
    (Instr.checkKey em (f + 2) kt (pairV a b)).run P w = .ok () w := by
  obtain ⟨p0, p1⟩ := part_pair (P := P) (w := w) h2 a b
  have hs := ty_size h3 w
  simp [Instr.checkKey, ty_und h1, ty_und h2, pairV, Std.Legacy.Range.forIn_eq_forIn_range', List.range', hs, p0, p1]
theorem equalIn_int {P : Program} {e : TypeId} {w : World} (h2 : P.underlying e = some (.int .i64)) (f : Nat) (x y : Int) : (Op.equalIn (f + 1) e (.int .i64 x) (.int .i64 y)).run P w = .ok (x == y) w := by
  simp [Op.equalIn, ty_und h2]
theorem equalIn_pair {P : Program} {kt e : TypeId} {w : World} (h1 : P.underlying kt = some (.array 2 e)) (h2 : P.underlying e = some (.int .i64)) (h3 : tySize P e = some 1) (f : Nat) (a b c d : Int) :
    (Op.equalIn (f + 1 + 1) kt (pairV a b) (pairV c d)).run P w = .ok (decide (a = c ∧ b = d)) w := by
  have p0 := fun a b => (part_pair (P := P) (w := w) h2 a b).1
  have p1 := fun a b => (part_pair (P := P) (w := w) h2 a b).2
  have hs := ty_size h3 w
  have he := fun x y => equalIn_int (w := w) h2 f x y
  unfold Op.equalIn
  by_cases e1 : a = c <;> by_cases e2 : b = d <;> simp [ty_und h1, pairV, Std.Legacy.Range.forIn_eq_forIn_range', List.range', hs, p0, p1, he, e1, e2]
theorem equal_pair {P : Program} {kt e : TypeId} {w : World} (h1 : P.underlying kt = some (.array 2 e)) (h2 : P.underlying e = some (.int .i64)) (h3 : tySize P e = some 1) (a b c d : Int) :
    (Op.equal kt (pairV a b) (pairV c d)).run P w = .ok (decide (a = c ∧ b = d)) w := equalIn_pair h1 h2 h3 9998 a b c d
theorem findAsking_spec {P : Program} {kt e : TypeId} {w : World} (h1 : P.underlying kt = some (.array 2 e)) (h2 : P.underlying e = some (.int .i64)) (h3 : tySize P e = some 1) (a b : Int) : ∀ (m : List MapEntry) (es : List (Int × D)) (i0 : Nat), m.length = es.length →
    (∀ (i : Nat) (e : MapEntry) (p : Int × D), m[i]? = some e → es[i]? = some p → ∃ x y, p.1 = pairKey x y ∧ e.key = pairV x y) →
    (∃ (j : Nat) (e : MapEntry) (x : D), (Instr.findAsking kt (pairV a b) m i0).run P w = .ok (some (i0 + j, e.val)) w ∧ m[j]? = some e ∧ es[j]? = some (pairKey a b, x) ∧ findD (pairKey a b) es = some x ∧ (∀ y, setD (pairKey a b) y es = es.set j (pairKey a b, y))) ∨
    ((Instr.findAsking kt (pairV a b) m i0).run P w = .ok none w ∧ findD (pairKey a b) es = none ∧ ∀ y, setD (pairKey a b) y es = es ++ [(pairKey a b, y)])
  | [], [], _, _, _ => .inr ⟨rfl, rfl, fun _ => rfl⟩
  | [], _ :: _, _, h, _ => by simp at h
  | _ :: _, [], _, h, _ => by simp at h
  | en :: m, (k, x) :: es, i0, h, hk => by
    obtain ⟨c, d, k1, k2⟩ := hk 0 en (k, x) (by simp) (by simp)
    simp only at k1; subst k1
    have heq := equal_pair (w := w) h1 h2 h3 a b c d
    by_cases hn : a = c ∧ b = d
    · obtain ⟨rfl, rfl⟩ := hn
      refine .inl ⟨0, en, x, ?_, by simp, by simp, by simp [findD], fun y => by simp [setD]⟩
      simp [Instr.findAsking, k2, heq]
    · have hne : ¬ pairKey a b = pairKey c d := fun e => hn ((pairKey_inj ..).1 e)
      rcases findAsking_spec h1 h2 h3 a b m es (i0 + 1) (by simpa using h) (fun i e' p h1 h2 => hk (i + 1) e' p (by simpa using h1) (by simpa using h2)) with ⟨j, e', x', h1, h2, h3, h4, h5⟩ | ⟨h1, h2, h3⟩
      · refine .inl ⟨j + 1, e', x', ?_, by simpa using h2, by simpa using h3, by simp [findD, hne, h4], fun y => by simp [setD, hne, h5 y]⟩
        simp only [Instr.findAsking, k2, Sem.run_bind, heq, Result.andThen_ok, hn, decide_false, Bool.false_eq_true, if_false]
        rw [h1]; congr 3; omega
      · refine .inr ⟨?_, by simp [findD, hne, h2], fun y => by simp [setD, hne, h3 y]⟩
        simp only [Instr.findAsking, k2, Sem.run_bind, heq, Result.andThen_ok, hn, decide_false, Bool.false_eq_true, if_false]
        exact h1
theorem tyInt_und {P : Program} {t : TypeId} {k : IntKind} (h : tyInt P t = some k) : P.underlying t = some (.int k) := by
  unfold tyInt at h
  split at h
  · rename_i k' hk
    injection h with h; subst h; exact hk
  · cases h
theorem check_key {P : Program} {kt : TypeId} {mk : MK} (h : tyKey P kt = some mk) {n : Int} {ku : Value} (hk : KeyIs mk n ku) (em : Bool) (w : World) : (Instr.checkKey em 10000 kt ku).run P w = .ok () w := by
  unfold tyKey at h
  split at h
  · rename_i k hu
    injection h with h; subst h
    cases hk
    exact checkKey_int em 9999 n hu
  · rename_i m e hu
    split at h
    · rename_i hc
      injection h with h; subst h
      obtain ⟨a, b, _, rfl⟩ := hk
      obtain ⟨rfl, h2, h3⟩ := hc
      exact checkKey_pair hu (tyInt_und h2) h3 em 9998 a b
    · cases h
  · cases h
theorem find_key {P : Program} {kt : TypeId} {mk : MK} (h : tyKey P kt = some mk) {n : Int} {ku : Value} (hk : KeyIs mk n ku) (w : World) (m : List MapEntry) (es : List (Int × D)) (hlen : m.length = es.length)
    (hes : ∀ (i : Nat) (e : MapEntry) (p : Int × D), m[i]? = some e → es[i]? = some p → KeyIs mk p.1 e.key) :
    (∃ (j : Nat) (e : MapEntry) (x : D), (Instr.findKey kt ku m).run P w = .ok (some (j, e.val)) w ∧ m[j]? = some e ∧ es[j]? = some (n, x) ∧ findD n es = some x ∧ (∀ y, setD n y es = es.set j (n, y))) ∨
    ((Instr.findKey kt ku m).run P w = .ok none w ∧ findD n es = none ∧ ∀ y, setD n y es = es ++ [(n, y)]) := by
  unfold tyKey at h
  split at h
  · rename_i k hu
    injection h with h; subst h
    cases hk
    rcases findNow_spec (n := n) m es 0 hlen hes with ⟨j, e, x, f1, f2, f3, f4, f5⟩ | ⟨f1, f2, f3⟩
    · exact .inl ⟨j, e, x, by simp [Instr.findKey, ty_und hu, f1], f2, f3, f4, f5⟩
    · exact .inr ⟨by simp [Instr.findKey, ty_und hu, f1], f2, f3⟩
  · rename_i q e hu
    split at h
    · rename_i hc
      injection h with h; subst h
      obtain ⟨a, b, rfl, rfl⟩ := hk
      obtain ⟨rfl, h2, h3⟩ := hc
      have hn : Instr.findNow (.array 2 e) (pairV a b) m 0 = none ∨ m = [] := by
        cases m with
        | nil => exact .inr rfl
        | cons x m => exact .inl (by simp [Instr.findNow, Instr.sameNow])
      rcases hn with hn | rfl
      · rcases findAsking_spec (w := w) hu (tyInt_und h2) h3 a b m es 0 hlen hes with ⟨j, e, x, f1, f2, f3, f4, f5⟩ | ⟨f1, f2, f3⟩
        · exact .inl ⟨j, e, x, by simpa [Instr.findKey, ty_und hu, hn] using f1, f2, f3, f4, f5⟩
        · exact .inr ⟨by simpa [Instr.findKey, ty_und hu, hn] using f1, f2, f3⟩
      · have : es = [] := by cases es with
          | nil => rfl
          | cons _ _ => simp at hlen
        subst this
        exact .inr ⟨by simp [Instr.findKey, ty_und hu, Instr.findNow], rfl, fun _ => rfl⟩
    · cases h
  · cases h
theorem keyOf_is {c : Ctx} {N : Nat} {L : Loc} {w : World} {mk : MK} {k : V} {n : Int} {ku : Value} (h : keyOf mk k = some n) (hk : Val c L w N k ku) : KeyIs mk n ku := by
  unfold keyOf at h
  split at h
  · split at h
    · rename_i e; subst e; injection h with h; subst h; exact hk.int
    · cases h
  · injection h with h; subst h
    have := hk.dat
    cases this with
    | agg _ vs h1 h2 =>
      refine ⟨_, _, rfl, ?_⟩
      obtain ⟨v0, e0⟩ : ∃ v, vs[0]? = some v := ⟨vs[0]'(by rw [h1]; simp), by simp⟩
      obtain ⟨v1, e1⟩ : ∃ v, vs[1]? = some v := ⟨vs[1]'(by rw [h1]; simp), by simp⟩
      have r0 := h2 0 _ _ rfl e0
      have r1 := h2 1 _ _ rfl e1
      cases r0; cases r1
      unfold pairV
      congr 1
      apply Array.ext_getElem?
      intro i
      match i with
      | 0 => simpa using e0
      | 1 => simpa using e1
      | i + 2 => rw [Array.getElem?_eq_none (by rw [h1]; simp)]; simp
  · cases h
theorem same_bits {mk : MK} {n : Int} {u v : Value} (h : KeyIs mk n u) (h' : KeyIs mk n v) : Instr.sameBits 10000 v u = true := by
  cases mk with
  | int k => cases h; cases h'; simp [Instr.sameBits]
  | pair =>
    obtain ⟨a, b, e, rfl⟩ := h
    obtain ⟨c, d, e', rfl⟩ := h'
    rw [e] at e'
    obtain ⟨rfl, rfl⟩ := (pairKey_inj ..).1 e'
    simp [Instr.sameBits, pairV]
end Wf

/-
  What operations do: boxes, maps.
-/
namespace Wf
open Go Go.RowKit

section
variable {M : GM} {c : Ctx} {N : Nat} {w0 : World} {O0 : Nat → Prop} {L Lr : Loc} {G : M.S} {w : World}

theorem heap_new (w : World) (o : Obj) : (w.alloc o).heap[w.heap.size]? = some o := by
  show (w.heap.push o)[w.heap.size]? = _
  simp

theorem new_box (hM : M.Ok) (hm : Mem M c N w0 O0 L G w) {t : Nat} {a : Bool} {ds : List D} {x : Array Value} {T : TypeId} (hx : CellsRep w (own c L) N c.γ ds x) :
    Did M c N w0 O0 L G w { v := .ptr t (L.new t) 0, wr := [(t, (L.new t, .box a ds))] } (.pointer (some ⟨w.heap.size, 0, none⟩)) (w.alloc (.cells x T)) := by
  have ht : (L t).1 < L.new t := by simp [Loc.new]
  have hg := Grow.alloc hm (.cells x T) t (L.new t) (.box a ds) ht
  refine ⟨c.at t (some w.heap.size), Mem.alloc hM hm (.cells x T) t (L.new t) (.box a ds) ht ?_, hg, ?_⟩
  · exact ⟨w.heap.size, x, T, (0, 0), rfl, heap_new w _, fun i _ => World.frozen?_alloc_new w x T i, hx.1, fun i d u hd hu => ⟨((hx.2 i d u hd hu).1).grow hg, (hx.2 i d u hd hu).2⟩⟩
  · exact .ptr _ _ _ _ (by simp [Loc.upd, Loc.set_same]) fun _ => ⟨w.heap.size, by simp [Ctx.at], rfl⟩

theorem new_vbox (hM : M.Ok) (hm : Mem M c N w0 O0 L G w) {t : Nat} {v : V} {u : Value} {T : TypeId} (hv : Val c L w N v u) (h1 : u.oneCell' = true) :
    Did M c N w0 O0 L G w { v := .ptr t (L.new t) 0, wr := [(t, (L.new t, .vbox v))] } (.pointer (some ⟨w.heap.size, 0, none⟩)) (w.alloc (.cells #[u] T)) := by
  have ht : (L t).1 < L.new t := by simp [Loc.new]
  have hg := Grow.alloc hm (.cells #[u] T) t (L.new t) (.vbox v) ht
  refine ⟨c.at t (some w.heap.size), Mem.alloc hM hm (.cells #[u] T) t (L.new t) (.vbox v) ht ?_, hg, ?_⟩
  · exact ⟨w.heap.size, u, T, (0, 0), rfl, heap_new w _, fun i _ => World.frozen?_alloc_new w #[u] T i, h1, hv.grow hg⟩
  · exact .ptr _ _ _ _ (by simp [Loc.upd, Loc.set_same]) fun _ => ⟨w.heap.size, by simp [Ctx.at], rfl⟩

theorem new_map (hM : M.Ok) (hm : Mem M c N w0 O0 L G w) {t : Nat} {k : MK} :
    Did M c N w0 O0 L G w { v := .map t (L.new t), wr := [(t, (L.new t, .map k []))] } (.map (some w.heap.size)) (w.alloc (.map #[] 0)) := by
  have ht : (L t).1 < L.new t := by simp [Loc.new]
  have hg := Grow.alloc hm (.map #[] 0) t (L.new t) (.map k []) ht
  refine ⟨c.at t (some w.heap.size), Mem.alloc hM hm (.map #[] 0) t (L.new t) (.map k []) ht ?_, hg, ?_⟩
  · exact ⟨w.heap.size, #[], 0, rfl, heap_new w _, rfl, by simp⟩
  · exact .map _ _ _ (by simp [Loc.upd, Loc.set_same]) fun _ => ⟨w.heap.size, by simp [Ctx.at], rfl⟩

-- keys
theorem alookup_ok {P : Program} (hm : Mem M c N w0 O0 L G w) (hs : Sees Lr L) {t : TypeId} {m k v : V} {mu ku : Value} {ok : Bool} (ha : alookup P Lr t m k ok = some v) (hv : Val c L w N m mu) (hk : Val c L w N k ku) :
    ∃ u, (Instr.lookup t mu ku ok).run P w = .ok u w ∧ Val c L w N v u := by
  unfold alookup at ha
  split at ha
  rotate_left
  · cases ha
  rename_i kk et g l hty
  split at ha
  rotate_left
  · cases ha
  rename_i mk es z n hy hz hko
  split at ha
  rotate_left
  · cases ha
  rename_i hc
  subst hc
  have hkey := keyOf_is hko hk
  have hL := hs g l (by rw [hy]; simp)
  rw [hy] at hL
  obtain ⟨b, me, ck, h1, h2, h3, h4⟩ := hm.get hL (by simp)
  obtain ⟨kt, t1, t2⟩ := ty_map hty
  obtain ⟨i, zv, z1, z2, z3⟩ := ty_zero hz
  have hzero : ∀ w, (zeroValue et).run P w = .ok zv w := fun w => by simp [zeroValue, typeInfo, z1, z2]
  cases hv with
  | map _ _ _ k1 k2 =>
  obtain ⟨b', e1, rfl⟩ := k2 (by rw [hL]; simp)
  rw [h1] at e1; cases e1
  have hget : (getObj b).run P w = .ok (.map me ck) w := by simp [getObj, Sem.run, h2]
  have hf := find_key t2 hkey w me.toList es (by simpa using h3) (fun i e p a b => (h4 i e p (by simpa using a) b).1)
  rcases hf with ⟨j, e, x, f1, f2, f3, f4, f5⟩ | ⟨f1, f2, f3⟩
  · rw [f4] at ha
    injection ha with ha; subst ha
    have hr := (h4 j e _ (by simpa using f2) f3).2
    have hrun : (Instr.lookup t (.map (some b)) ku ok).run P w = .ok (if ok then .tuple #[e.val, .bool true] else e.val) w := by
      simp [Instr.lookup, ty_und t1, hget, check_key t2 hkey, f1]
    refine ⟨_, hrun, ?_⟩
    cases ok with
    | true =>
      refine .d _ _ (.tup _ _ rfl fun i d v hd hv => ?_)
      match i with
      | 0 => simp at hd hv; subst hd; subst hv; exact hr
      | 1 => simp at hd hv; subst hd; subst hv; exact .bool _
      | i + 2 => simp at hd
    | false => exact .d _ _ hr
  · rw [f2] at ha
    injection ha with ha; subst ha
    have hr := (valD_cells z3).2.2 w (own c L) N c.γ
    have hrun : (Instr.lookup t (.map (some b)) ku ok).run P w = .ok (if ok then .tuple #[zv, .bool false] else zv) w := by
      simp [Instr.lookup, ty_und t1, hget, check_key t2 hkey, f1, hzero]
    refine ⟨_, hrun, ?_⟩
    cases ok with
    | true =>
      refine .d _ _ (.tup _ _ rfl fun i d v hd hv => ?_)
      match i with
      | 0 => simp at hd hv; subst hd; subst hv; exact hr
      | 1 => simp at hd hv; subst hd; subst hv; exact .bool _
      | i + 2 => simp at hd
    | false => exact .d _ _ hr

theorem amapUpdate_ok {P : Program} (hM : M.Ok) (hm : Mem M c N w0 O0 L G w) (hs : Sees Lr L) {t : TypeId} {m k v : V} {mu ku vu : Value} {o : Out M.S} (ha : amapUpdate P Lr t m k v = some o) (hv : Val c L w N m mu) (hk : Val c L w N k ku) (hx : Val c L w N v vu) :
    ∃ w', (Instr.mapUpdate t mu ku vu).run P w = .ok () w' ∧ Did M c N w0 O0 L G w o undef w' := by
  unfold amapUpdate at ha
  split at ha
  rotate_left
  · cases ha
  rename_i kk et g l hty
  split at ha
  rotate_left
  · cases ha
  rename_i mk es x wr n hy htd hko
  split at ha
  rotate_left
  · cases ha
  rename_i hc
  obtain ⟨rfl, hgi⟩ := hc
  injection ha with ha; subst ha
  have hkey := keyOf_is hko hk
  have hL := hs g l (by rw [hy]; simp)
  rw [hy] at hL
  obtain ⟨m1, m2, m3⟩ := toD_ok hm hs htd hx
  -- what is frozen is another place
  have hLg : (L.upd wr) g = L g := by
    cases v with
    | d y => simp [toD] at htd; obtain ⟨_, rfl⟩ := htd; rfl
    | ref g' n' off len =>
      simp only [toD] at htd
      cases h9 : Lr.get g' n' <;> rw [h9] at htd <;> simp at htd
      obtain ⟨_, _, rfl⟩ := htd
      have : g ≠ g' := by intro e; exact hgi (by simp [V.ids, e])
      simp only [Loc.upd, Loc.set_ne _ _ this]
    | _ => cases htd
  have hL2 : (L.upd wr).get g l = .map mk es := by unfold Loc.get; rw [hLg]; exact hL
  obtain ⟨e1, e2⟩ := get_at hL2 (by simp)
  obtain ⟨b, me, ck, h1, h2, h3, h4⟩ := m1.get hL2 (by simp)
  obtain ⟨kt, t1, t2⟩ := ty_map hty
  cases hv with
  | map _ _ _ k1 k2 =>
  obtain ⟨b', e3, rfl⟩ := k2 (by rw [hL]; simp)
  rw [h1] at e3; cases e3
  have hget : (getObj b).run P w = .ok (.map me ck) w := by simp [getObj, Sem.run, h2]
  have hb := lt_of_heap h2
  have hset : ∀ (m' : Array MapEntry) (k' : Nat), (setObj b (.map m' k')).run P w = .ok () { w with heap := w.heap.setIfInBounds b (.map m' k') } := fun m' k' => by simp [setObj, Sem.run, h2]
  have hf := find_key t2 hkey w me.toList es (by simpa using h3) (fun i e p a b => (h4 i e p (by simpa using a) b).1)
  -- the block, written
  have key : ∀ (m' : Array MapEntry) (k' : Nat) (es' : List (Int × D)), m'.size = es'.length → (∀ (i : Nat) (e : MapEntry) (p : Int × D), m'[i]? = some e → es'[i]? = some p → KeyIs mk p.1 e.key ∧ Rep w (own c (L.upd wr)) N c.γ p.2 e.val) →
      Did M c N w0 O0 L G w { v := .d (.tup []), wr := wr ++ [(g, (l, .map mk es'))] } undef { w with heap := w.heap.setIfInBounds b (.map m' k') } := by
    intro m' k' es' hsz hes
    have hw : ∀ k, k ≠ b → (({ w with heap := w.heap.setIfInBounds b (.map m' k') } : World)).heap[k]? = w.heap[k]? := fun k hk => by simp [Array.getElem?_setIfInBounds_ne (Ne.symm hk)]
    have hbb : (({ w with heap := w.heap.setIfInBounds b (.map m' k') } : World)).heap[b]? = some (.map m' k') := by simp [hb]
    have hz : ∀ y T' fz', w.heap[b]? = some (.cells y T' fz') → ∃ y' fz'', (({ w with heap := w.heap.setIfInBounds b (.map m' k') } : World)).heap[b]? = some (.cells y' T' fz'') ∧ y'.size = y.size := by
      intro y T' fz' hy; rw [h2] at hy; cases hy
    have hg := Grow.write m1 (x := .map mk es') h1 (by rw [e2]; rfl) (by rw [e2]; rfl) (by simp) hw hz
    have hmm := Mem.write hM m1 (x := .map mk es') h1 (by rw [e2]; rfl) (by rw [e2]; rfl) (by simp) hw hz rfl rfl rfl
      ⟨b, m', k', rfl, hbb, hsz, fun i e p he hp => ⟨(hes i e p he hp).1, ((hes i e p he hp).2).grow hg⟩⟩
    rw [e1] at hg hmm
    refine ⟨c, ?_, ?_, undef_val⟩
    · rw [Loc.upd_append]; exact hmm
    · rw [Loc.upd_append]; exact m2.trans hg
  have hchk := check_key t2 hkey false w
  rcases hf with ⟨j, e, x', f1, f2, f3, f4, f5⟩ | ⟨f1, f2, f3⟩
  · have he : me[j]? = some e := by simpa using f2
    have hsame : Instr.sameBits 10000 e.key ku = true := same_bits hkey (h4 j e _ he f3).1
    refine ⟨_, ?_, key (me.modify j fun e => { e with key := ku, val := vu }) ck _ (by rw [f5]; simpa using h3) ?_⟩
    · simp [Instr.mapUpdate, ty_und t1, hget, hchk, f1, Instr.keyThatStays, he, hsame, hset]
    · intro i e' p he' hp
      rw [f5, List.getElem?_set] at hp
      rw [Array.getElem?_modify] at he'
      by_cases hij : j = i
      · subst hij
        have hlt : j < es.length := by
          rcases Nat.lt_or_ge j es.length with h | h
          · exact h
          · rw [List.getElem?_eq_none h] at f3; cases f3
        simp [hlt] at hp; subst hp
        rw [if_pos rfl, he] at he'
        simp at he'; subst he'
        exact ⟨hkey, m3⟩
      · rw [if_neg hij] at hp he'
        exact h4 i e' p he' hp
  · refine ⟨_, ?_, key (me.push { key := ku, val := vu, born := ck }) (ck + 1) _ (by rw [f3]; simp [h3]) ?_⟩
    · simp [Instr.mapUpdate, ty_und t1, hget, hchk, f1, hset]
    · intro i e' p he' hp
      rw [f3] at hp
      rw [Array.getElem?_push] at he'
      by_cases hi : i = me.size
      · subst hi
        rw [if_pos rfl] at he'
        rw [List.getElem?_append_right (by omega), h3, Nat.sub_self] at hp
        simp at he' hp; subst he'; subst hp
        exact ⟨hkey, m3⟩
      · rw [if_neg hi] at he'
        have hlt : i < es.length := by
          rcases Nat.lt_or_ge i me.size with h | h
          · omega
          · rw [Array.getElem?_eq_none h] at he'; cases he'
        rw [List.getElem?_append_left hlt] at hp
        exact h4 i e' p he' hp

end
end Wf

/-
  Calls: what is lent, what is handed back.
-/
namespace Wf
open Go Go.RowKit

/-- The state of memory beyond the frame, behind a call. -/
structure Kept (w : World) (O : Nat → Prop) (w' : World) : Prop where
  os : w'.os = w.os
  tape : w'.tape = w.tape
  output : w'.output = w.output
  size : w.heap.size ≤ w'.heap.size
  block : ∀ b, b < w.heap.size → ¬ O b → w'.heap[b]? = w.heap[b]?
  cells : ∀ (b : Nat) (x : Array Value) (T : TypeId) (fz : Nat × Nat), w.heap[b]? = some (.cells x T fz) → ∃ (x' : Array Value) (fz' : Nat × Nat), w'.heap[b]? = some (.cells x' T fz') ∧ x'.size = x.size

def ArrOk (w : World) (A : Nat → Prop) (N : Nat) (γ : Nat → Option Addr) (β : Option Nat) (sz : Nat) (els : List D) : Prop :=
  match β with
  | none => els = []
  | some b => ∃ (x : Array Value) (T : TypeId) (fz : Nat × Nat), w.heap[b]? = some (.cells x T fz) ∧ Unfrozen w b x.size ∧ els.length * sz ≤ x.size ∧ RowAt w A N γ b sz els

def CompOk (w : World) (A : Nat → Prop) (N : Nat) (γ : Nat → Option Addr) (β : Option Nat) (sz : Nat) (d : D) (u : Value) : Prop :=
  match d with
  | .sl .own els => SlAt w β sz 0 els.length u ∧ ArrOk w A N γ β sz els
  | d => β = none ∧ Rep w A N γ d u

/-- A result, handed over: rows that are the caller's own from then on. -/
def ResOk (w : World) (A : Nat → Prop) (N : Nat) (γ : Nat → Option Addr) (szs : List Nat) (r : D) (v : Value) : Prop :=
  ∃ ow : Nat → Option Nat, (∀ i j b, ow i = some b → ow j = some b → i = j) ∧ (∀ i b, ow i = some b → b < w.heap.size ∧ ¬ A b) ∧
    match r with
    | .tup ds => ∃ vs : Array Value, v = .tuple vs ∧ vs.size = ds.length ∧ szs.length = ds.length ∧
        ∀ (i : Nat) (d : D) (u : Value) (sz : Nat), ds[i]? = some d → vs[i]? = some u → szs[i]? = some sz → CompOk w (fun b => A b ∨ ∃ i, ow i = some b) N γ (ow i) sz d u
    | d => ∃ sz, szs = [sz] ∧ CompOk w (fun b => A b ∨ ∃ i, ow i = some b) N γ (ow 0) sz d v

/-- A function answers as its spec says. -/
def Sound (P : Program) (M : GM) (f : FuncId) : Spec M → Prop
  | .pure szs F => (∃ fn, P.funcs[f]? = some fn ∧ (fn.name == "runtime.NumGoroutine") = false ∧ fn.body.isNone = false) ∧
      ∀ ds r, F ds = some r → ∀ (w : World) γ us, Reps w (fun _ => False) 0 γ ds us →
        Calls P f us.toArray w fun e w' => ∃ v, e = .returned v ∧ Kept w (fun _ => False) w' ∧ ResOk w' (fun b => b < w.heap.size) w.heap.size γ szs r v
  | .st szs F => (∃ fn, P.funcs[f]? = some fn ∧ (fn.name == "runtime.NumGoroutine") = false ∧ fn.body.isNone = false) ∧
      ∀ ds s r s', F ds s = some (r, s') → ∀ (w : World) γ O us, M.rel s γ O w → (∀ b, O b → b < w.heap.size) → Reps w O 0 γ ds us →
        Calls P f us.toArray w fun e w' => ∃ v γ' O', e = .returned v ∧ (∀ n a, γ n = some a → γ' n = some a) ∧ M.rel s' γ' O' w' ∧ (∀ b, O' b → b < w'.heap.size ∧ (O b ∨ w.heap.size ≤ b)) ∧
          Kept w O w' ∧ ResOk w' (fun b => b < w.heap.size ∨ O' b) w.heap.size γ' szs r v

section
variable {M : GM} {c : Ctx} {N : Nat} {w0 : World} {O0 : Nat → Prop} {L Lr : Loc} {G : M.S} {w : World}

theorem Rep.out {A A' : Nat → Prop} {N N' : Nat} {γ} {d : D} {u : Value} (h : Rep w A N γ d u) (hA : ∀ b, A' b → A b) (hN : N' ≤ N) : Rep w A' N' γ d u :=
  h.mono (fun _ _ _ => rfl) (fun b _ h => hA b h) hN (Nat.le_refl _) (fun _ _ h => h)

theorem lend_els (hm : Mem M c N w0 O0 L G w) (hs : Sees Lr L) {v : V} {l : List D} {u : Value} (he : elsOf Lr v = some l) (hv : Val c L w N v u) : Rep w c.O 0 c.γ (.sl .lent l) u := by
  obtain ⟨a, cap, rfl, hc, h⟩ := els_ok hm hs he hv
  rcases h with rfl | ⟨b, o, sz, vs, rfl, hb, hO, h⟩
  · exact .slE _ _ _ (by simp)
  · by_cases h0 : l = []
    · subst h0; exact .slE _ _ _ (by simp)
    · exact .sl _ _ b o sz cap vs h0 hc (by simp) hO (by simp) hb (fun i d hd => ((h i d hd).1).out (fun b h => .inl h) (Nat.zero_le _))
        (fun i hi => (h i _ (List.getElem?_eq_getElem hi)).2)

theorem lend1_ok (hm : Mem M c N w0 O0 L G w) (hs : Sees Lr L) {v : V} {d : D} {u : Value} (he : lend1 Lr v = some d) (hv : Val c L w N v u) : Rep w c.O 0 c.γ d u := by
  cases v with
  | d x => simp [lend1] at he; subst he; exact hv.dat.out (fun b h => .inl h) (Nat.zero_le _)
  | ref g n off len =>
    simp only [lend1] at he
    cases hl : elsOf Lr (.ref g n off len) with
    | none => rw [hl] at he; cases he
    | some l => rw [hl] at he; simp at he; subst he; exact lend_els hm hs hl hv
  | bref g n off len =>
    simp only [lend1] at he
    cases hl : elsOf Lr (.bref g n off len) with
    | none => rw [hl] at he; cases he
    | some l => rw [hl] at he; simp at he; subst he; exact lend_els hm hs hl hv
  | _ => cases he

theorem lend2_ok (hm : Mem M c N w0 O0 L G w) (hs : Sees Lr L) {v : V} {d : D} {u : Value} (he : lend2 Lr v = some d) (hv : Val c L w N v u) : Rep w c.O 0 c.γ d u := by
  by_cases hp : ∃ g n off, v = .ptr g n off
  rotate_left
  · have : lend2 Lr v = lend1 Lr v := by
      cases v <;> first | rfl | exact absurd ⟨_, _, _, rfl⟩ hp
    rw [this] at he
    exact lend1_ok hm hs he hv
  · obtain ⟨g, n, off, rfl⟩ := hp
    simp only [lend2] at he
    cases hv with
    | ptr _ _ _ _ k1 k2 =>
    split at he
    · rename_i ds hy
      injection he with he; subst he
      have hL := hs g n (by rw [hy]; simp)
      rw [hy] at hL
      obtain ⟨b, x, T, fz, h1, h2, h3, h4, h5⟩ := hm.get hL (by simp)
      obtain ⟨b', e1, rfl⟩ := k2 (by rw [hL]; simp)
      rw [h1] at e1; cases e1
      obtain ⟨_, e2⟩ := get_at hL (by simp)
      have hmine := hm.mine g b h1 (by rw [e2]; simp)
      refine .at_ _ (.agg x) b 0 hmine.2.2 hmine.2.1 (fun j u hu => ?_) (.agg _ _ h4 (fun i d v hd hv => ((h5 i d v hd hv).1).out (fun b h => .inl h) (Nat.zero_le _)) (fun i v hv => ?_))
      · rw [Nat.zero_add]; exact cells_in h2 (by simpa [Value.cells] using hu)
      · have hi : i < ds.length := by
          rcases Nat.lt_or_ge i x.size with h' | h'
          · omega
          · rw [Array.getElem?_eq_none h'] at hv; cases hv
        exact (h5 i _ v (List.getElem?_eq_getElem hi) hv).2
    · rename_i y hy
      injection he with he; subst he
      have hL := hs g n (by rw [hy]; simp)
      rw [hy] at hL
      obtain ⟨b, x, T, fz, h1, h2, h3, h4, h5⟩ := hm.get hL (by simp)
      obtain ⟨b', e1, rfl⟩ := k2 (by rw [hL]; simp)
      rw [h1] at e1; cases e1
      obtain ⟨_, e2⟩ := get_at hL (by simp)
      have hmine := hm.mine g b h1 (by rw [e2]; simp)
      simp at h4
      have hx0 : x[0]? = some (x[0]'(by omega)) := by simp
      obtain ⟨r1, r2⟩ := h5 0 y _ (by simp) hx0
      refine .at_ _ _ b 0 hmine.2.2 hmine.2.1 (fun j u hu => ?_) (r1.out (fun b h => .inl h) (Nat.zero_le _))
      rw [cells_of_one r2] at hu
      cases j with
      | zero => simp at hu; subst hu; exact cells_in h2 (by simpa using hx0)
      | succ j => simp at hu
    · rename_i q hy
      cases hl : lend1 Lr q with
      | none => rw [hl] at he; cases he
      | some d' =>
        rw [hl] at he
        injection he with he; subst he
        have hL := hs g n (by rw [hy]; simp)
        rw [hy] at hL
        obtain ⟨b, u0, T, fz, h1, h2, h3, h4, h5⟩ := hm.get hL (by simp)
        obtain ⟨b', e1, rfl⟩ := k2 (by rw [hL]; simp)
        rw [h1] at e1; cases e1
        obtain ⟨_, e2⟩ := get_at hL (by simp)
        have hmine := hm.mine g b h1 (by rw [e2]; simp)
        refine .at_ _ u0 b 0 hmine.2.2 hmine.2.1 (fun j u hu => ?_) (lend1_ok hm hs hl h5)
        rw [cells_of_one h4] at hu
        cases j with
        | zero => simp at hu; subst hu; exact cells_in h2 rfl
        | succ j => simp at hu
    · cases he

theorem mapM_get {α β : Type} {f : α → Option β} : ∀ {l : List α} {r : List β}, l.mapM f = some r → r.length = l.length ∧ ∀ (i : Nat) (a : α) (b : β), l[i]? = some a → r[i]? = some b → f a = some b
  | [], r, h => by simp at h; subst h; simp
  | a :: l, r, h => by
    simp only [List.mapM_cons] at h
    cases h1 : f a with
    | none => rw [h1] at h; cases h
    | some b =>
      rw [h1] at h
      cases h2 : l.mapM f with
      | none => rw [h2] at h; cases h
      | some r' =>
        rw [h2] at h
        injection h with h; subst h
        obtain ⟨p1, p2⟩ := mapM_get h2
        refine ⟨by simp [p1], fun i a' b' ha hb => ?_⟩
        cases i with
        | zero => simp at ha hb; subst ha; subst hb; exact h1
        | succ i => exact p2 i a' b' (by simpa using ha) (by simpa using hb)

theorem lend_ok (hm : Mem M c N w0 O0 L G w) (hs : Sees Lr L) {v : V} {d : D} {u : Value} (he : lend Lr v = some d) (hv : Val c L w N v u) : Rep w c.O 0 c.γ d u := by
  by_cases hclo : ∃ f a b, v = .clo f a b
  rotate_left
  · have : lend Lr v = lend2 Lr v := by
      cases v <;> first | rfl | exact absurd ⟨_, _, _, rfl⟩ hclo
    rw [this] at he
    exact lend2_ok hm hs he hv
  · obtain ⟨f, a, b, rfl⟩ := hclo
    simp only [lend] at he
    cases h1 : a.mapM (lend2 Lr) with
    | none => rw [h1] at he; cases he
    | some a' =>
      rw [h1] at he
      simp only [Option.bind_some] at he
      cases h2 : b.mapM (lend2 Lr) with
      | none => rw [h2] at he; cases he
      | some b' =>
        rw [h2] at he
        injection he with he; subst he
        obtain ⟨p1, p2⟩ := mapM_get h1
        obtain ⟨q1, q2⟩ := mapM_get h2
        cases hv with
        | clo _ _ _ va vb k1 k2 k3 k4 =>
          refine .fn _ _ _ _ _ (by omega) (by omega) (fun i d v hd hv => ?_) (fun i d v hd hv => ?_)
          · have hi : i < a.length := by
              rcases Nat.lt_or_ge i va.size with h' | h'
              · omega
              · rw [Array.getElem?_eq_none h'] at hv; cases hv
            exact lend2_ok hm hs (p2 i _ _ (List.getElem?_eq_getElem hi) hd) (k3 i _ _ (List.getElem?_eq_getElem hi) hv)
          · have hi : i < b.length := by
              rcases Nat.lt_or_ge i vb.size with h' | h'
              · omega
              · rw [Array.getElem?_eq_none h'] at hv; cases hv
            exact lend2_ok hm hs (q2 i _ _ (List.getElem?_eq_getElem hi) hd) (k4 i _ _ (List.getElem?_eq_getElem hi) hv)

/-- Rows that a call hands over find their places. -/
theorem adopt_core (hm : Mem M c N w0 O0 L G w) {w' : World} {G' : M.S} {γ' : Nat → Option Addr} {O' : Nat → Prop} (hγ : ∀ n a, c.γ n = some a → γ' n = some a) (hglob : M.rel G' γ' O' w')
    (hO : ∀ b, O' b → b < w'.heap.size ∧ (c.O b ∨ w.heap.size ≤ b)) (hk : Kept w c.O w') (ad : Nat → Option (Nat × List D × Option Nat)) (L' : Loc)
    (hL' : ∀ g, L' g = match ad g with | some (sz, els, _) => (L.new g, .arr sz els true) | none => L g)
    (hblk : ∀ g sz els b, ad g = some (sz, els, some b) → w.heap.size ≤ b ∧ b < w'.heap.size ∧ ¬ O' b)
    (hinj : ∀ g g' sz els sz' els' b, ad g = some (sz, els, some b) → ad g' = some (sz', els', some b) → g = g')
    (hrow : ∀ g sz els β, ad g = some (sz, els, β) → ArrOk w' (fun b => (b < w.heap.size ∨ O' b) ∨ ∃ g sz els, ad g = some (sz, els, some b)) N γ' β sz els) :
    let c' : Ctx := { ι := fun g => match ad g with | some (_, _, β) => β | none => c.ι g, γ := γ', O := O' }
    Mem M c' N w0 O0 L' G' w' ∧ Grow c L w c' L' w' ∧ ∀ b, own c' L' b → (b < w.heap.size ∨ O' b) ∨ ∃ g sz els, ad g = some (sz, els, some b) := by
  intro c'
  have hout : ∀ b, own c' L' b → (b < w.heap.size ∨ O' b) ∨ ∃ g sz els, ad g = some (sz, els, some b) := by
    rintro b (h | ⟨g, h1, h2⟩)
    · exact .inl (.inr h)
    · rw [hL'] at h2
      cases ha : ad g with
      | none =>
        simp only [c', ha] at h1 h2
        exact .inl (.inl (hm.mine g b h1 (by intro e; rw [e] at h2; cases h2)).2.1)
      | some p =>
        obtain ⟨sz, els, β⟩ := p
        simp only [c', ha] at h1
        subst h1
        exact .inr ⟨g, sz, els, ha⟩
  have hg : Grow c L w c' L' w' := by
    refine ⟨hk.size, fun b hb hlt => hk.block b hlt fun h => hb (.inl h), ?_, hγ, ?_, ?_, ?_⟩
    · rintro b hlt (h | ⟨g, h1, h2⟩)
      · rcases (hO b h).2 with h' | h'
        · exact .inl h'
        · omega
      · rw [hL'] at h2
        cases ha : ad g with
        | none => simp only [c', ha] at h1 h2; exact .inr ⟨g, h1, h2⟩
        | some p =>
          obtain ⟨sz, els, β⟩ := p
          simp only [c', ha] at h1
          subst h1
          have := (hblk g sz els b ha).1; omega
    · intro b x T fz hb _; exact hk.cells b x T fz hb
    · intro g
      rw [hL']
      cases ha : ad g with
      | none => exact Nat.le_refl _
      | some p => simp [Loc.new]
    · intro g e
      rw [hL'] at e ⊢
      cases ha : ad g with
      | none => exact .inr ⟨by simp only [c', ha], Compat.refl _⟩
      | some p => rw [ha] at e; simp [Loc.new] at e
  refine ⟨⟨?_, ?_, ?_, hglob, Nat.le_trans hm.size hk.size, hm.size0, by rw [hk.os]; exact hm.os, by rw [hk.tape]; exact hm.tape, by rw [hk.output]; exact hm.output, ?_, ?_⟩, hg, hout⟩
  · intro g
    rw [hL']
    cases ha : ad g with
    | none =>
      simp only [c', ha]
      refine (hm.obj g).grow hg fun b hb hd => ?_
      obtain ⟨_, a2, a3⟩ := hm.mine g b hb hd
      exact hk.block b a2 a3
    | some p =>
      obtain ⟨sz, els, β⟩ := p
      simp only [c', ha]
      have hr := hrow g sz els β ha
      cases β with
      | none => exact hr
      | some b =>
        obtain ⟨x, T, fz, r1, r2, r3, vs, r4⟩ := hr
        refine ⟨x, T, fz, r1, r2, r3, vs, fun i d hd => ⟨((r4 i d hd).1).out hout (Nat.le_refl _), (r4 i d hd).2.1, (r4 i d hd).2.2⟩⟩
  · intro g g' b h1 h2 h3 h4
    rw [hL'] at h3 h4
    cases ha : ad g with
    | none =>
      simp only [c', ha] at h1 h3
      cases ha' : ad g' with
      | none => simp only [c', ha'] at h2 h4; exact hm.inj g g' b h1 h2 h3 h4
      | some p =>
        obtain ⟨sz, els, β⟩ := p
        simp only [c', ha'] at h2; subst h2
        have := (hblk g' sz els b ha').1
        have := (hm.mine g b h1 h3).2.1
        omega
    | some p =>
      obtain ⟨sz, els, β⟩ := p
      simp only [c', ha] at h1; subst h1
      cases ha' : ad g' with
      | none =>
        simp only [c', ha'] at h2 h4
        have := (hblk g sz els b ha).1
        have := (hm.mine g' b h2 h4).2.1
        omega
      | some p' =>
        obtain ⟨sz', els', β'⟩ := p'
        simp only [c', ha'] at h2; subst h2
        exact hinj g g' _ _ _ _ b ha ha'
  · intro g b h1 h2
    rw [hL'] at h2
    cases ha : ad g with
    | none =>
      simp only [c', ha] at h1 h2
      obtain ⟨a1, a2, a3⟩ := hm.mine g b h1 h2
      refine ⟨a1, Nat.lt_of_lt_of_le a2 hk.size, fun h => ?_⟩
      rcases (hO b h).2 with h' | h'
      · exact a3 h'
      · omega
    | some p =>
      obtain ⟨sz, els, β⟩ := p
      simp only [c', ha] at h1; subst h1
      obtain ⟨a1, a2, a3⟩ := hblk g sz els b ha
      exact ⟨Nat.le_trans hm.size a1, a2, a3⟩
  · intro b hb hO0
    rw [hk.block b (Nat.lt_of_lt_of_le hb hm.size) fun h => ?_]
    · exact hm.keep b hb hO0
    · rcases (hm.osub b h).2 with h' | h'
      · exact hO0 h'
      · omega
  · intro b hb
    obtain ⟨a1, a2⟩ := hO b hb
    refine ⟨a1, ?_⟩
    rcases a2 with h | h
    · exact (hm.osub b h).2
    · exact .inr (Nat.le_trans hm.size h)

end
end Wf

/-
  Calls, whole.
-/
namespace Wf
open Go Go.RowKit

section
variable {M : GM} {c : Ctx} {N : Nat} {w0 : World} {O0 : Nat → Prop} {L Lr : Loc} {G : M.S} {w : World}

theorem adopt1_not {id sz : Nat} {d : D} (h : ∀ els, d ≠ .sl .own els) : adopt1 L id sz d = (.d d, []) := by
  unfold adopt1
  split
  · rename_i els; exact absurd rfl (h els)
  · rfl

theorem adoptL_spec {t : Nat} : ∀ (szs : List Nat) (ds : List D) (j : Nat) (Lb : Loc), szs.length = ds.length →
    (adoptL L t j szs ds).1.length = ds.length ∧
    (∀ (i : Nat) (d : D) (sz : Nat), ds[i]? = some d → szs[i]? = some sz → (adoptL L t j szs ds).1[i]? = some (adopt1 L (t + 1000 * (j + i + 1)) sz d).1) ∧
    (∀ (i : Nat) (els : List D) (sz : Nat), ds[i]? = some (.sl .own els) → szs[i]? = some sz → (Lb.upd (adoptL L t j szs ds).2) (t + 1000 * (j + i + 1)) = (L.new (t + 1000 * (j + i + 1)), .arr sz els true)) ∧
    ∀ g, (∀ (i : Nat) (els : List D) (sz : Nat), ds[i]? = some (.sl .own els) → szs[i]? = some sz → g ≠ t + 1000 * (j + i + 1)) → (Lb.upd (adoptL L t j szs ds).2) g = Lb g
  | [], [], j, Lb, _ => ⟨rfl, by simp, by simp, fun _ _ => rfl⟩
  | [], _ :: _, _, _, h => by simp at h
  | _ :: _, [], _, _, h => by simp at h
  | sz :: szs, d :: ds, j, Lb, h => by
    let r := adopt1 L (t + 1000 * (j + 1)) sz d
    obtain ⟨k1, k2, k3, k4⟩ := adoptL_spec (t := t) szs ds (j + 1) (Lb.upd r.2) (by simpa using h)
    have hwr : ∀ g, g ≠ t + 1000 * (j + 1) → (Lb.upd r.2) g = Lb g := by
      intro g hg
      by_cases ho : ∃ els, d = .sl .own els
      · obtain ⟨els, rfl⟩ := ho
        simp only [r, adopt1, Loc.upd, Loc.set_ne _ _ hg]
      · have : r = (.d d, []) := adopt1_not fun els e => ho ⟨els, e⟩
        rw [this]; rfl
    have hw0 : ∀ els, d = .sl .own els → (Lb.upd r.2) (t + 1000 * (j + 1)) = (L.new (t + 1000 * (j + 1)), .arr sz els true) := by
      rintro els rfl
      simp only [r, adopt1, Loc.upd, Loc.set_same]
    refine ⟨by simp [adoptL, k1], ?_, ?_, ?_⟩
    · intro i d' sz' hd hs
      cases i with
      | zero => simp at hd hs; subst hd; subst hs; simp [adoptL]
      | succ i =>
        have := k2 i d' sz' (by simpa using hd) (by simpa using hs)
        simp only [adoptL, List.getElem?_cons_succ]
        rw [this]; congr 4; omega
    · intro i els sz' hd hs
      simp only [adoptL, Loc.upd_append]
      cases i with
      | zero =>
        simp at hd hs; subst hs
        rw [k4 _ (fun i _ _ _ _ => by omega)]
        exact hw0 els hd
      | succ i =>
        have := k3 i els sz' (by simpa using hd) (by simpa using hs)
        rw [show j + 1 + i = j + (i + 1) by omega] at this
        exact this
    · intro g hg
      simp only [adoptL, Loc.upd_append]
      rw [k4 g (fun i els sz' hd hs => by
        have := hg (i + 1) els sz' (by simpa using hd) (by simpa using hs)
        rwa [show j + (i + 1) = j + 1 + i by omega] at this)]
      by_cases hg0 : g = t + 1000 * (j + 1)
      · by_cases ho : ∃ els, d = .sl .own els
        · obtain ⟨els, rfl⟩ := ho
          exact absurd hg0 (hg 0 els sz (by simp) (by simp))
        · have : r = (.d d, []) := adopt1_not fun els e => ho ⟨els, e⟩
          rw [this]; rfl
      · exact hwr g hg0

theorem CompOk.not_own {A : Nat → Prop} {γ β sz} {d : D} {u : Value} (h : CompOk w A N γ β sz d u) (hn : ∀ els, d ≠ .sl .own els) : β = none ∧ Rep w A N γ d u := by
  unfold CompOk at h
  split at h
  · rename_i els; exact absurd rfl (hn els)
  · exact h

theorem ArrOk.out {w : World} {A A' : Nat → Prop} {N N' : Nat} {γ β sz els} (h : ArrOk w A N γ β sz els) (hA : ∀ b, A' b → A b) (hN : N' ≤ N) : ArrOk w A' N' γ β sz els := by
  cases β with
  | none => exact h
  | some b =>
    obtain ⟨x, T, fz, r1, r2, r3, vs, r4⟩ := h
    exact ⟨x, T, fz, r1, r2, r3, vs, fun i d hd => ⟨((r4 i d hd).1).out hA hN, (r4 i d hd).2⟩⟩

theorem adopt_ok (hm : Mem M c N w0 O0 L G w) {w' : World} {G' : M.S} {γ' : Nat → Option Addr} {O' : Nat → Prop} (hγ : ∀ n a, c.γ n = some a → γ' n = some a) (hglob : M.rel G' γ' O' w')
    (hO : ∀ b, O' b → b < w'.heap.size ∧ (c.O b ∨ w.heap.size ≤ b)) (hk : Kept w c.O w') {t : Nat} {szs : List Nat} {r : D} {v : Value} {vv : V} {wr : Wr}
    (ha : adopt Lr t szs r = some (vv, wr)) (hLr : ∀ i, i ≤ 4 → Lr (t + 1000 * i) = L (t + 1000 * i)) (hr : ResOk w' (fun b => b < w.heap.size ∨ O' b) w.heap.size γ' szs r v) :
    ∃ c', Mem M c' N w0 O0 (L.upd wr) G' w' ∧ Grow c L w c' (L.upd wr) w' ∧ Val c' (L.upd wr) w' N vv v := by
  have hN := hm.size
  obtain ⟨ow, o1, o2, o3⟩ := hr
  by_cases htup : ∃ ds, r = .tup ds
  · obtain ⟨ds, rfl⟩ := htup
    simp only [adopt] at ha
    split at ha
    rotate_left
    · cases ha
    rename_i hlen
    obtain ⟨hlen, hle4⟩ := hlen
    injection ha with ha
    injection ha with ha1 ha2
    subst ha1; subst ha2
    obtain ⟨vs, rfl, q1, _, q3⟩ := o3
    obtain ⟨k1, k2, k3, k4⟩ := adoptL_spec (L := Lr) (t := t) szs ds 0 L hlen
    let idx : Nat → Nat := fun g => (g - t) / 1000 - 1
    have hidx : ∀ i, idx (t + 1000 * (i + 1)) = i := by intro i; simp only [idx]; omega
    let ad : Nat → Option (Nat × List D × Option Nat) := fun g => if g = t + 1000 * (idx g + 1) then
      (match ds[idx g]?, szs[idx g]? with
       | some (.sl .own els), some sz => some (sz, els, ow (idx g))
       | _, _ => none) else none
    have had : ∀ g sz els β, ad g = some (sz, els, β) → ∃ i, i < 4 ∧ g = t + 1000 * (i + 1) ∧ ds[i]? = some (.sl .own els) ∧ szs[i]? = some sz ∧ β = ow i := by
      intro g sz els β h
      simp only [ad] at h
      split at h
      · rename_i hg
        split at h
        · rename_i els' sz' h1 h2
          injection h with h
          injection h with h3 h4
          injection h4 with h4 h5
          subst h3; subst h4; subst h5
          have : idx g < ds.length := by
            rcases Nat.lt_or_ge (idx g) ds.length with h | h
            · exact h
            · rw [List.getElem?_eq_none h] at h1; cases h1
          exact ⟨idx g, by omega, hg, h1, h2, rfl⟩
        · cases h
      · cases h
    have had' : ∀ i els sz, ds[i]? = some (.sl .own els) → szs[i]? = some sz → ad (t + 1000 * (i + 1)) = some (sz, els, ow i) := by
      intro i els sz h1 h2
      simp only [ad, hidx, if_true, h1, h2]
    have hnone : ∀ g, ad g = none → (L.upd (adoptL Lr t 0 szs ds).2) g = L g := by
      intro g hg
      refine k4 g fun i els sz h1 h2 e => ?_
      rw [Nat.zero_add] at e
      rw [e, had' i els sz h1 h2] at hg; cases hg
    have hlt4 : ∀ (i : Nat) (els : List D), ds[i]? = some (.sl .own els) → i < 4 := by
      intro i els h
      rcases Nat.lt_or_ge i ds.length with h' | h'
      · omega
      · rw [List.getElem?_eq_none h'] at h; cases h
    have hsome : ∀ g sz els β, ad g = some (sz, els, β) → (L.upd (adoptL Lr t 0 szs ds).2) g = (L.new g, .arr sz els true) := by
      intro g sz els β hg
      obtain ⟨i, hi, rfl, h1, h2, _⟩ := had g sz els β hg
      have := k3 i els sz h1 h2
      rw [Nat.zero_add] at this
      rw [this]
      have : Lr.new (t + 1000 * (i + 1)) = L.new (t + 1000 * (i + 1)) := by unfold Loc.new; rw [hLr _ (by omega)]
      rw [this]
    have comp : ∀ (i : Nat) (els : List D) (sz : Nat), ds[i]? = some (.sl .own els) → szs[i]? = some sz → ∃ u, vs[i]? = some u ∧ CompOk w' (fun b => (b < w.heap.size ∨ O' b) ∨ ∃ i, ow i = some b) w.heap.size γ' (ow i) sz (.sl .own els) u := by
      intro i els sz h1 h2
      have hi : i < vs.size := by
        rcases Nat.lt_or_ge i ds.length with h' | h'
        · omega
        · rw [List.getElem?_eq_none h'] at h1; cases h1
      exact ⟨vs[i], Array.getElem?_eq_getElem hi, q3 i _ _ _ h1 (Array.getElem?_eq_getElem hi) h2⟩
    have hsub : ∀ b, ((b < w.heap.size ∨ O' b) ∨ ∃ g sz els, ad g = some (sz, els, some b)) → ((b < w.heap.size ∨ O' b) ∨ ∃ i, ow i = some b) := by
      rintro b (h | ⟨g, sz, els, h⟩)
      · exact .inl h
      · obtain ⟨i, _, _, _, _, h6⟩ := had g sz els _ h
        exact .inr ⟨i, h6.symm⟩
    obtain ⟨m1, m2, m3⟩ := adopt_core hm hγ hglob hO hk ad (L.upd (adoptL Lr t 0 szs ds).2)
      (fun g => by
        cases hg : ad g with
        | none => exact hnone g hg
        | some p => obtain ⟨sz, els, β⟩ := p; exact hsome g sz els β hg)
      (fun g sz els b h => by
        obtain ⟨i, _, _, h4, h5, h6⟩ := had g sz els _ h
        obtain ⟨a1, a2⟩ := o2 i b h6.symm
        refine ⟨?_, a1, fun h => a2 (.inr h)⟩
        rcases Nat.lt_or_ge b w.heap.size with h' | h'
        · exact absurd (.inl h') a2
        · exact h')
      (fun g g' sz els sz' els' b h h' => by
        obtain ⟨i, _, hg, _, _, h6⟩ := had g sz els _ h
        obtain ⟨i', _, hg', _, _, h6'⟩ := had g' sz' els' _ h'
        have := o1 i i' b h6.symm h6'.symm
        rw [hg, hg', this])
      (fun g sz els β h => by
        obtain ⟨i, _, _, h4, h5, rfl⟩ := had g sz els _ h
        obtain ⟨u, _, hc⟩ := comp i els sz h4 h5
        exact (hc.2).out hsub hN)
    refine ⟨_, m1, m2, .tup _ _ (by rw [k1]; exact q1) fun i x u hx hu => ?_⟩
    have hi : i < ds.length := by
      rcases Nat.lt_or_ge i vs.size with h' | h'
      · omega
      · rw [Array.getElem?_eq_none h'] at hu; cases hu
    have hd : ds[i]? = some ds[i] := List.getElem?_eq_getElem hi
    have hsz : szs[i]? = some (szs[i]'(by omega)) := List.getElem?_eq_getElem (by omega)
    have hx' := k2 i _ _ hd hsz
    rw [hx] at hx'
    injection hx' with hx'
    have hcomp := q3 i _ u _ hd hu hsz
    rw [Nat.zero_add] at hx'
    by_cases ho : ∃ els, ds[i] = .sl .own els
    · obtain ⟨els, hels⟩ := ho
      rw [hels] at hx' hcomp hd
      simp only [adopt1] at hx'
      subst hx'
      have h1 := had' i els _ hd hsz
      have h2 := hsome _ _ _ _ h1
      have h3 : Lr.new (t + 1000 * (i + 1)) = L.new (t + 1000 * (i + 1)) := by unfold Loc.new; rw [hLr _ (by omega)]
      rw [h3]
      refine .ref _ _ _ _ _ (by rw [h2]; exact Nat.le_refl _) fun sz' els' l' hget => ?_
      unfold Loc.get at hget
      rw [h2] at hget
      simp at hget
      obtain ⟨rfl, rfl, rfl⟩ := hget
      refine ⟨by omega, ?_⟩
      simp only [h1]
      exact hcomp.1
    · rw [adopt1_not fun els e => ho ⟨els, e⟩] at hx'
      subst hx'
      exact .d _ _ (((hcomp.not_own fun els e => ho ⟨els, e⟩).2).out (fun b h => hsub b (m3 b h)) hN)
  · have o3' : ∃ sz, szs = [sz] ∧ CompOk w' (fun b => (b < w.heap.size ∨ O' b) ∨ ∃ i, ow i = some b) w.heap.size γ' (ow 0) sz r v := by
      cases r <;> first | exact o3 | exact absurd ⟨_, rfl⟩ htup
    obtain ⟨sz, rfl, hc⟩ := o3'
    have ha' : adopt1 Lr t sz r = (vv, wr) := by
      cases r <;> first | (simp only [adopt] at ha; injection ha) | exact absurd ⟨_, rfl⟩ htup
    have hL0 : Lr.new t = L.new t := by have := hLr 0 (by omega); simp at this; unfold Loc.new; rw [this]
    by_cases ho : ∃ els, r = .sl .own els
    · obtain ⟨els, rfl⟩ := ho
      simp only [adopt1] at ha'
      injection ha' with h1 h2
      subst h1; subst h2
      let ad : Nat → Option (Nat × List D × Option Nat) := fun g => if g = t then some (sz, els, ow 0) else none
      have had : ∀ g sz' els' β, ad g = some (sz', els', β) → g = t ∧ sz' = sz ∧ els' = els ∧ β = ow 0 := by
        intro g sz' els' β h
        simp only [ad] at h
        split at h
        · injection h with h; injection h with h3 h4; injection h4 with h4 h5
          exact ⟨by assumption, h3.symm, h4.symm, h5.symm⟩
        · cases h
      have hsub : ∀ b, ((b < w.heap.size ∨ O' b) ∨ ∃ g sz els, ad g = some (sz, els, some b)) → ((b < w.heap.size ∨ O' b) ∨ ∃ i, ow i = some b) := by
        rintro b (h | ⟨g, sz, els, h⟩)
        · exact .inl h
        · exact .inr ⟨0, (had _ _ _ _ h).2.2.2.symm⟩
      rw [hL0]
      obtain ⟨m1, m2, m3⟩ := adopt_core hm hγ hglob hO hk ad (L.upd [(t, (L.new t, .arr sz els true))])
        (fun g => by
          by_cases hg : g = t
          · subst hg; simp only [ad, if_true, Loc.upd, Loc.set_same]
          · simp only [ad, hg, if_false, Loc.upd, Loc.set_ne _ _ hg])
        (fun g sz' els' b h => by
          obtain ⟨_, _, _, h6⟩ := had _ _ _ _ h
          obtain ⟨a1, a2⟩ := o2 0 b h6.symm
          refine ⟨?_, a1, fun h => a2 (.inr h)⟩
          rcases Nat.lt_or_ge b w.heap.size with h' | h'
          · exact absurd (.inl h') a2
          · exact h')
        (fun g g' _ _ _ _ b h h' => by rw [(had _ _ _ _ h).1, (had _ _ _ _ h').1])
        (fun g sz' els' β h => by
          obtain ⟨_, rfl, rfl, rfl⟩ := had _ _ _ _ h
          exact (hc.2).out hsub hN)
      refine ⟨_, m1, m2, .ref _ _ _ _ _ (by simp [Loc.upd, Loc.set_same]) fun sz' els' l' hget => ?_⟩
      simp only [Loc.upd, Loc.get, Loc.set_same, if_true] at hget
      cases hget
      refine ⟨by omega, ?_⟩
      have : ad t = some (sz, els, ow 0) := by simp [ad]
      simp only [this]
      exact hc.1
    · rw [adopt1_not fun els e => ho ⟨els, e⟩] at ha'
      injection ha' with h1 h2
      subst h1; subst h2
      obtain ⟨m1, m2, m3⟩ := adopt_core hm hγ hglob hO hk (fun _ => none) L (fun _ => rfl) (by simp) (by simp) (by simp)
      exact ⟨_, m1, m2, .d _ _ (((hc.not_own fun els e => ho ⟨els, e⟩).2).out (fun b h => by
        rcases m3 b h with h | ⟨_, _, _, h⟩
        · exact .inl h
        · cases h) hN)⟩

end
end Wf

/-
  An operation, whole.
-/
namespace Wf
open Go Go.RowKit

theorem aeqFs_ok {P : Program} {w : World} {A N γ} {eq : TypeId → D → D → Option Bool} {d : Nat} (heq : ∀ t x y r u v, eq t x y = some r → Rep w A N γ x u → Rep w A N γ y v → (Op.equalIn d t u v).run P w = .ok r w)
    {xs ys : List D} {us vs : Array Value} (hx : Rep w A N γ (.agg xs) (.agg us)) (hy : Rep w A N γ (.agg ys) (.agg vs)) : ∀ (fs : List Field) (r : Bool), aeqFs P eq xs ys fs = some r → (Op.eqFields d us vs fs).run P w = .ok r w
  | [], r, h => by simp [aeqFs] at h; subst h; simp [Op.eqFields]
  | f :: fs, r, h => by
    unfold aeqFs at h
    split at h
    · cases h
    · rename_i hname
      split at h
      rotate_left
      · cases h
      rename_i ag n hag hn
      split at h
      rotate_left
      · cases h
      rename_i x y hpx hpy
      cases he : eq f.type x y with
      | none => rw [he] at h; cases h
      | some r1 =>
        rw [he] at h
        simp only [Option.bind_some] at h
        cases hr : aeqFs P eq xs ys fs with
        | none => rw [hr] at h; cases h
        | some r2 =>
          rw [hr] at h
          simp at h; subst h
          have part1 : ∀ {zs : List D} {ws : Array Value} {z : D}, Rep w A N γ (.agg zs) (.agg ws) → partD ag n f.offset zs = some z → ∃ u, (part f.type ws f.offset).run P w = .ok u w ∧ Rep w A N γ z u := by
            intro zs ws z hz hp
            cases hz with
            | agg _ _ q1 q2 q3 =>
              obtain ⟨v, r1, r2, _⟩ := part_rep hp q1 (fun i d u hd hu => ⟨q2 i d u hd hu, q3 i u hu⟩)
              refine ⟨v, run_part hag hn ?_, r1⟩
              cases ag with
              | true => simp at r2; simp [r2.1]
              | false => simp at r2; simpa using r2.1
          obtain ⟨u, p1, p2⟩ := part1 hx hpx
          obtain ⟨v, p3, p4⟩ := part1 hy hpy
          have h1 := heq _ _ _ _ _ _ he p2 p4
          have h2 := aeqFs_ok heq hx hy fs r2 hr
          simp only [Op.eqFields, ne_eq, hname, not_false_eq_true, if_true, Sem.run_bind, p1, p3, h1, Result.andThen_ok]
          cases r1
          · simp
          · simp [h2]

theorem aeq_ok {P : Program} {w : World} {A N γ} : ∀ (d k : Nat) (t : TypeId) (x y : D) (r : Bool) (u v : Value), aeq P d t x y = some r → Rep w A N γ x u → Rep w A N γ y v → (Op.equalIn (d + k) t u v).run P w = .ok r w
  | 0, _, _, _, _, _, _, _, h, _, _ => by cases h
  | d + 1, k, t, x, y, r, u, v, h, hx, hy => by
    unfold aeq at h
    rw [show d + 1 + k = (d + k) + 1 by omega]
    split at h
    · rename_i k0 hu
      split at h
      · split at h
        · rename_i hk
          injection h with h; subst h; subst hk
          cases hx; cases hy
          exact run_equalIn_int w _ t _ _ _ _ hu
        · cases h
      · cases h
    · rename_i hu
      split at h
      · injection h with h; subst h
        cases hx; cases hy
        exact run_equalIn_bool' w _ t _ _ hu
      · cases h
    · rename_i fs hu
      split at h
      · split at h
        · cases h
        · rename_i hst
          cases hx with
          | agg _ us a1 a2 a3 =>
          cases hy with
          | agg _ vs b1 b2 b3 =>
            have hf : P.fieldsOf t = fs := by unfold Program.fieldsOf; rw [hu]
            rw [run_equalIn_struct w (d + k) t us vs (by rw [hf]; exact hu) (by simpa using hst), hf]
            exact aeqFs_ok (fun t x y r u v h hx hy => aeq_ok d k t x y r u v h hx hy) (.agg _ _ a1 a2 a3) (.agg _ _ b1 b2 b3) _ _ h
      · cases h
    · cases h

theorem abin_ok {P : Program} {w : World} {A N γ} {op : BinOp} {a b d : D} {u v : Value} {t : TypeId} {x y : Operand} (h : abin (tyBool P t) op a b = some d) (ha : Rep w A N γ a u) (hb : Rep w A N γ b v) :
    ∃ z, (do eqGuard op t x y u v; binOp op t u v : Sem Value).run P w = .ok z w ∧ Rep w A N γ d z := by
  have ints : ∀ {k : IntKind} {p q : Int}, ibin op k p q = some d → ∃ z, (do eqGuard op t x y (.int k p) (.int k q); binOp op t (.int k p) (.int k q) : Sem Value).run P w = .ok z w ∧ Rep w A N γ d z := by
    intro k p q h
    have hg : (eqGuard op t x y (.int k p) (.int k q)).run P w = .ok () w := by rw [eqGuard_at_int]; rfl
    simp only [Sem.run_bind, hg, Result.andThen_ok]
    cases op <;> simp [ibin] at h
    case quo => obtain ⟨h0, rfl⟩ := h; exact ⟨_, by simp [binOp_quo, Op.intDiv, h0], .int _ _⟩
    case rem => obtain ⟨h0, rfl⟩ := h; exact ⟨_, by simp [binOp_rem, Op.intDiv, h0], .int _ _⟩
    case add => subst h; exact ⟨_, by simp [binOp_add, Op.intArith], .int _ _⟩
    case sub => subst h; exact ⟨_, by simp [binOp_sub, Op.intArith], .int _ _⟩
    case mul => subst h; exact ⟨_, by simp [binOp_mul, Op.intArith], .int _ _⟩
    case and => subst h; exact ⟨_, by rw [binOp_and, intBits_and]; rfl, .int _ _⟩
    case or => subst h; exact ⟨_, by rw [binOp_or, intBits_or]; rfl, .int _ _⟩
    case xor => subst h; exact ⟨_, by rw [binOp_xor, intBits_xor]; rfl, .int _ _⟩
    case andNot => subst h; exact ⟨_, by rw [binOp_andNot, intBits_andNot]; rfl, .int _ _⟩
    case eql => subst h; exact ⟨_, by rw [binOp_eql]; rfl, .bool _⟩
    case neq => subst h; exact ⟨_, by rw [binOp_neq]; rfl, .bool _⟩
    case lss => subst h; exact ⟨_, by rw [binOp_lss]; rfl, .bool _⟩
    case leq => subst h; exact ⟨_, by rw [binOp_leq]; rfl, .bool _⟩
    case gtr => subst h; exact ⟨_, by rw [binOp_gtr]; rfl, .bool _⟩
    case geq => subst h; exact ⟨_, by rw [binOp_geq]; rfl, .bool _⟩
  have shifts : ∀ {k k' : IntKind} {p q : Int}, ishift op k p q = some d → (op = .shl ∨ op = .shr) → ∃ z, (do eqGuard op t x y (.int k p) (.int k' q); binOp op t (.int k p) (.int k' q) : Sem Value).run P w = .ok z w ∧ Rep w A N γ d z := by
    intro k k' p q h hop
    have hg : (eqGuard op t x y (.int k p) (.int k' q)).run P w = .ok () w := by rw [eqGuard_at_int]; rfl
    simp only [Sem.run_bind, hg, Result.andThen_ok]
    unfold ishift at h
    split at h
    · cases h
    · rename_i hq
      rcases hop with rfl | rfl
      · simp at h; subst h; exact ⟨_, by simp [binOp_shl, Op.shift, hq], .int _ _⟩
      · simp at h; subst h; exact ⟨_, by simp [binOp_shr, Op.shift, hq], .int _ _⟩
  have bools : ∀ {p q : Bool}, (op = .eql ∧ d = .bool (p == q)) ∨ (op = .neq ∧ d = .bool (p != q)) → P.underlying t = some .bool → ∃ z, (do eqGuard op t x y (.bool p) (.bool q); binOp op t (.bool p) (.bool q) : Sem Value).run P w = .ok z w ∧ Rep w A N γ d z := by
    intro p q h ht
    have hg : (eqGuard op t x y (.bool p) (.bool q)).run P w = .ok () w := by rw [eqGuard_at_bool]; rfl
    simp only [Sem.run_bind, hg, Result.andThen_ok]
    have he : (Op.equal t (.bool p) (.bool q)).run P w = .ok (p == q) w := run_equalIn_bool' w 9999 t p q ht
    rcases h with ⟨rfl, rfl⟩ | ⟨rfl, rfl⟩
    · exact ⟨.bool (p == q), by simp [binOp, he], .bool _⟩
    · exact ⟨.bool (p != q), by simp [binOp, he, bne], .bool _⟩
  have ht : tyBool P t = true → P.underlying t = some .bool := by
    intro h; unfold tyBool at h; split at h <;> simp_all
  unfold abin at h
  split at h
  · cases ha; cases hb; exact shifts h (.inl rfl)
  · cases ha; cases hb; exact shifts h (.inr rfl)
  · split at h
    · rename_i hk
      subst hk
      cases ha; cases hb; exact ints h
    · cases h
  · split at h
    · rename_i hb'
      injection h with h; subst h
      cases ha; cases hb; exact bools (.inl ⟨rfl, rfl⟩) (ht hb')
    · cases h
  · split at h
    · rename_i hb'
      injection h with h; subst h
      cases ha; cases hb; exact bools (.inr ⟨rfl, rfl⟩) (ht hb')
    · cases h
  · cases h

end Wf

/-
  An operation, whole.
-/
namespace Wf
open Go Go.RowKit

section
variable (P : Program) (M : GM) (c : Ctx) (N : Nat) (w0 : World) (O0 : Nat → Prop) (L : Loc) (G : M.S) (w : World)
def OpOk (o : Oper) (ρ : Operand → Value) (out : Out M.S) : Prop :=
  (∃ u w', (execOp ρ o).run P w = .ok (.value u) w' ∧ Did M c N w0 O0 L G w out u w') ∨ (∃ w', (execOp ρ o).run P w = .ok .skip w' ∧ Did M c N w0 O0 L G w out undef w') ∨
  ∃ f args, (execOp ρ o).run P w = .ok (.enter f args) w ∧ Calls P f args w fun e w' => ∃ v, e = .returned v ∧ Did M c N w0 O0 L G w out v w'
end

section
variable {P : Program} {M : GM} {c : Ctx} {N : Nat} {w0 : World} {O0 : Nat → Prop} {L Lr : Loc} {G : M.S} {w : World}

theorem next_value {s : Sem Value} {u : Value} {w' : World} (h : s.run P w = .ok u w') : (do pure (Next.value (← s)) : Sem Next).run P w = .ok (.value u) w' := by
  simp only [Sem.run_bind, h, Result.andThen_ok, Sem.run_pure]
theorem next_skip {s : Sem Unit} {w' : World} (h : s.run P w = .ok () w') : (do s; pure Next.skip : Sem Next).run P w = .ok .skip w' := by
  simp only [Sem.run_bind, h, Result.andThen_ok, Sem.run_pure]

theorem out_some {v : Option V} {o : Out M.S} (h : out v = some o) : ∃ x, v = some x ∧ o = { v := x } := by
  unfold out at h
  cases v with
  | none => cases h
  | some x => injection h with h; exact ⟨x, rfl, h.symm⟩

theorem okRef_spec {v : V} (h : okRef Lr v = true) : ∀ g n off len, v = .ref g n off len → ∃ sz els lv, Lr.get g n = .arr sz els lv := by
  rintro g n off len rfl
  simp only [okRef, elsOf] at h
  cases hx : Lr.get g n <;> rw [hx] at h <;> first | exact ⟨_, _, _, rfl⟩ | cases h

theorem okRef_one {v : V} {g n off len : Nat} {u : Value} (hs : Sees Lr L) (h : okRef Lr (.ref g n off len) = true) (hv : Val c L w N (.ref g n off len) u) : u.oneCell' = true := by
  obtain ⟨sz, els, lv, hx⟩ := okRef_spec h _ _ _ _ rfl
  have hL := hs g n (by rw [hx]; simp)
  rw [hx] at hL
  exact sl_of_ref hL hv

theorem acall_ok {Γ : Env M} (hM : M.Ok) (hΓ : ∀ f sp, Γ f = some sp → Sound P M f sp) (hm : Mem M c N w0 O0 L G w) (hs : Sees Lr L) {t : Nat} (hLr : ∀ i, i ≤ 4 → Lr (t + 1000 * i) = L (t + 1000 * i))
    {Go : Option M.S} (hG : ∀ s, Go = some s → s = G) {f : V} {args : List V} {fu : Value} {us : Array Value} {o : Out M.S} (ha : acall Γ Lr Go t f args = some o) (hf : Val c L w N f fu)
    (hv : Vals c L w N args us.toList) :
    ∃ k as, (do let d ← Deferred.ofValue fu us; invoke d.target d.args : Sem Next).run P w = .ok (.enter k as) w ∧ Calls P k as w fun e w' => ∃ v, e = .returned v ∧ Did M c N w0 O0 L G w o v w' := by
  unfold acall at ha
  cases hc : acallee f with
  | none => rw [hc] at ha; cases ha
  | some p =>
  obtain ⟨k, fa, fb⟩ := p
  rw [hc] at ha
  dsimp only at ha
  -- the function's value
  have hfu : ∃ va vb : Array Value, fu = .func (.func k) va vb ∧ Vals c L w N fa va.toList ∧ Vals c L w N fb vb.toList := by
    cases f with
    | clo k' a b =>
      injection hc with hc; injection hc with h1 h2; injection h2 with h2 h3
      subst h1; subst h2; subst h3
      cases hf with
      | clo _ _ _ va vb k1 k2 k3 k4 => exact ⟨va, vb, rfl, ⟨by simpa using k1, fun i v u h1 h2 => k3 i v u h1 (by simpa using h2)⟩, ⟨by simpa using k2, fun i v u h1 h2 => k4 i v u h1 (by simpa using h2)⟩⟩
    | d x =>
      cases x with
      | fn k' a b =>
        injection hc with hc; injection hc with h1 h2; injection h2 with h2 h3
        subst h1; subst h2; subst h3
        have hr := hf.dat
        cases hr with
        | fn _ _ _ va vb k1 k2 k3 k4 =>
          refine ⟨va, vb, rfl, ⟨by simpa using k1, fun i v u h1 h2 => ?_⟩, ⟨by simpa using k2, fun i v u h1 h2 => ?_⟩⟩
          · rw [List.getElem?_map] at h1
            cases hd : a[i]? with
            | none => rw [hd] at h1; cases h1
            | some d => rw [hd] at h1; injection h1 with h1; subst h1; exact .d _ _ (k3 i d u hd (by simpa using h2))
          · rw [List.getElem?_map] at h1
            cases hd : b[i]? with
            | none => rw [hd] at h1; cases h1
            | some d => rw [hd] at h1; injection h1 with h1; subst h1; exact .d _ _ (k4 i d u hd (by simpa using h2))
      | _ => cases hc
    | _ => cases hc
  obtain ⟨va, vb, rfl, hva, hvb⟩ := hfu
  cases hl : (fa ++ args ++ fb).mapM (lend Lr) with
  | none => rw [hl] at ha; cases ha
  | some ds =>
  cases hg : Γ k with
  | none => rw [hl, hg] at ha; cases ha
  | some sp =>
  rw [hl, hg] at ha
  have hsound := hΓ k sp hg
  -- the arguments
  have hvals : Vals c L w N (fa ++ args ++ fb) (va.toList ++ us.toList ++ vb.toList) := by
    have app : ∀ {a b : List V} {x y : List Value}, Vals c L w N a x → Vals c L w N b y → Vals c L w N (a ++ b) (x ++ y) := by
      intro a b x y h k
      refine ⟨by simp [h.1, k.1], fun i v u h1 h2 => ?_⟩
      by_cases hi : i < a.length
      · rw [List.getElem?_append_left hi] at h1
        rw [List.getElem?_append_left (by rw [h.1]; exact hi)] at h2
        exact h.2 i v u h1 h2
      · rw [List.getElem?_append_right (by omega)] at h1
        rw [List.getElem?_append_right (by rw [h.1]; omega), h.1] at h2
        exact k.2 _ v u h1 h2
    exact app (app hva hv) hvb
  have hreps : Reps w c.O 0 c.γ ds (va.toList ++ us.toList ++ vb.toList) := by
    obtain ⟨p1, p2⟩ := mapM_get hl
    refine ⟨by rw [hvals.1, p1], fun i d u hd hu => ?_⟩
    have hi : i < (fa ++ args ++ fb).length := by
      rcases Nat.lt_or_ge i (va.toList ++ us.toList ++ vb.toList).length with h | h
      · rw [hvals.1] at h; exact h
      · rw [List.getElem?_eq_none h] at hu; cases hu
    have hvi := List.getElem?_eq_getElem hi
    exact lend_ok hm hs (p2 i _ d hvi hd) (hvals.2 i _ u hvi hu)
  have hrun : ∀ fn, P.funcs[k]? = some fn → (fn.name == "runtime.NumGoroutine") = false → fn.body.isNone = false →
      (do let d ← Deferred.ofValue (.func (.func k) va vb) us; invoke d.target d.args : Sem Next).run P w = .ok (.enter k (va ++ us ++ vb)) w := by
    intro fn h1 h2 h3
    have hn : ¬ fn.name = "runtime.NumGoroutine" := by simpa using h2
    have hb : ¬ fn.body = none := by intro h; rw [h] at h3; cases h3
    simp [Deferred.ofValue, invoke, callFunc, h1, hn, hb]
  have harr : (va.toList ++ us.toList ++ vb.toList).toArray = va ++ us ++ vb := by
    apply Array.ext'; simp
  cases sp with
  | pure szs F =>
    dsimp only at ha
    obtain ⟨⟨fn, f1, f2, f3⟩, hsd⟩ := hsound
    cases hF : F ds with
    | none => rw [hF] at ha; cases ha
    | some r =>
      rw [hF] at ha
      simp only [Option.bind_some] at ha
      cases had : adopt Lr t szs r with
      | none => rw [had] at ha; cases ha
      | some p =>
        obtain ⟨vv, wr⟩ := p
        rw [had] at ha
        injection ha with ha; subst ha
        refine ⟨k, _, hrun fn f1 f2 f3, ?_⟩
        have hcall := hsd ds r hF w c.γ _ (hreps.mono (fun _ _ _ => rfl) (fun _ _ h => h.elim) (Nat.le_refl _) (Nat.le_refl _) (fun _ _ h => h))
        rw [harr] at hcall
        refine hcall.mono fun e w' ⟨v, he, hk, hr⟩ => ⟨v, he, ?_⟩
        have hk' : Kept w c.O w' := ⟨hk.os, hk.tape, hk.output, hk.size, fun b hb _ => hk.block b hb (fun h => h), hk.cells⟩
        have hr' : ResOk w' (fun b => b < w.heap.size ∨ c.O b) w.heap.size c.γ szs r v := by
          have e : (fun b => b < w.heap.size ∨ c.O b) = fun b => b < w.heap.size := by
            funext b; apply propext
            exact ⟨fun h => h.elim id fun h => (hm.osub b h).1, .inl⟩
          rw [e]; exact hr
        exact adopt_ok hm (fun _ _ h => h) (hM.stable hm.glob (fun b hb => hk.block b (hm.osub b hb).1 (fun h => h)) hk.size)
          (fun b hb => ⟨Nat.lt_of_lt_of_le (hm.osub b hb).1 hk.size, .inl hb⟩) hk' had hLr hr'
  | st szs F =>
    dsimp only at ha
    obtain ⟨⟨fn, f1, f2, f3⟩, hsd⟩ := hsound
    cases Go with
    | none => cases ha
    | some s =>
      have := hG s rfl; subst this
      simp only [Option.bind_some] at ha
      cases hF : F ds s with
      | none => rw [hF] at ha; cases ha
      | some r =>
        obtain ⟨r, s'⟩ := r
        rw [hF] at ha
        simp only [Option.bind_some] at ha
        cases had : adopt Lr t szs r with
        | none => rw [had] at ha; cases ha
        | some p =>
          obtain ⟨vv, wr⟩ := p
          rw [had] at ha
          injection ha with ha; subst ha
          refine ⟨k, _, hrun fn f1 f2 f3, ?_⟩
          have hcall := hsd ds s r s' hF w c.γ c.O _ hm.glob (fun b hb => (hm.osub b hb).1) hreps
          rw [harr] at hcall
          refine hcall.mono fun e w' ⟨v, γ', O', he, hγ, hrel, hO, hk, hr⟩ => ⟨v, he, ?_⟩
          exact adopt_ok hm hγ hrel hO hk had hLr hr

end
end Wf

/-
  All operations of the machine, one by one.
-/
namespace Wf
open Go Go.RowKit

section
variable {P : Program} {M : GM} {c : Ctx} {N : Nat} {w0 : World} {O0 : Nat → Prop} {L Lr : Loc} {G : M.S} {w : World}

theorem OpOk.value {o : Oper} {ρ : Operand → Value} {out : Out M.S} {u : Value} {w' : World} (h : (execOp ρ o).run P w = .ok (.value u) w') (hd : Did M c N w0 O0 L G w out u w') :
    OpOk P M c N w0 O0 L G w o ρ out := .inl ⟨u, w', h, hd⟩
theorem OpOk.skip {o : Oper} {ρ : Operand → Value} {out : Out M.S} {w' : World} (h : (execOp ρ o).run P w = .ok .skip w') (hd : Did M c N w0 O0 L G w out undef w') :
    OpOk P M c N w0 O0 L G w o ρ out := .inr (.inl ⟨w', h, hd⟩)

theorem run_newVar {t : TypeId} {v : Value} : (newVar t v).run P w = .ok ⟨w.heap.size, 0, none⟩ (w.alloc (.cells v.cells t)) := by
  simp only [newVar, newRow, Sem.run_bind, Sem.run_pure, Result.andThen_ok, run_newObj, World.alloc_eq]

theorem CellsRep.of_agg {A : Nat → Prop} {γ} {cs : List D} {u : Value} (h : Rep w A N γ (.agg cs) u) : CellsRep w A N γ cs u.cells := by
  cases h with
  | agg _ vs h1 h2 h3 =>
    exact ⟨h1, fun i d v hd hv => ⟨h2 i d v hd hv, h3 i v hv⟩⟩

theorem CellsRep.of_cell {A : Nat → Prop} {γ} {x : D} {u : Value} (h : Rep w A N γ x u) (hx : x.cell = true) : CellsRep w A N γ [x] u.cells := by
  have h1 := h.cell hx
  rw [cells_of_one h1]
  refine ⟨rfl, fun i d v hd hv => ?_⟩
  cases i with
  | zero => simp at hd hv; subst hd; subst hv; exact ⟨h, h1⟩
  | succ i => simp at hd

theorem Vals.map {ρa : Operand → V} {ρ : Operand → Value} (hρ : ∀ x, Val c L w N (ρa x) (ρ x)) (l : List Operand) : Vals c L w N (l.map ρa) (l.map ρ) := by
  refine ⟨by simp, fun i v u h1 h2 => ?_⟩
  rw [List.getElem?_map] at h1 h2
  cases hx : l[i]? with
  | none => rw [hx] at h1; cases h1
  | some x => rw [hx] at h1 h2; injection h1 with h1; injection h2 with h2; subst h1; subst h2; exact hρ x

theorem OptVal.map {ρa : Operand → V} {ρ : Operand → Value} (hρ : ∀ x, Val c L w N (ρa x) (ρ x)) (x : Option Operand) : OptVal c L w N (x.map ρa) (x.map ρ) := by
  cases x with
  | none => trivial
  | some x => exact hρ x

theorem aop_ok {Γ : Env M} (hM : M.Ok) (hΓ : ∀ f sp, Γ f = some sp → Sound P M f sp) (hm : Mem M c N w0 O0 L G w) (hs : Sees Lr L) {o : Oper} {ρa : Operand → V} {ρ : Operand → Value}
    (hnew : makesL o.op ≠ 0 → Lr (o.dst.getD 0) = L (o.dst.getD 0)) (hcall : makesL o.op = 5 → ∀ i, i ≤ 4 → Lr (o.dst.getD 0 + 1000 * i) = L (o.dst.getD 0 + 1000 * i))
    {Go : Option M.S} (hG : ∀ s, Go = some s → s = G) {out : Out M.S} (hρ : ∀ x, Val c L w N (ρa x) (ρ x)) (h : aop P Γ o ρa Lr Go = some out) : OpOk P M c N w0 O0 L G w o ρ out := by
  unfold aop at h
  dsimp only at h
  have hLn : makesL o.op ≠ 0 → Lr.new (o.dst.getD 0) = L.new (o.dst.getD 0) := fun hh => by unfold Loc.new; rw [hnew hh]
  cases hop : o.op <;> rw [hop] at h hnew hcall hLn
  case move x =>
    injection h with h; subst h
    exact .value (by simp [execOp, hop]) (Did.same hm (hρ x))
  case assign x =>
    injection h with h; subst h
    exact .value (by simp [execOp, hop]) (Did.same hm (hρ x))
  case pick x y z =>
    dsimp only at h
    split at h
    · rename_i b hb
      injection h with h; subst h
      have hv := hρ x; rw [hb] at hv
      have := hv.bool
      refine .value (u := if b then ρ y else ρ z) (by simp [execOp, hop, this, asBool]) (Did.same hm ?_)
      cases b
      · exact hρ z
      · exact hρ y
    · cases h
  case alloc e =>
    dsimp only at h
    split at h
    · rename_i cs hz
      obtain ⟨i, zv, z1, z2, z3⟩ := ty_zero hz
      have hr := (valD_cells z3).2.2 w (own c L) N c.γ
      injection h with h; subst h
      rw [hLn (by simp [makesL])]
      refine .value ?_ (new_box hM hm (a := true) (T := e) (CellsRep.of_agg hr))
      simp only [execOp, hop]
      exact next_value (by simp [Instr.alloc, zeroValue, typeInfo, z1, z2, run_newVar])
    · rename_i x hz
      split at h
      · rename_i hx
        obtain ⟨i, zv, z1, z2, z3⟩ := ty_zero hz
        have hr := (valD_cells z3).2.2 w (own c L) N c.γ
        injection h with h; subst h
        rw [hLn (by simp [makesL])]
        refine .value ?_ (new_box hM hm (a := false) (T := e) (CellsRep.of_cell hr hx))
        simp only [execOp, hop]
        exact next_value (by simp [Instr.alloc, zeroValue, typeInfo, z1, z2, run_newVar])
      · cases h
    · cases h
  case box e x =>
    have hv := hρ x
    dsimp only at h
    split at h
    · rename_i cs hx
      rw [hx] at hv
      injection h with h; subst h
      rw [hLn (by simp [makesL])]
      refine .value ?_ (new_box hM hm (a := true) (T := e) (CellsRep.of_agg hv.dat))
      simp only [execOp, hop]
      exact next_value (by simp [Instr.box, run_newVar])
    · rename_i x' _ hx
      rw [hx] at hv
      split at h
      · rename_i hc
        injection h with h; subst h
        rw [hLn (by simp [makesL])]
        refine .value ?_ (new_box hM hm (a := false) (T := e) (CellsRep.of_cell hv.dat hc))
        simp only [execOp, hop]
        exact next_value (by simp [Instr.box, run_newVar])
      · cases h
    · rename_i g n off len hx
      rw [hx] at hv
      split at h
      · rename_i hk
        injection h with h; subst h
        rw [hLn (by simp [makesL])]
        have h1 := okRef_one (v := .d .undef) hs hk hv
        refine .value ?_ (new_vbox hM hm (T := e) hv h1)
        simp only [execOp, hop]
        exact next_value (by simp [Instr.box, run_newVar, cells_of_one h1])
      · cases h
    · cases h
  case build t ps =>
    dsimp only at h
    have hv : Vals c L w N ((ps.toList.map fun (i, x) => (i, ρa x)).map (·.2)) (ps.toList.map fun p => ρ p.2) := by
      have := Vals.map hρ (ps.toList.map (·.2))
      simpa [List.map_map, Function.comp_def] using this
    obtain ⟨u, w', k1, k2⟩ := abuild_ok hm hs h hv
    refine .value ?_ k2
    simp only [execOp, hop]
    refine next_value ?_
    rw [← k1]
    congr 2
    apply Array.ext'
    simp [List.map_map, Function.comp_def, List.zip_map']
  case buildSlice t n ps =>
    dsimp only at h
    have hv : Vals c L w N ((ps.toList.map fun (i, x) => (i, ρa x)).map (·.2)) (ps.toList.map fun p => ρ p.2) := by
      have := Vals.map hρ (ps.toList.map (·.2))
      simpa [List.map_map, Function.comp_def] using this
    obtain ⟨u, w', k1, k2⟩ := abuildSlice_ok hM hm hs h hv
    refine .value ?_ k2
    simp only [execOp, hop]
    refine next_value ?_
    rw [← k1]
    congr 2
    apply Array.ext'
    simp [List.map_map, Function.comp_def, List.zip_map']
  case load t a =>
    obtain ⟨v, hv, rfl⟩ := out_some h
    obtain ⟨u, k1, k2⟩ := aload_ok hM hm hs hG hv (hρ a)
    refine .value ?_ (Did.same hm k2)
    simp only [execOp, hop]
    exact next_value k1
  case store t a x =>
    dsimp only at h
    split at h
    · rename_i hk
      obtain ⟨w', k1, k2⟩ := astore_ok hM hm hs hG h (hρ a) (hρ x) (fun g n off len e => okRef_spec hk g n off len e)
      refine .skip ?_ k2
      simp only [execOp, hop]
      exact next_skip k1
    · cases h
  case nilCheck x =>
    have hv := hρ x
    dsimp only at h
    split at h
    · rename_i g n o' hx
      rw [hx] at hv
      split at h
      · rename_i hk
        injection h with h; subst h
        have hd := ((okPtr_ptr hs hk).1 g n o' rfl).2
        have hv' := hv
        cases hv with
        | ptr _ _ _ u h1 h2 =>
          obtain ⟨b, hb, hu⟩ := h2 hd
          exact .value (by simp [execOp, hop, hu]) (Did.same hm hv')
      · cases h
    · rename_i g n i o' hx
      rw [hx] at hv
      split at h
      · rename_i hk
        injection h with h; subst h
        obtain ⟨sz, els, l, e1, e2⟩ := (okPtr_ptr hs hk).2.1 g n i o' rfl
        have hv' := hv
        cases hv with
        | ept _ _ _ _ u h1 h2 =>
          obtain ⟨b, hb, hu⟩ := h2 sz els l e1 e2
          exact .value (by simp [execOp, hop, hu]) (Did.same hm hv')
      · cases h
    · rename_i n o' hx
      rw [hx] at hv
      injection h with h; subst h
      have hr := hv.dat
      refine .value (u := ρ x) ?_ (Did.same hm hv)
      simp only [execOp, hop]
      generalize ρ x = u at *
      cases hr; rfl
    · rename_i d hx
      rw [hx] at hv
      injection h with h; subst h
      have hr := hv.dat
      refine .value (u := ρ x) ?_ (Did.same hm hv)
      simp only [execOp, hop]
      generalize ρ x = u at *
      cases hr; rfl
    · rename_i f a b hx
      rw [hx] at hv
      injection h with h; subst h
      refine .value (u := ρ x) ?_ (Did.same hm hv)
      simp only [execOp, hop]
      generalize ρ x = u at *
      cases hv; rfl
    · rename_i f a b hx
      rw [hx] at hv
      injection h with h; subst h
      have hr := hv.dat
      refine .value (u := ρ x) ?_ (Did.same hm hv)
      simp only [execOp, hop]
      generalize ρ x = u at *
      cases hr; rfl
    · cases h
  case binOp op ty x y _ =>
    have hx := hρ x
    have hy := hρ y
    dsimp only at h
    split at h
    · rename_i a b ha hb
      rw [ha] at hx; rw [hb] at hy
      have rx := hx.dat
      have ry := hy.dat
      obtain ⟨us, hus, _⟩ := hx.agg
      obtain ⟨vs, hvs, _⟩ := hy.agg
      split at h
      · cases h
      · rename_i hg
        have hg' : P.eqGuardType P.depth ty = false := by simpa using hg
        split at h
        · obtain ⟨v, hv, rfl⟩ := out_some h
          cases hq : aeq P 5 ty (.agg a) (.agg b) with
          | none => rw [hq] at hv; cases hv
          | some r =>
            rw [hq] at hv
            injection hv with hv; subst hv
            refine .value (u := .bool r) ?_ (Did.same hm (.d _ _ (.bool r)))
            have := aeq_ok 5 (Op.maxDepth - 5) ty _ _ r _ _ hq rx ry
            simp only [execOp, hop]
            refine next_value ?_
            rw [hus, hvs] at this ⊢
            have e : 5 + (Op.maxDepth - 5) = Op.maxDepth := rfl
            rw [e] at this
            simp [eqGuard, hg', binOp, Op.equal, this]
        · obtain ⟨v, hv, rfl⟩ := out_some h
          cases hq : aeq P 5 ty (.agg a) (.agg b) with
          | none => rw [hq] at hv; cases hv
          | some r =>
            rw [hq] at hv
            injection hv with hv; subst hv
            refine .value (u := .bool !r) ?_ (Did.same hm (.d _ _ (.bool !r)))
            have := aeq_ok 5 (Op.maxDepth - 5) ty _ _ r _ _ hq rx ry
            simp only [execOp, hop]
            refine next_value ?_
            rw [hus, hvs] at this ⊢
            have e : 5 + (Op.maxDepth - 5) = Op.maxDepth := rfl
            rw [e] at this
            simp [eqGuard, hg', binOp, Op.equal, this]
        · cases h
    · rename_i a b _ ha hb
      rw [ha] at hx; rw [hb] at hy
      obtain ⟨v, hv, rfl⟩ := out_some h
      cases hq : abin (tyBool P ty) op a b with
      | none => rw [hq] at hv; cases hv
      | some d =>
        rw [hq] at hv
        injection hv with hv; subst hv
        obtain ⟨z, k1, k2⟩ := abin_ok (x := x) (y := y) hq hx.dat hy.dat
        refine .value ?_ (Did.same hm (.d _ _ k2))
        simp only [execOp, hop]
        exact next_value k1
    · cases h
  case unOp op ty x =>
    have hx := hρ x
    dsimp only at h
    split at h
    · rename_i a ha
      rw [ha] at hx
      obtain ⟨v, hv, rfl⟩ := out_some h
      cases hq : aun op a with
      | none => rw [hq] at hv; cases hv
      | some d =>
        rw [hq] at hv
        injection hv with hv; subst hv
        unfold aun at hq
        split at hq
        · injection hq with hq; subst hq
          refine .value ?_ (Did.same hm (.d _ _ (.int _ _)))
          simp only [execOp, hop, hx.int]
          exact next_value (by simp [Op.unary, Op.intArith])
        · injection hq with hq; subst hq
          refine .value ?_ (Did.same hm (.d _ _ (.bool _)))
          simp only [execOp, hop, hx.bool]
          exact next_value (by simp [Op.unary])
        · injection hq with hq; subst hq
          refine .value ?_ (Did.same hm (.d _ _ (.int _ _)))
          simp only [execOp, hop, hx.int]
          exact next_value (by simp [Op.unary, Op.intBits, bits])
        · cases hq
    · cases h
  case convert src dst x =>
    have hx := hρ x
    dsimp only at h
    split at h
    · rename_i k0 k k1 n h1 h2 hn
      rw [hn] at hx
      injection h with h; subst h
      refine .value ?_ (Did.same hm (.d _ _ (.int _ _)))
      simp only [execOp, hop, hx.int]
      have u1 : P.underlying src = some (.int k0) := by
        unfold tyInt at h1; split at h1
        · injection h1 with h1; subst h1; assumption
        · cases h1
      have u2 : P.underlying dst = some (.int k) := by
        unfold tyInt at h2; split at h2
        · injection h2 with h2; subst h2; assumption
        · cases h2
      exact next_value (by simp [convert, ty_und u1, ty_und u2, Conv.intToInt])
    · cases h
  case makeFunc fn a b =>
    cases fn with
    | func f =>
      injection h with h; subst h
      refine .value ?_ (Did.same hm (.clo f _ _ (a.map ρ) (b.map ρ) (by simp) (by simp) (fun i v u h1 h2 => ?_) (fun i v u h1 h2 => ?_)))
      · simp [execOp, hop, Instr.makeFunc]
      · exact (Vals.map hρ a.toList).2 i v u h1 (by rw [← h2]; simp)
      · exact (Vals.map hρ b.toList).2 i v u h1 (by rw [← h2]; simp)
    | _ => cases h
  case makeMap ty r =>
    cases r with
    | some _ => cases h
    | none =>
      dsimp only at h
      split at h
      · injection h with h; subst h
        rw [hLn (by simp [makesL])]
        refine .value ?_ (new_map hM hm)
        simp only [execOp, hop]
        exact next_value (by simp only [Instr.makeMap, Option.map_none, Sem.run_bind, Sem.run_pure, Result.andThen_ok, run_newObj, World.alloc_eq])
      · cases h
  case makeSlice ty n k =>
    dsimp only at h
    obtain ⟨u, w', k1, k2⟩ := amakeSlice_ok hM hm (hnew (by simp [makesL])) h (hρ n) (hρ k)
    refine .value ?_ k2
    simp only [execOp, hop]
    exact next_value k1
  case slice ty x lo hi mx =>
    dsimp only at h
    obtain ⟨v, hv, rfl⟩ := out_some h
    obtain ⟨u, k1, k2⟩ := aslice_ok hm hs hv (hρ x) (OptVal.map hρ lo) (OptVal.map hρ hi) (OptVal.map hρ mx)
    refine .value ?_ (Did.same hm k2)
    simp only [execOp, hop]
    exact next_value k1
  case fieldAddr s x f =>
    dsimp only at h
    split at h
    · rename_i hk
      obtain ⟨v, hv, rfl⟩ := out_some h
      obtain ⟨q1, q2, q3⟩ := okPtr_ptr hs hk
      obtain ⟨u, k1, k2⟩ := afieldAddr_ok hv (hρ x) (fun g n off e => (q1 g n off e).2) q2
      refine .value ?_ (Did.same hm k2)
      simp only [execOp, hop]
      exact next_value k1
    · cases h
  case field s x f =>
    have hx := hρ x
    dsimp only at h
    split at h
    · rename_i cs off size ag hc hf hfa
      rw [hc] at hx
      obtain ⟨v, hv, rfl⟩ := out_some h
      cases hq : partD ag size off cs with
      | none => rw [hq] at hv; cases hv
      | some d =>
        rw [hq] at hv
        injection hv with hv; subst hv
        obtain ⟨us, hus, z1, z2, z3⟩ := hx.agg
        obtain ⟨fs, fl, e1, e2, e3, e4⟩ := ty_fld hf
        obtain ⟨fs', fl', e1', e2', e4'⟩ := ty_fldAgg hfa
        rw [e1] at e1'; injection e1' with e1'; injection e1' with e1'; subst e1'
        rw [e2] at e2'; injection e2' with e2'; subst e2'
        obtain ⟨u, p1, p2, p3⟩ := part_rep hq z1 (fun i d u h1 h2 => ⟨z2 i d u h1 h2, z3 i u h2⟩)
        refine .value ?_ (Did.same hm (.d _ _ p1))
        simp only [execOp, hop, hus]
        have hp := run_part (w := w) (off := off) (cs := us) (v := u) e4' e4 (by
          split
          · rename_i ht; rw [if_pos ht] at p2; exact p2.1
          · rename_i ht; rw [if_neg ht] at p2; exact p2.1)
        exact next_value (by simp [Instr.field, ty_und e1, e2, asAgg, e3, hp])
    · cases h
  case indexAddr ty x i =>
    dsimp only at h
    split at h
    · rename_i hk
      obtain ⟨v, hv, rfl⟩ := out_some h
      obtain ⟨q1, q2, q3⟩ := okPtr_ptr hs hk
      obtain ⟨u, k1, k2⟩ := aindexAddr_ok hm hs hv (hρ x) (hρ i) (fun g n off e => (q1 g n off e).1) q3
      refine .value ?_ (Did.same hm k2)
      simp only [execOp, hop]
      exact next_value k1
    · cases h
  case index ty x i =>
    have hx := hρ x
    have hi := hρ i
    dsimp only at h
    split at h
    · rename_i cs k n hc hn
      rw [hc] at hx
      rw [hn] at hi
      split at h
      · rename_i kk sz ag ht
        split at h
        · rename_i hb
          obtain ⟨v, hv, rfl⟩ := out_some h
          cases hq : partD ag sz (n.toNat * sz) cs with
          | none => rw [hq] at hv; cases hv
          | some d =>
            rw [hq] at hv
            injection hv with hv; subst hv
            obtain ⟨us, hus, z1, z2, z3⟩ := hx.agg
            obtain ⟨e, e1, e2, e3⟩ := ty_arr ht
            obtain ⟨u, p1, p2, p3⟩ := part_rep hq z1 (fun i d u h1 h2 => ⟨z2 i d u h1 h2, z3 i u h2⟩)
            refine .value ?_ (Did.same hm (.d _ _ p1))
            simp only [execOp, hop, hus, hi.int]
            have hp := run_part (w := w) (off := n.toNat * sz) (cs := us) (v := u) e3 e2 (by
              split
              · rename_i ht; rw [if_pos ht] at p2; exact p2.1
              · rename_i ht; rw [if_neg ht] at p2; exact p2.1)
            exact next_value (by simp [Instr.index, asIntOf, ty_und e1, hb.1, hb.2, ty_size e2, hp])
        · cases h
      · cases h
    · cases h
  case lookup ty m k ok =>
    dsimp only at h
    obtain ⟨v, hv, rfl⟩ := out_some h
    obtain ⟨u, k1, k2⟩ := alookup_ok hm hs hv (hρ m) (hρ k)
    refine .value ?_ (Did.same hm k2)
    simp only [execOp, hop]
    exact next_value k1
  case mapUpdate ty m k v =>
    dsimp only at h
    obtain ⟨w', k1, k2⟩ := amapUpdate_ok hM hm hs h (hρ m) (hρ k) (hρ v)
    refine .skip ?_ k2
    simp only [execOp, hop]
    exact next_skip k1
  case insert ty m k v =>
    dsimp only at h
    obtain ⟨w', k1, k2⟩ := amapUpdate_ok hM hm hs h (hρ m) (hρ k) (hρ v)
    refine .skip ?_ k2
    simp only [execOp, hop]
    exact next_skip k1
  case extract x i =>
    have hx := hρ x
    dsimp only at h
    split at h
    · rename_i l hl
      rw [hl] at hx
      obtain ⟨v, hv, rfl⟩ := out_some h
      cases hq : l[i]? with
      | none => rw [hq] at hv; cases hv
      | some d =>
        rw [hq] at hv
        injection hv with hv; subst hv
        have hr := hx.dat
        generalize hu : ρ x = u at *
        cases hr with
        | tup _ vs a1 a2 =>
          have hi : i < vs.size := by rw [a1]; exact (List.getElem?_eq_some_iff.1 hq).1
          have hvi := Array.getElem?_eq_getElem hi
          refine .value ?_ (Did.same hm (.d _ _ (a2 i d _ hq hvi)))
          simp [execOp, hop, hu, Instr.extract, hvi]
    · rename_i l hl
      rw [hl] at hx
      obtain ⟨v, hv, rfl⟩ := out_some h
      generalize hu : ρ x = u at *
      cases hx with
      | tup _ vs a1 a2 =>
        have hi : i < vs.size := by rw [a1]; exact (List.getElem?_eq_some_iff.1 hv).1
        have hvi := Array.getElem?_eq_getElem hi
        refine .value ?_ (Did.same hm (a2 i v _ hv hvi))
        simp [execOp, hop, hu, Instr.extract, hvi]
    · cases h
  case call cl =>
    obtain ⟨callee, args, argTypes⟩ := cl
    cases callee with
    | invoke _ _ => cases h
    | value f =>
      dsimp only at h
      have hv := Vals.map hρ args.toList
      obtain ⟨k, as, k1, k2⟩ := acall_ok hM hΓ hm hs (hcall (by simp [makesL])) hG h (hρ f) (us := args.map ρ) (by simpa using hv)
      refine .inr (.inr ⟨k, as, ?_, k2⟩)
      simp only [execOp, hop, resolve]
      exact k1
    | builtin b =>
      cases b <;> first | (cases h; done) | skip
      case len =>
        dsimp only at h
        split at h
        · rename_i x ty ha hty
          have hargs : args = #[x] := by apply Array.ext'; simpa using ha
          have hat : argTypes = #[ty] := by apply Array.ext'; simpa using hty
          subst hargs; subst hat
          cases hl : alen P Lr ty (ρa x) with
          | none => rw [hl] at h; cases h
          | some n =>
          rw [hl] at h
          injection h with h; subst h
          refine .value ?_ (Did.same hm (.d _ _ (.int .i64 n)))
          have hx := hρ x
          simp only [execOp, hop, resolve, Sem.run_bind, Sem.run_pure, Result.andThen_ok, invoke, builtin]
          suffices hh : (Builtin.len_ #[ty] o.type (#[x].map ρ)).run P w = .ok (.int .i64 n) w by rw [hh]; rfl
          unfold alen at hl
          split at hl
          · rename_i s hs'
            split at hl
            · rename_i ht
              injection hl with hl; subst hl
              rw [hs'] at hx
              have hr := hx.dat
              unfold tyStr at ht
              split at ht
              · rename_i hu
                generalize hv : ρ x = u at *
                cases hr
                simp [Builtin.len_, ty_und hu, hv, goInt]
              · cases ht
            · cases hl
          · rename_i g l hy
            split at hl
            · rename_i ht
              split at hl
              · rename_i mk es hL0
                injection hl with hl; subst hl
                cases hty : tyMap P ty with
                | none => rw [hty] at ht; cases ht
                | some q =>
                obtain ⟨kk, et⟩ := q
                obtain ⟨kt, t1, t2⟩ := ty_map hty
                have hL := hs g l (by rw [hL0]; simp)
                rw [hL0] at hL
                obtain ⟨b, me, ck, h1, h2, h3, h4⟩ := hm.get hL (by simp)
                rw [hy] at hx
                generalize hv : ρ x = u at *
                cases hx with
                | map _ _ _ k1 k2 =>
                obtain ⟨b', e1, rfl⟩ := k2 (by rw [hL]; simp)
                rw [h1] at e1; cases e1
                have hget : (getObj b).run P w = .ok (.map me ck) w := by simp [getObj, Sem.run, h2]
                simp [Builtin.len_, ty_und t1, hv, hget, goInt, h3]
              · cases hl
            · cases hl
          · split at hl
            · rename_i ht
              cases he : tyElem P ty with
              | none => rw [he] at ht; cases ht
              | some sz =>
                obtain ⟨e, h1, _⟩ := ty_elem he
                cases hq : elsOf Lr (ρa x) with
                | none => rw [hq] at hl; cases hl
                | some l =>
                  rw [hq] at hl
                  injection hl with hl; subst hl
                  obtain ⟨a, cap, hu, _⟩ := els_ok hm hs hq hx
                  simp [Builtin.len_, ty_und h1, hu, goInt]
            · cases hl
        · cases h
      case min =>
        dsimp only at h
        split at h
        · rename_i a b ha
          injection h with h; subst h
          obtain ⟨l, hl⟩ : ∃ l, args.toList = l := ⟨_, rfl⟩
          rw [hl] at ha
          cases l with
          | nil => cases ha
          | cons x l => cases l with
            | nil => simp at ha
            | cons y l => cases l with
              | cons _ _ => simp at ha
              | nil =>
                have hargs : args = #[x, y] := by apply Array.ext'; simpa using hl
                subst hargs
                simp at ha
                have hx := hρ x; rw [ha.1] at hx
                have hy := hρ y; rw [ha.2] at hy
                refine .value ?_ (Did.same hm (.d _ _ (.int .i64 (min a b))))
                simp only [execOp, hop, resolve, Sem.run_bind, Sem.run_pure, Result.andThen_ok, invoke, builtin]
                suffices hh : (Builtin.min_ argTypes o.type (#[x, y].map ρ)).run P w = .ok (.int .i64 (min a b)) w by rw [hh]; rfl
                simp [Builtin.min_, hx.int, hy.int, Builtin.min2]
                split <;> omega
        · cases h
      case max =>
        dsimp only at h
        split at h
        · rename_i a b ha
          injection h with h; subst h
          obtain ⟨l, hl⟩ : ∃ l, args.toList = l := ⟨_, rfl⟩
          rw [hl] at ha
          cases l with
          | nil => cases ha
          | cons x l => cases l with
            | nil => simp at ha
            | cons y l => cases l with
              | cons _ _ => simp at ha
              | nil =>
                have hargs : args = #[x, y] := by apply Array.ext'; simpa using hl
                subst hargs
                simp at ha
                have hx := hρ x; rw [ha.1] at hx
                have hy := hρ y; rw [ha.2] at hy
                refine .value ?_ (Did.same hm (.d _ _ (.int .i64 (max a b))))
                simp only [execOp, hop, resolve, Sem.run_bind, Sem.run_pure, Result.andThen_ok, invoke, builtin]
                suffices hh : (Builtin.max_ argTypes o.type (#[x, y].map ρ)).run P w = .ok (.int .i64 (max a b)) w by rw [hh]; rfl
                simp [Builtin.max_, hx.int, hy.int, Builtin.max2]
                split <;> omega
        · cases h
      case append =>
        dsimp only at h
        split at h
        · rename_i s x ty ty2 ha hty
          have hargs : args = #[s, x] := by apply Array.ext'; simpa using ha
          have hat : argTypes = #[ty, ty2] := by apply Array.ext'; simpa using hty
          subst hargs; subst hat
          split at h
          · rename_i h2
            obtain ⟨u, w', k1, k2⟩ := aappend_ok (rty := o.type) hM hm hs (hnew (by simp [makesL])) h h2 (hρ s) (hρ x)
            refine .value ?_ k2
            simp only [execOp, hop, resolve, Sem.run_bind, Sem.run_pure, Result.andThen_ok, invoke, builtin]
            have k1' : (Builtin.append_ #[ty, ty2] o.type (#[s, x].map ρ)).run P w = .ok u w' := by simpa using k1
            rw [k1']; rfl
          · cases h
        · cases h
      case copy =>
        dsimp only at h
        split at h
        · rename_i s x ty tys ha hty
          have hargs : args = #[s, x] := by apply Array.ext'; simpa using ha
          have hat : argTypes = (ty :: tys).toArray := by apply Array.ext'; simpa using hty
          subst hargs; subst hat
          obtain ⟨u, w', k1, k2⟩ := acopy_ok (rty := o.type) (tys := tys) hM hm hs h (hρ s) (hρ x)
          refine .value ?_ k2
          simp only [execOp, hop, resolve, Sem.run_bind, Sem.run_pure, Result.andThen_ok, invoke, builtin]
          have k1' : (Builtin.copy_ (ty :: tys).toArray o.type (#[s, x].map ρ)).run P w = .ok u w' := by simpa using k1
          rw [k1']; rfl
        · cases h
  all_goals cases h
end
end Wf

/-
  A step of the machine over plain data is a step of the program's.
-/
namespace Wf
open Go Go.RowKit

structure RelC (M : GM) (N : Nat) (w0 : World) (O0 : Nat → Prop) (γ0 : Nat → Option Addr) (c : Ctx) (s : St M) (a : Act) (w : World) : Prop where
  mem : Mem M c N w0 O0 s.L s.G w
  slots : Vals c s.L w N s.slots a.tmps.toList
  defers : a.defers = []
  hγ : ∀ n x, γ0 n = some x → c.γ n = some x
  cells : ∀ (b : Nat) (x : Array Value) (T : TypeId) (fz : Nat × Nat), w0.heap[b]? = some (.cells x T fz) → ∃ (x' : Array Value) (fz' : Nat × Nat), w.heap[b]? = some (.cells x' T fz') ∧ x'.size = x.size

def Rel (M : GM) (N : Nat) (w0 : World) (O0 : Nat → Prop) (γ0 : Nat → Option Addr) (s : St M) (a : Act) (w : World) : Prop := ∃ c, RelC M N w0 O0 γ0 c s a w

theorem Vals.grow {c L w c' L' w'} (h : Grow c L w c' L' w') {N : Nat} {vs : List V} {us : List Value} (hv : Vals c L w N vs us) : Vals c' L' w' N vs us :=
  ⟨hv.1, fun i v u h1 h2 => (hv.2 i v u h1 h2).grow h⟩

theorem Vals.put {c L w N} {vs : List V} {a : Act} {v : V} {u : Value} (hv : Vals c L w N vs a.tmps.toList) (h : Val c L w N v u) (dst : Option Tmp) : Vals c L w N (putV vs dst v) (a.put dst u).tmps.toList := by
  cases dst with
  | none => exact hv
  | some d =>
    refine ⟨by simp [putV, Act.put, hv.1.symm], fun i v' u' h1 h2 => ?_⟩
    simp only [putV, Act.put, Array.toList_setIfInBounds] at h1 h2
    rw [List.getElem?_set] at h1 h2
    by_cases hd : d = i
    · subst hd
      simp only [if_true] at h1 h2
      split at h1
      · split at h2
        · injection h1 with h1; injection h2 with h2; subst h1; subst h2; exact h
        · cases h2
      · cases h1
    · simp only [hd, if_false] at h1 h2
      exact hv.2 i v' u' h1 h2

theorem evalV_ok {c L w N} {vs : List V} {a : Act} (hv : Vals c L w N vs a.tmps.toList) (x : Operand) : Val c L w N (evalV vs x) (a.eval x) := by
  cases x with
  | tmp t =>
    simp only [evalV, Act.eval]
    by_cases ht : t < vs.length
    · have ht' : t < a.tmps.toList.length := by rw [hv.1]; exact ht
      have h1 := List.getElem?_eq_getElem ht
      have h2 := List.getElem?_eq_getElem ht'
      have := hv.2 t _ _ h1 h2
      rw [List.getD_eq_getElem?_getD, h1, Array.getD_eq_getD_getElem?, ← Array.getElem?_toList, h2]
      exact this
    · rw [List.getD_eq_getElem?_getD, List.getElem?_eq_none (Nat.le_of_not_lt ht)]
      exact .d _ _ (.undef _)
  | const v =>
    simp only [evalV, Act.eval]
    cases hd : cellD v with
    | none => exact .d _ _ (.undef _)
    | some d =>
      have : valD v = some d := by cases v <;> first | exact hd | cases hd
      exact .d _ _ ((valD_cells this).2.2 w _ N _)
  | global g => exact .d _ _ (.undef _)
  | func f => exact .clo f [] [] #[] #[] rfl rfl (by simp) (by simp)

theorem Sees.only (L : Loc) (rd : List Nat) : Sees (L.only rd) L := by
  intro g n h
  unfold Loc.get Loc.only at *
  by_cases hg : g ∈ rd
  · simp only [hg, if_true]
  · simp [hg] at h

theorem only_in (L : Loc) {rd : List Nat} {g : Nat} (h : g ∈ rd) : L.only rd g = L g := by simp [Loc.only, h]

section
variable {P : Program} {M : GM} {N : Nat} {w0 : World} {O0 : Nat → Prop} {γ0 : Nat → Option Addr}

theorem RelC.did {c : Ctx} {s : St M} {a : Act} {w : World} (h : RelC M N w0 O0 γ0 c s a w) {out : Out M.S} {u : Value} {w' : World} (hd : Did M c N w0 O0 s.L s.G w out u w') (dst : Option Tmp) :
    Rel M N w0 O0 γ0 { slots := putV s.slots dst out.v, L := s.L.upd out.wr, G := out.gs.getD s.G } (a.put dst u) w' := by
  obtain ⟨c', m, g, v⟩ := hd
  refine ⟨c', m, (h.slots.grow g).put v dst, ?_, fun n x hx => g.hγ n x (h.hγ n x hx), fun b x T fz hb => ?_⟩
  · cases dst <;> exact h.defers
  · obtain ⟨x', fz', h1, h2⟩ := h.cells b x T fz hb
    obtain ⟨x'', fz'', k1, k2⟩ := g.cells' h1
    exact ⟨x'', fz'', k1, k2.trans h2⟩

theorem astep_ok {Γ : Env M} (hM : M.Ok) (hΓ : ∀ f sp, Γ f = some sp → Sound P M f sp) {ops : Array Oper} {i : Nat} {o : Oper} (ho : ops[i]? = some o) {s s' : St M} {ft : Foot}
    (h : astep P Γ ops o s = some (s', ft)) {a : Act} {w : World} (hr : Rel M N w0 O0 γ0 s a w) {K : Act → World → Prop} {Q : Exit → Act → World → Prop} (hK : ∀ a' w', Rel M N w0 O0 γ0 s' a' w' → K a' w') :
    wpOp P ops Q i K a w := by
  obtain ⟨c, hr⟩ := hr
  have hg : ∀ b, aguard ops s.slots o = some b → Region.wanted o (yielded ops a.tmps) = b := by
    intro b hb
    unfold aguard at hb
    unfold Region.wanted
    split at hb
    · rename_i h1
      injection hb with hb; subst hb
      rw [h1]
    · rename_i j want h1
      rw [h1]
      dsimp only
      split at hb
      · rename_i b' hs
        injection hb with hb; subst hb
        cases hd : (ops[j]?).bind (·.dst) with
        | none => rw [hd] at hs; cases hs
        | some d =>
          rw [hd] at hs
          simp only [Option.bind_some] at hs
          have hd' : d < a.tmps.toList.length := by rw [hr.slots.1]; exact (List.getElem?_eq_some_iff.1 hs).1
          have h2 := List.getElem?_eq_getElem hd'
          have hv := (hr.slots.2 d _ _ hs h2).bool
          have : yielded ops a.tmps j = some b' := by
            unfold yielded
            rw [hd]
            simp only [Option.bind_some]
            rw [← Array.getElem?_toList, h2, hv]
          rw [this]
          cases b' <;> cases want <;> rfl
      · rename_i hs
        injection hb with hb; subst hb
        cases hd : (ops[j]?).bind (·.dst) with
        | none => rw [hd] at hs; cases hs
        | some d =>
          rw [hd] at hs
          simp only [Option.bind_some] at hs
          have hd' : d < a.tmps.toList.length := by rw [hr.slots.1]; exact (List.getElem?_eq_some_iff.1 hs).1
          have h2 := List.getElem?_eq_getElem hd'
          have hv := (hr.slots.2 d _ _ hs h2).dat
          have : yielded ops a.tmps j = none := by
            unfold yielded
            rw [hd]
            simp only [Option.bind_some]
            rw [← Array.getElem?_toList, h2]
            generalize a.tmps.toList[d] = u at hv
            cases hv; rfl
          rw [this]; rfl
      · cases hb
  unfold astep at h
  unfold wpOp
  rw [ho]
  dsimp only
  split at h
  · cases h
  · rename_i hgd
    injection h with h; injection h with h1 h2; subst h1
    rw [hg _ hgd]
    simp only [Bool.false_eq_true, if_false]
    refine hK _ _ ?_
    exact ⟨c, hr.mem, hr.slots.put undef_val o.dst, by cases o.dst <;> exact hr.defers, hr.hγ, hr.cells⟩
  · rename_i hgd
    rw [hg _ hgd]
    simp only [if_true]
    cases ha : aop P Γ o (evalV s.slots) (s.L.only (rdOf o (o.op.operands.toList.map (evalV s.slots)) s.L)) (if gOf Γ o (o.op.operands.toList.map (evalV s.slots)) = 0 then none else some s.G) with
    | none => simp only [ha] at h; cases h
    | some out =>
      simp only [ha, Option.bind_some] at h
      split at h
      rotate_left
      · cases h
      injection h with h; injection h with h1 h2; subst h1
      have hok := aop_ok (ρ := a.eval) hM hΓ hr.mem (Sees.only _ _) (o := o)
        (fun hh => only_in _ (by
          simp only [rdOf, List.mem_append]
          refine .inr ?_
          split
          · rename_i e; exact absurd e hh
          · simp
          · simp))
        (fun hh i hi => only_in _ (by
          simp only [rdOf, List.mem_append]
          refine .inr ?_
          rw [hh]
          have : i = 0 ∨ i = 1 ∨ i = 2 ∨ i = 3 ∨ i = 4 := by omega
          rcases this with rfl | rfl | rfl | rfl | rfl <;> simp))
        (by
          intro s' hs'
          split at hs'
          · cases hs'
          · injection hs' with hs'; exact hs'.symm) (evalV_ok hr.slots) ha
      refine .inl ?_
      unfold Oper.wp
      rcases hok with ⟨u, w', e1, e2⟩ | ⟨w', e1, e2⟩ | ⟨f, args, e1, e2⟩
      · rw [e1, Oper.upon_value]
        exact hK _ _ (hr.did e2 o.dst)
      · rw [e1, Oper.upon_skip]
        exact hK _ _ (hr.did e2 o.dst)
      · rw [e1, Oper.upon_enter]
        refine e2.mono fun e w' ⟨v, he, hd⟩ => ?_
        subst he
        exact hK _ _ (hr.did hd o.dst)
end
end Wf

