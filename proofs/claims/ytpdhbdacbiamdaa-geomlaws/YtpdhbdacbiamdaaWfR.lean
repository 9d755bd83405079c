/-
  What operations do: literals, boxes, maps.
-/
import Derived.Test.YtpdhbdacbiamdaaWfQ
set_option linter.unusedVariables false
set_option linter.unusedSimpArgs false
set_option linter.unnecessarySimpa false
namespace Wf
open Go Go.RowKit

theorem fold_set (off : Nat) : ∀ (vs : List Value) (j : Nat) (x : Array Value), off + j + vs.length ≤ x.size →
    (vs.zipIdx j).foldl (fun cs p => cs.setIfInBounds (off + p.2) p.1) x = splice x (off + j) vs
  | [], j, x, _ => by simp [splice_nil]
  | v :: vs, j, x, h => by
    simp only [List.zipIdx_cons, List.foldl_cons]
    simp at h
    rw [fold_set off vs (j + 1) (x.setIfInBounds (off + j) v) (by simp; omega), show off + (j + 1) = off + j + 1 by omega]
    exact splice_cons (by simp; omega)

theorem fold_set_arr (off : Nat) (vs x : Array Value) (h : off + vs.size ≤ x.size) :
    vs.zipIdx.foldl (fun cs p => cs.setIfInBounds (off + p.2) p.1) x = splice x off vs.toList := by
  have := fold_set off vs.toList 0 x (by simpa using h)
  rw [← Array.foldl_toList, Array.toList_zipIdx]
  simpa using this

theorem fill_step {place : Nat → Option (Nat × Nat)} {x : Array Value} {i off size : Nat} {v : Value} {rest : List (Nat × Value)} (hp : place i = some (off, size)) (hv : v.cells.size = size) (ho : off + size ≤ x.size) :
    Instr.fill place x ((i, v) :: rest) = Instr.fill place (splice x off v.cells.toList) rest := by
  have := fold_set_arr off v.cells x (by omega)
  simp only [Instr.fill, hp, hv]
  rw [if_neg (by simp; omega)]
  rw [← this]

/-- Parts, one behind the other. -/
theorem fill_row {sz : Nat} : ∀ (vs : List Value) (k : Nat) (x : Array Value), (∀ v ∈ vs, v.cells.size = sz) → (k + vs.length) * sz ≤ x.size →
    ∃ x', Instr.fill (fun i => some (i * sz, sz)) x ((vs.zipIdx k).map fun p => (p.2, p.1)) = some x' ∧ x'.size = x.size ∧
      (∀ (i : Nat) (v : Value), vs[i]? = some v → ∀ (q : Nat) (u : Value), v.cells[q]? = some u → x'[(k + i) * sz + q]? = some u) ∧ ∀ j, j < k * sz → x'[j]? = x[j]?
  | [], k, x, _, _ => ⟨x, rfl, rfl, by simp, fun _ _ => rfl⟩
  | v :: vs, k, x, hv, h => by
    have hvs : v.cells.size = sz := hv v (by simp)
    have hk : k * sz + sz ≤ x.size := by
      have : (k + 1) * sz ≤ (k + (v :: vs).length) * sz := Nat.mul_le_mul_right _ (by simp)
      rw [Nat.succ_mul] at this; omega
    have hroom : k * sz + v.cells.toList.length ≤ x.size := by simp; omega
    obtain ⟨x', h1, h2, h3, h4⟩ := fill_row vs (k + 1) (splice x (k * sz) v.cells.toList) (fun u hu => hv u (by simp [hu])) (by
      rw [splice_size hroom]; simp at h; rw [show k + 1 + vs.length = k + (vs.length + 1) by omega]; exact h)
    refine ⟨x', ?_, by rw [h2, splice_size hroom], ?_, ?_⟩
    · simp only [List.zipIdx_cons, List.map_cons]
      rw [fill_step rfl hvs hk]; exact h1
    · intro i u hu q y hy
      cases i with
      | zero =>
        simp at hu; subst hu
        have hq : q < sz := by
          rcases Nat.lt_or_ge q v.cells.size with h' | h'
          · omega
          · rw [Array.getElem?_eq_none h'] at hy; cases hy
        rw [Nat.add_zero, h4 _ (by rw [Nat.succ_mul]; omega), splice_at hroom, if_pos (by simp; omega), show k * sz + q - k * sz = q by omega]
        simpa using hy
      | succ i =>
        have := h3 i u (by simpa using hu) q y hy
        rwa [show k + 1 + i = k + (i + 1) by omega] at this
    · intro j hj
      rw [h4 j (by rw [Nat.succ_mul]; omega), splice_at hroom, if_neg (by omega)]

section
variable {M : GM} {c : Ctx} {N : Nat} {w0 : World} {O0 : Nat → Prop} {L Lr : Loc} {G : M.S} {w : World}

/-- Values of a list. -/
def Vals (c : Ctx) (L : Loc) (w : World) (N : Nat) (vs : List V) (us : List Value) : Prop :=
  us.length = vs.length ∧ ∀ (i : Nat) (v : V) (u : Value), vs[i]? = some v → us[i]? = some u → Val c L w N v u

theorem Sees.upd_frozen (hs : Sees Lr L) {v : V} {x : D} {wr : Wr} (ht : toD Lr v = some (x, wr)) :
    (∀ g n sz els l, Lr.get g n = .arr sz els l → ∃ l', (L.upd wr).get g n = .arr sz els l') ∧ (∀ g n, Lr.get g n ≠ .dead → (∀ sz els l, Lr.get g n ≠ .arr sz els l) → (L.upd wr).get g n = Lr.get g n) := by
  cases v with
  | d y => simp [toD] at ht; obtain ⟨_, rfl⟩ := ht; exact ⟨fun g n sz els l h => ⟨l, by rw [show L.upd [] = L from rfl, hs g n (by rw [h]; simp), h]⟩, fun g n h _ => hs g n h⟩
  | ref g' n' off len =>
    simp only [toD] at ht
    cases hx : Lr.get g' n' <;> rw [hx] at ht <;> simp at ht
    rename_i sz' els' l'
    obtain ⟨_, _, rfl⟩ := ht
    have hL := hs g' n' (by rw [hx]; simp)
    rw [hx] at hL
    refine ⟨fun g n sz els l h => ?_, fun g n h h2 => ?_⟩
    · have hg := hs g n (by rw [h]; simp)
      rw [h] at hg
      by_cases e : g = g'
      · subst e
        obtain ⟨a1, a2⟩ := get_at hg (by simp)
        obtain ⟨b1, b2⟩ := get_at hL (by simp)
        rw [a2] at b2; cases b2
        have : n = n' := by omega
        subst this
        exact ⟨false, by simp [Loc.upd, Loc.get, Loc.set_same]⟩
      · exact ⟨l, by simp only [Loc.upd, Loc.get, Loc.set_ne _ _ e]; exact hg⟩
    · have hg := hs g n h
      by_cases e : g = g'
      · subst e
        obtain ⟨a1, a2⟩ := get_at (L := L) (g := g) (n := n) hg h
        obtain ⟨b1, b2⟩ := get_at hL (by simp)
        rw [a2] at b2
        exact absurd b2 (h2 _ _ _)
      · simp only [Loc.upd, Loc.get, Loc.set_ne _ _ e]; exact hg
  | _ => cases ht

/-- Sees, but for whether rows are still written. -/
def Sees' (Lr L : Loc) : Prop := (∀ g n sz els l, Lr.get g n = .arr sz els l → ∃ l', L.get g n = .arr sz els l')

theorem toD_ok' (hm : Mem M c N w0 O0 L G w) (hs : Sees' Lr L) {v : V} {u : Value} {x : D} {wr : Wr} (ht : toD Lr v = some (x, wr)) (hv : Val c L w N v u) :
    Mem M c N w0 O0 (L.upd wr) G w ∧ Grow c L w c (L.upd wr) w ∧ Rep w (own c (L.upd wr)) N c.γ x u ∧ Sees' Lr (L.upd wr) := by
  cases v with
  | d y =>
    have h := ht
    simp [toD] at h
    obtain ⟨rfl, rfl⟩ := h
    exact ⟨hm, Grow.refl .., hv.dat, hs⟩
  | ref g n off len =>
    have h := ht
    simp only [toD] at h
    cases hx : Lr.get g n <;> rw [hx] at h <;> simp at h
    rename_i sz els l
    obtain ⟨hle, rfl, rfl⟩ := h
    obtain ⟨l', hL⟩ := hs g n _ _ _ hx
    have hself : Sees L L := fun _ _ _ => rfl
    have ht2 : toD L (.ref g n off len) = some (.sl .fresh ((els.drop off).take len), [(g, (n, .arr sz els false))]) := by
      simp only [toD, hL]; rw [if_pos hle]
    obtain ⟨m1, m2, m3⟩ := toD_ok hm hself ht2 hv
    refine ⟨m1, m2, m3, fun g' n' sz' els' l2 h2 => ?_⟩
    obtain ⟨l3, h3⟩ := hs g' n' _ _ _ h2
    obtain ⟨h4, _⟩ := Sees.upd_frozen hself ht2
    exact h4 g' n' _ _ _ h3
  | _ => cases ht

theorem toDs_ok : ∀ (vs : List V) (us : List Value) (ds : List D) (wr : Wr) (L : Loc), Mem M c N w0 O0 L G w → Sees' Lr L → toDs Lr vs = some (ds, wr) → Vals c L w N vs us →
    Mem M c N w0 O0 (L.upd wr) G w ∧ Grow c L w c (L.upd wr) w ∧ Reps w (own c (L.upd wr)) N c.γ ds us
  | [], us, ds, wr, L, hm, hs, ht, hv => by
    simp [toDs] at ht
    obtain ⟨rfl, rfl⟩ := ht
    have : us = [] := List.eq_nil_of_length_eq_zero hv.1
    subst this
    exact ⟨hm, Grow.refl .., Reps.nil⟩
  | v :: vs, us, ds, wr, L, hm, hs, ht, hv => by
    simp only [toDs] at ht
    cases h1 : toD Lr v with
    | none => rw [h1] at ht; cases ht
    | some p =>
      obtain ⟨x, w1⟩ := p
      rw [h1] at ht
      simp only [Option.bind_some] at ht
      cases h2 : toDs Lr vs with
      | none => rw [h2] at ht; cases ht
      | some p =>
        obtain ⟨xs, w2⟩ := p
        rw [h2] at ht
        simp at ht
        obtain ⟨rfl, rfl⟩ := ht
        cases us with
        | nil => simp [Vals] at hv
        | cons u us =>
          obtain ⟨m1, m2, m3, m4⟩ := toD_ok' hm hs h1 (hv.2 0 v u (by simp) (by simp))
          obtain ⟨k1, k2, k3⟩ := toDs_ok vs us xs w2 (L.upd w1) m1 m4 h2 ⟨by simpa using hv.1, fun i v' u' a b => (hv.2 (i + 1) v' u' (by simpa using a) (by simpa using b)).grow m2⟩
          rw [Loc.upd_append]
          exact ⟨k1, m2.trans k2, Reps.cons (m3.grow k2) k3⟩

theorem Sees.weak (hs : Sees Lr L) : Sees' Lr L := fun g n sz els l h => ⟨l, by rw [hs g n (by rw [h]; simp), h]⟩

theorem abuildSlice_ok {P : Program} (hM : M.Ok) (hm : Mem M c N w0 O0 L G w) (hs : Sees Lr L) {t : TypeId} {n : Nat} {parts : List (Nat × V)} {us : List Value} {o : Out M.S} (ha : abuildSlice P Lr t n parts = some o)
    (hv : Vals c L w N (parts.map (·.2)) us) :
    ∃ u w', (Instr.buildSlice t n ((parts.map (·.1)).zip us).toArray).run P w = .ok u w' ∧ Did M c N w0 O0 L G w o u w' := by
  unfold abuildSlice at ha
  cases hty : appendTy P t n with
  | none => rw [hty] at ha; cases ha
  | some sz =>
  cases htd : toDs Lr (parts.map (·.2)) with
  | none => rw [hty, htd] at ha; cases ha
  | some p =>
  obtain ⟨ds, wr⟩ := p
  rw [hty, htd] at ha
  dsimp only at ha
  split at ha
  rotate_left
  · cases ha
  rename_i hc
  obtain ⟨c1, c2, c3⟩ := hc
  injection ha with ha; subst ha
  obtain ⟨m1, m2, m3⟩ := toDs_ok _ _ _ _ L hm hs.weak htd hv
  obtain ⟨e, i, z, zv, t1, t2, t3, t4, t5, t6, t7, t8, t9, t10⟩ := append_ty hty
  have hpl : parts.length = n := by have := congrArg List.length c1; simpa using this
  have hul : us.length = n := by rw [hv.1]; simpa using hpl
  have hdl : ds.length = n := by rw [← m3.1]; exact hul
  have hus : ∀ u ∈ us, u.cells.size = sz ∧ ∀ (q : Nat) (y : Value), u.cells[q]? = some y → y.oneCell' = true := by
    intro u hu
    obtain ⟨k, hk, rfl⟩ := List.mem_iff_getElem.1 hu
    have hd : ds[k]? = some (ds[k]'(by omega)) := by simp
    obtain ⟨o1, o2⟩ := okEls_spec c3 hd
    have := (m3.2 k _ _ hd (List.getElem?_eq_getElem hk)).cells o2
    exact ⟨by omega, this.2⟩
  have hzip : (parts.map (·.1)).zip us = (us.zipIdx 0).map fun p => (p.2, p.1) := by
    rw [c1]
    apply List.ext_getElem?
    intro k
    simp only [List.getElem?_map, List.getElem?_zipIdx]
    by_cases hk : k < n
    · have h1 : us[k]? = some (us[k]'(by omega)) := by simp
      have h2 : (List.range n)[k]? = some k := by simp [hk]
      have h3 : ((List.range n).zip us)[k]? = some (k, us[k]'(by omega)) := List.getElem?_zip_eq_some.2 ⟨h2, h1⟩
      rw [h3]
      simp [h1]
    · rw [List.getElem?_eq_none (show us.length ≤ k by omega), List.getElem?_eq_none (by simp; omega)]
      rfl
  let x0 : Array Value := (Array.range (n * sz)).map fun j => (if n * sz = 0 then #[] else zv.cells)[j % (if n * sz = 0 then (#[] : Array Value) else zv.cells).size]!
  have hx0 : x0.size = n * sz := by simp [x0]
  obtain ⟨x, f1, f2, f3, _⟩ := fill_row (sz := sz) us 0 x0 (fun u hu => (hus u hu).1) (by rw [hx0, hul, Nat.zero_add]; exact Nat.le_refl _)
  have hsize : ∀ w, (Go.sizeOf e).run P w = .ok sz w := fun w => ty_size (by unfold tySize; simp [t2, t3]) w
  have hzero : ∀ w, (zeroValue e).run P w = .ok zv w := fun w => by simp [zeroValue, typeInfo, t2, t4]
  have hrun : (Instr.buildSlice t n ((parts.map (·.1)).zip us).toArray).run P w = .ok (.slice (some ⟨w.heap.size, 0, none⟩) n n) (w.alloc (.cells x e)) := by
    have hbig : ¬ (n * sz > 2 ^ 24) := by omega
    rw [hzip]
    unfold Instr.buildSlice
    simp only [Sem.run_bind, ty_und t1, Result.andThen_ok, hsize, hbig, if_false]
    by_cases h0 : n * sz = 0
    · have e1 : x0 = (Array.range (n * sz)).map fun j => (#[] : Array Value)[j % (#[] : Array Value).size]! := by simp only [x0, h0, if_true]
      simp only [h0, if_true, Sem.run_bind, Sem.run_pure, Result.andThen_ok]
      rw [e1, h0] at f1
      simp only [f1, newRow, Sem.run_bind, Sem.run_pure, Result.andThen_ok, run_newObj, World.alloc_eq]
    · have e1 : x0 = (Array.range (n * sz)).map fun j => zv.cells[j % zv.cells.size]! := by simp only [x0, h0, if_false]
      simp only [h0, if_false, Sem.run_bind, hzero, Sem.run_pure, Result.andThen_ok]
      rw [e1] at f1
      simp only [f1, newRow, Sem.run_bind, Sem.run_pure, Result.andThen_ok, run_newObj, World.alloc_eq]
  refine ⟨_, _, hrun, ?_⟩
  -- the new row is nobody's: it is read alone
  have hgrow : Grow c (L.upd wr) w c (L.upd wr) (w.alloc (.cells x e)) := by
    refine ⟨by simp, fun b _ hb => Below.heap_alloc w _ b hb, fun _ _ h => h, fun _ _ h => h, ?_, fun _ => Nat.le_refl _, fun _ _ => .inr ⟨rfl, Compat.refl _⟩⟩
    intro b y T fz hb _
    exact ⟨y, fz, by rw [Below.heap_alloc w _ b (lt_of_heap hb)]; exact hb, rfl⟩
  have hmem : Mem M c N w0 O0 (L.upd wr) G (w.alloc (.cells x e)) := by
    refine ⟨fun g => (m1.obj g).grow hgrow fun b hb hd => Below.heap_alloc w _ b (m1.mine g b hb hd).2.1, m1.inj, fun g b h1 h2 => ?_, hM.stable m1.glob (fun b hb => Below.heap_alloc w _ b (m1.osub b hb).1) (by simp), ?_, m1.size0, m1.os, m1.tape, m1.output, fun b hb hO => ?_, fun b hb => ?_⟩
    · obtain ⟨a1, a2, a3⟩ := m1.mine g b h1 h2; exact ⟨a1, by simp; omega, a3⟩
    · have := m1.size; simp; omega
    · rw [Below.heap_alloc w _ b (by have := m1.size; omega)]; exact m1.keep b hb hO
    · obtain ⟨a1, a2⟩ := m1.osub b hb; exact ⟨by simp; omega, a2⟩
  refine ⟨c, hmem, m2.trans hgrow, .d _ _ ?_⟩
  have hnot : ¬ own c (L.upd wr) w.heap.size := by
    rintro (ho | ⟨g, h1, h2⟩)
    · have := (m1.osub _ ho).1; omega
    · have := (m1.mine g _ h1 (by intro e; rw [e] at h2; cases h2)).2.1; omega
  by_cases hn : n = 0
  · subst hn
    have : ds = [] := List.eq_nil_of_length_eq_zero hdl
    subst this
    exact .slE _ _ _ fun _ => rfl
  · have := Rep.sl (w := w.alloc (.cells x e)) (A := own c (L.upd wr)) (N := N) (γ := c.γ) .full ds w.heap.size 0 sz n (fun i => us.getD i undef) (by intro e; rw [e] at hdl; simp at hdl; omega) (by omega) (fun _ => hdl.symm)
      hnot (fun _ => m1.size) (by simp) (fun i d hd => by
        have hi : i < us.length := by
          rcases Nat.lt_or_ge i ds.length with h | h
          · omega
          · rw [List.getElem?_eq_none h] at hd; cases hd
        exact (m3.2 i d _ hd (by simp [hi])).grow hgrow)
      (fun i hi => by
        have hu : us[i]? = some (us.getD i undef) := by simp [show i < us.length by omega]
        refine ⟨(hus _ (List.mem_of_getElem? hu)).1, fun q y hy => ?_⟩
        rw [World.cell?_alloc_new, Nat.zero_add]
        have := f3 i _ hu q y hy
        rwa [Nat.zero_add] at this)
    rw [hdl] at this
    exact this

end
end Wf
