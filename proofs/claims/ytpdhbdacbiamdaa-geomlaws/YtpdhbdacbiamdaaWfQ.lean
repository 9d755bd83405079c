/-
  What operations do: make, copy, literals.
-/
import Derived.Test.YtpdhbdacbiamdaaWfP
set_option linter.unusedVariables false
set_option linter.unusedSimpArgs false
set_option linter.unnecessarySimpa false
namespace Wf
open Go Go.RowKit

theorem wrap_small {n : Int} (h0 : 0 ≤ n) (h1 : n ≤ 2 ^ 47) : IntKind.i64.wrap n = n := by
  have h2 : n % (2 ^ 64 : Int) = n := Int.emod_eq_of_lt h0 (by omega)
  show (if (true && decide (n % (2 ^ 64 : Int) ≥ (2 ^ 63 : Int))) = true then n % (2 ^ 64 : Int) - (2 ^ 64 : Int) else n % (2 ^ 64 : Int)) = n
  rw [h2, if_neg]
  simp; omega

section
variable {M : GM} {c : Ctx} {N : Nat} {w0 : World} {O0 : Nat → Prop} {L Lr : Loc} {G : M.S} {w : World}

theorem ty_zero {P : Program} {t : TypeId} {z : D} (h : tyZero P t = some z) : ∃ i zv, P.info? t = some i ∧ i.zero = some zv ∧ valD zv = some z := by
  unfold tyZero at h
  cases hi : P.info? t with
  | none => rw [hi] at h; cases h
  | some i =>
    rw [hi] at h
    simp only [Option.bind_some] at h
    cases hz : i.zero with
    | none => rw [hz] at h; cases h
    | some zv => rw [hz] at h; exact ⟨i, zv, rfl, hz, h⟩

theorem amakeSlice_ok {P : Program} (hM : M.Ok) (hm : Mem M c N w0 O0 L G w) {t : Nat} (hnew : Lr t = L t) {ty : TypeId} {n k : V} {nu ku : Value} {o : Out M.S} (ha : amakeSlice P Lr t ty n k = some o)
    (hn : Val c L w N n nu) (hk : Val c L w N k ku) : ∃ u w', (Instr.makeSlice ty nu ku).run P w = .ok u w' ∧ Did M c N w0 O0 L G w o u w' := by
  have hnew' : Lr.new t = L.new t := by unfold Loc.new; rw [hnew]
  unfold amakeSlice at ha
  rw [hnew'] at ha
  split at ha
  rotate_left
  · cases ha
  rename_i e n k hu
  cases hz : tyZero P e with
  | none => rw [hz] at ha; cases ha
  | some z =>
  cases hsz : tySize P e with
  | none => rw [hz, hsz] at ha; cases ha
  | some sz =>
  cases hi : P.info? e with
  | none => rw [hz, hsz, hi] at ha; cases ha
  | some i =>
  rw [hz, hsz, hi] at ha
  dsimp only at ha
  split at ha
  rotate_left
  · cases ha
  rename_i hc
  obtain ⟨c1, rfl, c3, c4, c5, c6⟩ := hc
  injection ha with ha; subst ha
  have := hn.int; subst this
  have := hk.int; subst this
  obtain ⟨i', zv, z1, z2, z3⟩ := ty_zero hz
  rw [hi] at z1; cases z1
  obtain ⟨v1, v2, v3⟩ := valD_cells z3
  have hw := wrap_small c1 c4
  have hbb : ¬ ((n : Int) < 0 ∨ (i.bytes : Int) * n > 2 ^ 48) := by
    rintro (h | h)
    · omega
    · rw [Int.mul_comm] at h; omega
  let x : Array Value := (Array.range (n.toNat * sz)).map fun j => zv.cells[j % zv.cells.size]!
  have hxsz : x.size = n.toNat * sz := by simp [x]
  have hrun : (Instr.makeSlice ty (.int .i64 n) (.int .i64 n)).run P w = .ok (.slice (some ⟨w.heap.size, 0, none⟩) n.toNat n.toNat) (w.alloc (.cells x e)) := by
    have hA : ¬ (n < 0) := by omega
    have hB : ¬ ((281474976710656 : Int) < ↑i.bytes * n) := by intro h; exact hbb (.inr h)
    have hsize : ∀ w, (Go.sizeOf e).run P w = .ok sz w := fun w => ty_size hsz w
    by_cases h0 : n.toNat * sz = 0
    · have hx0 : x = #[] := Array.eq_empty_of_size_eq_zero (by rw [hxsz]; exact h0)
      have hn0 : n = 0 := by
        rcases Nat.mul_eq_zero.1 h0 with h | h
        · omega
        · omega
      subst hn0
      simp [Instr.makeSlice, ty_und hu, asInt, asIntOf, typeInfo, hi, hw, hsize, newRow, hx0, Go.Array.range_zero']
    · have hz' : ∀ w, (zeroValue e).run P w = .ok zv w := fun w => by simp [zeroValue, typeInfo, hi, z2]
      simp only [Instr.makeSlice, Sem.run_bind, ty_und hu, asInt, asIntOf, typeInfo, hi, hw, Sem.run_pure, Result.andThen_ok, run_program]
      simp [hA, hB, hsize, hz', newRow, h0, x]
  refine ⟨_, _, hrun, ?_⟩
  have := new_row hM hm (t := t) (sz := sz) (els := List.replicate n.toNat z) (x := x) (T := e) (wr := []) (cap := n.toNat) ⟨fun _ => zv, fun j d hd => by
    have hj : j < n.toNat := by
      rcases Nat.lt_or_ge j n.toNat with h | h
      · exact h
      · rw [List.getElem?_eq_none (by simpa using h)] at hd; cases hd
    simp [hj] at hd
    subst hd
    refine ⟨v3 _ _ _ _, (by rw [v1]; exact c5 : zv.cells.size = sz), fun q u hq => ?_⟩
    have hqs : q < sz := by
      rcases Nat.lt_or_ge q zv.cells.size with h' | h'
      · omega
      · rw [Array.getElem?_eq_none h'] at hq; cases hq
    have hlt : j * sz + q < n.toNat * sz := by
      have : (j + 1) * sz ≤ n.toNat * sz := Nat.mul_le_mul_right _ hj
      rw [Nat.succ_mul] at this; omega
    have hmod : (j * sz + q) % zv.cells.size = q := by rw [v1, c5, Nat.mul_comm, Nat.mul_add_mod, Nat.mod_eq_of_lt hqs]
    simp only [x, Array.getElem?_map]
    rw [Array.getElem?_eq_getElem (by simpa using hlt)]
    simp only [Option.map_some, Array.getElem_range, hmod]
    have hqz : q < zv.cells.size := by omega
    rw [Array.getElem?_eq_getElem hqz] at hq
    rw [getElem!_pos zv.cells q hqz]; exact hq⟩ hm (Grow.refl ..) (by simp [Loc.upd, Loc.new]) (by rw [hxsz]; exact Nat.le_refl _) (by simp)
  simpa using this

/-- Into a row of single cells. -/
theorem write_row1 (hM : M.Ok) (hm : Mem M c N w0 O0 L G w) {g l off : Nat} {els ys : List D} {b : Nat} {x : Array Value} {T : TypeId} {fz : Nat × Nat} {vs : List Value} {r : V} {ru : Value}
    (hL : L.get g l = .arr 1 els true) (hι : c.ι g = some b) (hb : w.heap[b]? = some (.cells x T fz)) (ho : off + ys.length ≤ els.length) (hr : Reps w (own c L) N c.γ ys vs) (h1 : ∀ v ∈ vs, v.oneCell' = true)
    (hrv : ∀ c L w, Val c L w N r ru) :
    Did M c N w0 O0 L G w { v := r, wr := [(g, (l, .arr 1 (els.take off ++ ys ++ els.drop (off + ys.length)) true))] } ru (put w b (splice x off vs) T fz) := by
  obtain ⟨e1, e2⟩ := get_at hL (by simp)
  have hob := hm.get hL (by simp)
  rw [hι] at hob
  obtain ⟨x', T', fz', g2, g3, g4, us, g5⟩ := hob
  rw [hb] at g2; cases g2
  have hvl := hr.1
  have hsz : (splice x off vs).size = x.size := splice_size (by omega)
  have hw : ∀ k, k ≠ b → (put w b (splice x off vs) T fz).heap[k]? = w.heap[k]? := fun k hk => by rw [put_heap (lt_of_heap hb)]; simp [hk]
  have hbb : (put w b (splice x off vs) T fz).heap[b]? = some (.cells (splice x off vs) T fz) := by rw [put_heap (lt_of_heap hb)]; simp
  have hlen : (els.take off ++ ys ++ els.drop (off + ys.length)).length = els.length := by simp; omega
  have hz : ∀ y T' fz', w.heap[b]? = some (.cells y T' fz') → ∃ y' fz'', (put w b (splice x off vs) T fz).heap[b]? = some (.cells y' T' fz'') ∧ y'.size = y.size := by
    intro y T' fz' hy; rw [hb] at hy; cases hy; exact ⟨_, _, hbb, hsz⟩
  have hcp : Compat (L g).2 (.arr 1 (els.take off ++ ys ++ els.drop (off + ys.length)) true) := by rw [e2]; exact ⟨rfl, hlen⟩
  have hg := Grow.write hm (x := .arr 1 (els.take off ++ ys ++ els.drop (off + ys.length)) true) hι (by rw [e2]; rfl) hcp (by simp [put]) hw hz
  have hmm := Mem.write hM hm (x := .arr 1 (els.take off ++ ys ++ els.drop (off + ys.length)) true) hι (by rw [e2]; rfl) hcp (by simp [put]) hw hz rfl rfl rfl
    ⟨_, T, fz, hbb, fun k hk => by rw [frozen_put hb]; exact g3 k (by omega), by rw [hsz, hlen]; exact g4,
      fun i => if off ≤ i ∧ i < off + ys.length then vs.getD (i - off) undef else us i, by
      intro i d hd
      rw [list_splice ho] at hd
      by_cases hi : off ≤ i ∧ i < off + ys.length
      · rw [if_pos hi] at hd
        simp only [if_pos hi]
        have hj : i - off < vs.length := by omega
        have hv : vs[i - off]? = some (vs.getD (i - off) undef) := by simp [hj]
        have ho1 := h1 _ (List.mem_of_getElem? hv)
        refine ⟨(hr.2 _ _ _ hd hv).grow hg, by rw [cells_of_one ho1]; rfl, fun q u hu => ?_⟩
        rw [cells_of_one ho1] at hu
        cases q with
        | zero =>
          simp only [List.getElem?_toArray, List.getElem?_cons_zero, Option.some.injEq] at hu
          rw [Nat.mul_one, Nat.add_zero, put_cell hb, splice_at (by omega), if_pos (by omega), hv, hu]
        | succ q => simp at hu
      · rw [if_neg hi] at hd
        simp only [if_neg hi]
        obtain ⟨p1, p2, p3⟩ := g5 i d hd
        refine ⟨p1.grow hg, p2, fun q u hu => ?_⟩
        have hq : q = 0 := by
          rcases Nat.lt_or_ge q (us i).cells.size with h' | h'
          · omega
          · rw [Array.getElem?_eq_none h'] at hu; cases hu
        subst hq
        have := p3 0 u hu
        rw [Nat.mul_one, Nat.add_zero] at this ⊢
        rw [put_cell hb, splice_at (by omega), if_neg (by omega)]
        simpa [World.cell?, hb] using this⟩
  rw [e1] at hg hmm
  exact ⟨c, hmm, hg, hrv _ _ _⟩

theorem acopy_ok {P : Program} (hM : M.Ok) (hm : Mem M c N w0 O0 L G w) (hs : Sees Lr L) {ty rty : TypeId} {tys : List TypeId} {s x : V} {su xu : Value} {o : Out M.S} (ha : acopy P Lr ty s x = some o)
    (hv : Val c L w N s su) (hx : Val c L w N x xu) :
    ∃ u w', (Builtin.copy_ (ty :: tys).toArray rty #[su, xu]).run P w = .ok u w' ∧ Did M c N w0 O0 L G w o u w' := by
  unfold acopy at ha
  split at ha
  rotate_left
  · cases ha
  rename_i g n off len xs ez hxs hty
  split at ha
  rotate_left
  · cases ha
  rename_i sz els hy
  split at ha
  rotate_left
  · cases ha
  rename_i hc
  obtain ⟨c1, rfl, rfl, c4⟩ := hc
  injection ha with ha; subst ha
  have hL := hs g n (by rw [hy]; simp)
  rw [hy] at hL
  obtain ⟨e, hu, he⟩ := ty_elem hty
  cases hv with
  | ref _ _ _ _ _ k1 k2 =>
  obtain ⟨_, a, cap, rfl, p3, p4⟩ := k2 _ _ _ hL
  obtain ⟨xa, xcap, rfl, xc, hrow⟩ := els_ok hm hs hxs hx
  have hmin : Nat.min xs.length len = (xs.take len).length := by rw [List.length_take]; exact Nat.min_comm _ _
  have hmin2 : min xs.length len = (xs.take len).length := hmin
  -- what is read
  have hread : ∃ nx, (Builtin.firstCells 1 (xs.take len).length (.slice xa xs.length xcap)).run P w = .ok nx w ∧ nx.size = (xs.take len).length ∧ Reps w (own c L) N c.γ (xs.take len) nx.toList ∧ ∀ v ∈ nx.toList, v.oneCell' = true := by
    rcases hrow with rfl | ⟨b, bo, sz', vs, rfl, _, _, h⟩
    · refine ⟨#[], ?_, by simp, by simpa using Reps.nil, by simp⟩
      cases xa <;> simp [Builtin.firstCells, loadCells, loadCellsFrom]
    · have h' : ∀ (i : Nat) (d : D), (xs.take len)[i]? = some d → Rep w (own c L) N c.γ d (vs i) ∧ (vs i).cells.size = 1 ∧ cellsAt w b (bo + i * 1) (vs i) ∧ (vs i).oneCell' = true := by
        intro i d hd
        rw [List.getElem?_take] at hd
        split at hd
        · obtain ⟨q1, q2, q3⟩ := h i d hd
          have hcell : d.cell = true := by
            rw [List.all_eq_true] at c4
            exact c4 d (List.mem_of_getElem? hd)
          have ho := q1.cell hcell
          have hs1 : (vs i).cells.size = 1 := by rw [cells_of_one ho]; rfl
          have : sz' = 1 := by omega
          subst this
          exact ⟨q1, hs1, q3, ho⟩
        · cases hd
      obtain ⟨nx, n1, n2, ⟨us, n3⟩, n4⟩ := firstCells_of (P := P) (w := w) (l := xs.take len) (b := b) (o := bo) (cap := xcap) (vs := vs) fun i d hd => ⟨(h' i d hd).1, (h' i d hd).2.1, (h' i d hd).2.2.1⟩
      have n1' := n1 w fun _ => rfl
      rw [Nat.mul_one] at n2
      refine ⟨nx, by simpa [Builtin.firstCells] using n1', n2, ⟨by simpa using n2, fun i d v hd hv => ?_⟩, ?_⟩
      · obtain ⟨r1, r2, r3⟩ := n3 i d hd
        have ho := r1.cell (by
          rw [List.getElem?_take] at hd
          split at hd
          · rw [List.all_eq_true] at c4; exact c4 d (List.mem_of_getElem? hd)
          · cases hd)
        have := r3 0 (us i) (by rw [cells_of_one ho]; rfl)
        rw [Nat.mul_one, Nat.add_zero] at this
        have hv' : nx[i]? = some v := by simpa using hv
        rw [this] at hv'; cases hv'; exact r1
      · intro v hv
        obtain ⟨k, hk, rfl⟩ := List.mem_iff_getElem.1 hv
        obtain ⟨i, d, q, r1, r2⟩ := n4 k (nx.toList[k]) (by simp)
        have ho := (h' i d r1).2.2.2
        rw [cells_of_one ho] at r2
        cases q with
        | zero =>
          have e5 : nx.toList[k] = vs i := by simpa using r2.symm
          rw [e5]; exact ho
        | succ q => simp at r2
  obtain ⟨nx, n1, n2, n3, n4⟩ := hread
  have hsize : ∀ w, (Go.sizeOf e).run P w = .ok 1 w := fun w => ty_size he w
  have hlen : Builtin.lenOf (.slice xa xs.length xcap) = pure xs.length := rfl
  have hri : ∀ c L w, Val c L w N (.d (.int .i64 ((min xs.length len : Nat) : Int))) (goInt ((xs.take len).length : Nat)) := by
    intro c L w; rw [hmin2]; exact .d _ _ (.int _ _)
  by_cases h0 : (xs.take len).length = 0
  · -- nothing
    have hnx : nx = #[] := Array.eq_empty_of_size_eq_zero (by omega)
    subst hnx
    have hxt : xs.take len = [] := List.eq_nil_of_length_eq_zero h0
    have hrun : (Builtin.copy_ (ty :: tys).toArray rty #[.slice a len cap, .slice xa xs.length xcap]).run P w = .ok (goInt ((xs.take len).length : Nat)) w := by
      have hmin' : xs.length.min len = 0 := by rw [hmin, h0]
      rw [h0] at n1
      simp [Builtin.copy_, ty_und hu, hlen, hmin', hsize, n1, h0]
      cases a <;> simp [storeCells]
    refine ⟨_, _, hrun, ?_⟩
    have he2 : els.take off ++ xs.take len ++ els.drop (off + (xs.take len).length) = els := by rw [hxt]; simp
    rw [he2]
    obtain ⟨e1, e2⟩ := get_at hL (by simp)
    have hset : L.set g (n, .arr 1 els true) = L := by
      funext k; by_cases hk : k = g
      · subst hk; rw [Loc.set_same]; exact Prod.ext e1.symm e2.symm
      · rw [Loc.set_ne _ _ hk]
    refine ⟨c, ?_, ?_, hri _ _ _⟩
    · simp only [Loc.upd, hset]; exact hm
    · simp only [Loc.upd, hset]; exact Grow.refl ..
  · rcases p4 with rfl | ⟨b, y, T, fz, r1, rfl, r3, r4⟩
    · simp at h0; omega
    · have hob := hm.get hL (by simp)
      rw [r1] at hob
      obtain ⟨x', T', fz', g2, g3, g4, us, g5⟩ := hob
      rw [r3] at g2; cases g2
      have hle : off + (xs.take len).length ≤ els.length := by simp; omega
      have hst := run_storeCells (P := P) (b := b) (o := off) (T := T) (fz := fz) nx.toList 0 y w r3 (by simp; omega) (fun j _ hj => g3 j (by simp at hj; omega)) n4
      have hrun : (Builtin.copy_ (ty :: tys).toArray rty #[.slice (some ⟨b, off * 1, none⟩) len cap, .slice xa xs.length xcap]).run P w = .ok (goInt ((xs.take len).length : Nat)) (put w b (splice y off nx.toList) T fz) := by
        rw [Nat.mul_one]
        simp only [Builtin.copy_]
        simp [ty_und hu, hlen, hsize]
        rw [show xs.length.min len = (xs.take len).length from hmin, n1]
        simp
        rw [show (storeCells ⟨b, off, none⟩ nx.toList).run P w = _ from hst]
        simp
      refine ⟨_, _, hrun, ?_⟩
      exact write_row1 hM hm hL r1 r3 hle n3 n4 hri

end
end Wf
