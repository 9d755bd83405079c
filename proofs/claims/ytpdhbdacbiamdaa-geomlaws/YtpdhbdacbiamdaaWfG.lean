/-
  What operations do: loads, stores, and what leaves memory alone.
-/
import Derived.Test.YtpdhbdacbiamdaaWfF
set_option linter.unusedVariables false
set_option linter.unusedSimpArgs false
set_option linter.unnecessarySimpa false
namespace Wf
open Go Go.RowKit

-- types
theorem ty_agg {P : Program} {t : TypeId} {ag : Bool} (h : tyAgg P t = some ag) (w : World) : (isAgg t).run P w = .ok ag w := by
  unfold tyAgg at h
  unfold isAgg
  cases hu : P.underlying t with
  | none => rw [hu] at h; cases h
  | some d =>
    rw [hu] at h
    simp only [Sem.run_bind, run_underlying hu, Result.andThen_ok]
    cases d <;> simp at h <;> subst h <;> rfl

theorem ty_size {P : Program} {t : TypeId} {n : Nat} (h : tySize P t = some n) (w : World) : (Go.sizeOf t).run P w = .ok n w := by
  unfold tySize at h
  cases hi : P.info? t with
  | none => rw [hi] at h; cases h
  | some i =>
    rw [hi] at h; simp at h
    unfold Go.sizeOf typeInfo
    simp [hi, h]

theorem ty_und {P : Program} {t : TypeId} {d : TypeDesc} (h : P.underlying t = some d) (w : World) : (underlying t).run P w = .ok d w := run_underlying h w

-- loads
theorem loadCells_at {P : Program} {w : World} {b o : Nat} {vs : Array Value} (h : ∀ (j : Nat) (u : Value), vs[j]? = some u → w.cell? ⟨b, o + j, none⟩ = some u) :
    (loadCells ⟨b, o, none⟩ vs.size).run P w = .ok vs w := by
  have := run_loadCells_list (P := P) w ⟨b, o, none⟩ vs.toList (fun j v hj => by
    rw [Addr.add_lit]; exact h j v (by simpa using hj))
  simpa using this

theorem run_loadVar {P : Program} {w : World} {t : TypeId} {ag : Bool} {n b o : Nat} {v : Value} (hag : tyAgg P t = some ag) (hn : tySize P t = some n)
    (hv : if ag then ∃ vs, v = .agg vs ∧ vs.size = n else v.oneCell' = true) (hc : cellsAt w b o v) : (loadVar t ⟨b, o, none⟩).run P w = .ok v w := by
  unfold loadVar
  simp only [Sem.run_bind, ty_agg hag, Result.andThen_ok]
  cases ag with
  | true =>
    obtain ⟨vs, rfl, rfl⟩ := by simpa using hv
    simp [ty_size hn, loadCells_at (P := P) (w := w) (b := b) (o := o) (vs := vs) hc]
  | false =>
    have h1 : v.oneCell' = true := by simpa using hv
    have := hc 0 v (by rw [cells_of_one h1]; rfl)
    simp at this
    simp [this]

-- stores
def splice (x : Array Value) (k : Nat) (vs : List Value) : Array Value := (x.toList.take k ++ vs ++ x.toList.drop (k + vs.length)).toArray

theorem splice_size {x : Array Value} {k : Nat} {vs : List Value} (h : k + vs.length ≤ x.size) : (splice x k vs).size = x.size := by
  simp [splice]; omega

theorem splice_at {x : Array Value} {k : Nat} {vs : List Value} (h : k + vs.length ≤ x.size) (j : Nat) :
    (splice x k vs)[j]? = if k ≤ j ∧ j < k + vs.length then vs[j - k]? else x[j]? := by
  have hk : (x.toList.take k).length = k := by simp; omega
  simp only [splice, List.getElem?_toArray, List.append_assoc]
  split
  · rename_i hj
    rw [List.getElem?_append_right (by omega), hk, List.getElem?_append_left (by omega)]
  · rename_i hj
    by_cases h1 : j < k
    · rw [List.getElem?_append_left (by omega), List.getElem?_take, if_pos h1]; simp
    · rw [List.getElem?_append_right (by omega), hk, List.getElem?_append_right (by omega), List.getElem?_drop,
        show k + vs.length + (j - k - vs.length) = j by omega]; simp

def put (w : World) (b : Nat) (x : Array Value) (T : TypeId) (fz : Nat × Nat) : World := { w with heap := w.heap.setIfInBounds b (.cells x T fz) }

theorem put_heap {w : World} {b : Nat} {x T fz} (hb : b < w.heap.size) (k : Nat) : (put w b x T fz).heap[k]? = if k = b then some (.cells x T fz) else w.heap[k]? := by
  unfold put
  by_cases h : k = b
  · subst h; simp [hb]
  · simp [h, Array.getElem?_setIfInBounds_ne (Ne.symm h)]

theorem setCell_put {w : World} {b o : Nat} {x : Array Value} {T fz} (hb : w.heap[b]? = some (.cells x T fz)) (v : Value) :
    w.setCell ⟨b, o, none⟩ v = put w b (x.setIfInBounds o v) T fz := by
  have hlt : b < w.heap.size := by
    rcases Nat.lt_or_ge b w.heap.size with h' | h'
    · exact h'
    · rw [Array.getElem?_eq_none h'] at hb; cases hb
  unfold World.setCell put
  congr 1
  apply Array.ext_getElem?
  intro k
  simp only [Array.getElem?_modify]
  by_cases h : k = b
  · subst h
    have he : w.heap[k] = .cells x T fz := by rw [Array.getElem?_eq_getElem hlt] at hb; exact Option.some.inj hb
    simp [hlt, he]
  · simp [Ne.symm h]

theorem frozen_put {w : World} {b : Nat} {x y : Array Value} {T fz} (hb : w.heap[b]? = some (.cells x T fz)) (i : Nat) : (put w b y T fz).frozen? ⟨b, i, none⟩ = w.frozen? ⟨b, i, none⟩ := by
  have hlt : b < w.heap.size := by
    rcases Nat.lt_or_ge b w.heap.size with h' | h'
    · exact h'
    · rw [Array.getElem?_eq_none h'] at hb; cases hb
  unfold World.frozen?
  rw [put_heap hlt]; simp [hb]

theorem splice_cons {x : Array Value} {k : Nat} {v : Value} {vs : List Value} (h : k + (v :: vs).length ≤ x.size) : splice (x.setIfInBounds k v) (k + 1) vs = splice x k (v :: vs) := by
  simp at h
  apply Array.ext_getElem?
  intro j
  rw [splice_at (by simp; omega), splice_at (by simp; omega)]
  simp only [List.length_cons]
  by_cases h1 : j = k
  · subst h1
    rw [if_neg (by omega), if_pos (by omega)]
    have hj : j < x.size := by omega
    simp [hj]
  · by_cases h2 : k + 1 ≤ j ∧ j < k + 1 + vs.length
    · rw [if_pos h2, if_pos (by omega), show j - k = (j - (k + 1)) + 1 by omega]; simp
    · rw [if_neg h2, if_neg (by omega), Array.getElem?_setIfInBounds_ne (Ne.symm h1)]

theorem put_put (w : World) (b : Nat) (x y : Array Value) (T fz) : put (put w b x T fz) b y T fz = put w b y T fz := by
  unfold put; simp

theorem splice_nil (x : Array Value) (k : Nat) : splice x k [] = x := by simp [splice]

theorem put_same {w : World} {b : Nat} {x : Array Value} {T fz} (hb : w.heap[b]? = some (.cells x T fz)) : put w b x T fz = w := by
  have hlt : b < w.heap.size := by
    rcases Nat.lt_or_ge b w.heap.size with h' | h'
    · exact h'
    · rw [Array.getElem?_eq_none h'] at hb; cases hb
  have : w.heap.setIfInBounds b (.cells x T fz) = w.heap := by
    apply Array.ext_getElem?
    intro k
    by_cases h : k = b
    · subst h; rw [hb]; simp [hlt]
    · rw [Array.getElem?_setIfInBounds_ne (Ne.symm h)]
  unfold put; rw [this]

theorem run_storeCells {P : Program} {b o : Nat} {T : TypeId} {fz : Nat × Nat} : ∀ (vs : List Value) (i : Nat) (x : Array Value) (w : World), w.heap[b]? = some (.cells x T fz) →
    o + i + vs.length ≤ x.size → (∀ j, o + i ≤ j → j < o + i + vs.length → w.frozen? ⟨b, j, none⟩ = false) → (∀ v ∈ vs, v.oneCell' = true) →
    (storeCells ⟨b, o, none⟩ vs i).run P w = .ok () (put w b (splice x (o + i) vs) T fz)
  | [], i, x, w, hb, _, _, _ => by
    rw [splice_nil, put_same hb]; simp [storeCells]
  | v :: vs, i, x, w, hb, hs, hf, h1 => by
    simp only [List.length_cons] at hs hf
    have hc : w.cell? ⟨b, o + i, none⟩ = some (x[o + i]'(by omega)) := by simp [World.cell?, hb]
    have hf0 := hf (o + i) (by omega) (by omega)
    have hlt : b < w.heap.size := by
      rcases Nat.lt_or_ge b w.heap.size with h' | h'
      · exact h'
      · rw [Array.getElem?_eq_none h'] at hb; cases hb
    have ih := run_storeCells (P := P) (o := o) (T := T) (fz := fz) vs (i + 1) (x.setIfInBounds (o + i) v) (put w b (x.setIfInBounds (o + i) v) T fz)
      (by rw [put_heap hlt, if_pos rfl]) (by simp; omega) (fun j hj hj' => by rw [frozen_put hb]; exact hf j (by omega) (by omega)) (fun u hu => h1 u (by simp [hu]))
    rw [put_put, show o + (i + 1) = o + i + 1 by omega, splice_cons (by simp; omega)] at ih
    simp only [storeCells, Sem.run_bind, Addr.add_lit, run_store P w _ v .plain (h1 v (by simp)), hc, hf0]
    simp only [Bool.false_eq_true, if_false, Result.andThen_ok, setCell_put hb]
    exact ih

theorem run_storeVar {P : Program} {b o n : Nat} {t T : TypeId} {fz : Nat × Nat} {x : Array Value} {w : World} {v : Value} (hn : tySize P t = some n) (hb : w.heap[b]? = some (.cells x T fz))
    (hv : v.cells.size = n) (hs : o + n ≤ x.size) (hf : ∀ j, o ≤ j → j < o + n → w.frozen? ⟨b, j, none⟩ = false) (h1 : ∀ (i : Nat) (u : Value), v.cells[i]? = some u → u.oneCell' = true) :
    (storeVar t ⟨b, o, none⟩ v).run P w = .ok () (put w b (splice x o v.cells.toList) T fz) := by
  have hl : v.cells.toList.length = n := by simpa using hv
  have := run_storeCells (P := P) (b := b) (o := o) (T := T) (fz := fz) v.cells.toList 0 x w hb (by omega) (fun j hj hj' => hf j (by omega) (by omega))
    (fun u hu => by
      obtain ⟨i, hi, rfl⟩ := List.mem_iff_getElem.1 hu
      exact h1 i _ (by simp at hi ⊢))
  unfold storeVar
  simp [ty_size hn, hv]
  simpa using this

-- reading off what a value is
section
variable {c : Ctx} {L : Loc} {w : World} {N : Nat}
theorem Val.dat {x : D} {u : Value} (h : Val c L w N (.d x) u) : Rep w (own c L) N c.γ x u := by cases h; assumption
theorem Val.int {k n} {u : Value} (h : Val c L w N (.d (.int k n)) u) : u = .int k n := by have := h.dat; cases this; rfl
theorem Val.bool {b} {u : Value} (h : Val c L w N (.d (.bool b)) u) : u = .bool b := by have := h.dat; cases this; rfl
theorem Val.agg {cs} {u : Value} (h : Val c L w N (.d (.agg cs)) u) : ∃ vs, u = .agg vs ∧ vs.size = cs.length ∧
    (∀ (i : Nat) (d : D) (v : Value), cs[i]? = some d → vs[i]? = some v → Rep w (own c L) N c.γ d v) ∧ ∀ (i : Nat) (v : Value), vs[i]? = some v → v.oneCell' = true := by
  have := h.dat
  cases this with
  | agg cs vs h1 h2 h3 => exact ⟨vs, rfl, h1, h2, h3⟩
end

theorem Rep.cells {w A N γ d v} (h : Rep w A N γ d v) (hd : d.cell = true ∨ d.isAgg = true) : v.cells.size = d.width ∧ ∀ (i : Nat) (u : Value), v.cells[i]? = some u → u.oneCell' = true := by
  rcases hd with hd | hd
  · have h1 := h.cell hd
    rw [cells_of_one h1]
    refine ⟨by cases d <;> simp_all [D.cell, D.width], fun i u hu => ?_⟩
    cases i with
    | zero => simp at hu; subst hu; exact h1
    | succ i => simp at hu
  · cases d <;> simp [D.isAgg] at hd
    cases h with
    | agg cs vs h1 h2 h3 => exact ⟨h1, h3⟩

theorem Grow.refl (c : Ctx) (L : Loc) (w : World) : Grow c L w c L w :=
  ⟨Nat.le_refl _, fun _ _ _ => rfl, fun _ _ h => h, fun _ _ h => h, fun _ y _ fz h _ => ⟨y, fz, h, rfl⟩, fun _ => Nat.le_refl _, fun _ _ => .inr ⟨rfl, Compat.refl _⟩⟩

theorem Compat.trans {x y z : HObj} (h : Compat x y) (k : Compat y z) : Compat x z := by
  cases x <;> cases y <;> cases z <;> simp_all [Compat]

theorem Grow.trans {c L w c' L' w' c'' L'' w''} (h : Grow c L w c' L' w') (k : Grow c' L' w' c'' L'' w'') : Grow c L w c'' L'' w'' := by
  refine ⟨Nat.le_trans h.size k.size, ?_, ?_, fun n a e => k.hγ n a (h.hγ n a e), ?_, fun g => Nat.le_trans (h.gen g) (k.gen g), ?_⟩
  · intro b hb hlt
    rw [k.old b (fun e => hb (h.ownsub b hlt e)) (Nat.lt_of_lt_of_le hlt h.size), h.old b hb hlt]
  · intro b hlt hb
    exact h.ownsub b hlt (k.ownsub b (Nat.lt_of_lt_of_le hlt h.size) hb)
  · intro b x T fz hb _
    obtain ⟨x', fz', h1, h2⟩ := h.cells' hb
    obtain ⟨x'', fz'', h3, h4⟩ := k.cells' h1
    exact ⟨x'', fz'', h3, by omega⟩
  · intro g e
    have e1 : (L' g).1 = (L g).1 := by have := h.gen g; have := k.gen g; omega
    rcases k.obj g (by omega) with h1 | ⟨h1, h2⟩
    · exact .inl h1
    · rcases h.obj g e1 with h3 | ⟨h3, h4⟩
      · rw [h3] at h2
        refine .inl ?_
        cases hx : (L'' g).2 <;> simp [hx, Compat] at h2 ⊢
      · exact .inr ⟨h1.trans h3, h4.trans h2⟩

theorem Loc.upd_append : ∀ (a b : Wr) (L : Loc), L.upd (a ++ b) = (L.upd a).upd b
  | [], _, _ => rfl
  | (_, _) :: a, b, _ => Loc.upd_append a b _

section
variable (M : GM) (c : Ctx) (N : Nat) (w0 : World) (O0 : Nat → Prop) (L : Loc) (G : M.S) (w : World)

/-- An operation came to u, in world w'. -/
def Did (out : Out M.S) (u : Value) (w' : World) : Prop :=
  ∃ c', Mem M c' N w0 O0 (L.upd out.wr) (out.gs.getD G) w' ∧ Grow c L w c' (L.upd out.wr) w' ∧ Val c' (L.upd out.wr) w' N out.v u
end

section
variable {M : GM} {c : Ctx} {N : Nat} {w0 : World} {O0 : Nat → Prop} {L : Loc} {G : M.S} {w : World}
theorem Did.same (h : Mem M c N w0 O0 L G w) {v : V} {u : Value} (hv : Val c L w N v u) : Did M c N w0 O0 L G w { v } u w := ⟨c, h, Grow.refl .., hv⟩
end

/-- What an operation looks at is what there is. -/
def Sees (Lr L : Loc) : Prop := ∀ g n, Lr.get g n ≠ .dead → L.get g n = Lr.get g n

theorem Sees.els {Lr L : Loc} (h : Sees Lr L) {v : V} {l : List D} (he : elsOf Lr v = some l) : elsOf L v = some l := by
  cases v with
  | ref g n off len =>
    simp only [elsOf] at he ⊢
    have hg := h g n
    cases hx : Lr.get g n <;> rw [hx] at he <;> simp at he
    rw [hg (by rw [hx]; simp), hx]; simpa using he
  | bref g n off len =>
    simp only [elsOf] at he ⊢
    have hg := h g n
    cases hx : Lr.get g n <;> rw [hx] at he <;> simp at he
    rw [hg (by rw [hx]; simp), hx]; simpa using he
  | d x => cases x <;> exact he
  | _ => exact he

theorem get_at {L : Loc} {g n : Nat} {x : HObj} (h : L.get g n = x) (hx : x ≠ .dead) : (L g).1 = n ∧ (L g).2 = x := by
  unfold Loc.get at h
  split at h
  · exact ⟨by assumption, h⟩
  · exact absurd h.symm hx

end Wf
