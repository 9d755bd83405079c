/-
  What operations do: new memory.
-/
import Derived.Test.YtpdhbdacbiamdaaWfN
set_option linter.unusedVariables false
set_option linter.unusedSimpArgs false
set_option linter.unnecessarySimpa false
namespace Wf
open Go Go.RowKit

section
variable {M : GM} {c : Ctx} {N : Nat} {w0 : World} {O0 : Nat → Prop} {L Lr : Loc} {G : M.S} {w : World}

theorem Mem.drew (hM : M.Ok) (h : Mem M c N w0 O0 L G w) : Mem M c N w0 O0 L G w.drew ∧ Grow c L w c L w.drew := by
  have hg : Grow c L w c L w.drew := ⟨Nat.le_refl _, fun _ _ _ => rfl, fun _ _ h => h, fun _ _ h => h, fun _ y _ fz h _ => ⟨y, fz, h, rfl⟩, fun _ => Nat.le_refl _, fun _ _ => .inr ⟨rfl, Compat.refl _⟩⟩
  exact ⟨⟨fun g => (h.obj g).grow hg fun _ _ _ => rfl, h.inj, h.mine, hM.stable h.glob (fun _ _ => rfl) (Nat.le_refl _), h.size, h.size0, h.os, h.tape, h.output, h.keep, h.osub⟩, hg⟩

/-- A new row at a place. -/
theorem new_row (hM : M.Ok) (hm : Mem M c N w0 O0 L G w) {t sz : Nat} {els : List D} {x : Array Value} {T : TypeId} {wr : Wr} (hr : RowIn w (own c (L.upd wr)) N c.γ sz els x) {cap : Nat}
    (hm' : Mem M c N w0 O0 (L.upd wr) G w) (hg' : Grow c L w c (L.upd wr) w) (ht : (L.upd wr t).1 < L.new t) (hcap : cap * sz ≤ x.size) (hle : els.length ≤ cap) :
    Did M c N w0 O0 L G w { v := .ref t (L.new t) 0 els.length, wr := wr ++ [(t, (L.new t, .arr sz els true))] } (.slice (some ⟨w.heap.size, 0, none⟩) els.length cap) (w.alloc (.cells x T)) := by
  have hg := Grow.alloc hm' (.cells x T) t (L.new t) (.arr sz els true) ht
  have hcell : ∀ k, (w.alloc (.cells x T)).cell? ⟨w.heap.size, k, none⟩ = x[k]? := fun k => World.cell?_alloc_new w x T k
  have hheap : (w.alloc (.cells x T)).heap[w.heap.size]? = some (.cells x T) := by
    show (w.heap.push (.cells x T))[w.heap.size]? = _
    simp
  have hmm := Mem.alloc hM hm' (.cells x T) t (L.new t) (.arr sz els true) ht (by
    obtain ⟨vs, hvs⟩ := hr
    refine ⟨x, T, (0, 0), hheap, fun i _ => World.frozen?_alloc_new w x T i, ?_, vs, fun i d hd => ?_⟩
    · exact Nat.le_trans (Nat.mul_le_mul_right _ hle) hcap
    · obtain ⟨p1, p2, p3⟩ := hvs i d hd
      exact ⟨p1.grow hg, p2, fun q u hu => by rw [hcell]; simpa using p3 q u hu⟩)
  refine ⟨c.at t (some w.heap.size), ?_, ?_, ?_⟩
  · rw [Loc.upd_append]; exact hmm
  · rw [Loc.upd_append]; exact hg'.trans hg
  · rw [Loc.upd_append]
    refine .ref _ _ _ _ _ (by simp [Loc.upd, Loc.set_same]) fun sz' els' l' h => ?_
    simp only [Loc.upd, Loc.get, Loc.set_same, if_true] at h
    cases h
    refine ⟨by omega, _, cap, rfl, hle, ?_⟩
    by_cases hc : cap = 0
    · exact .inl hc
    · exact .inr ⟨w.heap.size, x, T, (0, 0), by simp [Ctx.at], by simp, hheap, by simpa using hcap⟩

/-- A row goes on, in its own block, at another place. -/
theorem more_row (hM : M.Ok) (hm : Mem M c N w0 O0 L G w) {g n t sz len cap : Nat} {els xs : List D} {b : Nat} {x : Array Value} {T : TypeId} {fz : Nat × Nat} {new : Array Value}
    (hL : L.get g n = .arr sz els true) (hι : c.ι g = some b) (hb : w.heap[b]? = some (.cells x T fz)) (hlen : len = els.length) (hcap : cap * sz ≤ x.size) (hle : len + xs.length ≤ cap)
    (hr : RowIn w (own c L) N c.γ sz xs new) (hnew : new.size = xs.length * sz) :
    Did M c N w0 O0 L G w { v := .ref t (L.new t) 0 (len + xs.length), wr := [(g, (n, .dead)), (t, (L.new t, .arr sz (els ++ xs) true))] } (.slice (some ⟨b, 0, none⟩) (len + xs.length) cap)
      (put w b (splice x (len * sz) new.toList) T fz) := by
  obtain ⟨e1, e2⟩ := get_at hL (by simp)
  have hob := hm.get hL (by simp)
  rw [hι] at hob
  obtain ⟨x', T', fz', g2, g3, g4, us, g5⟩ := hob
  rw [hb] at g2; cases g2
  have hmine := hm.mine g b hι (by rw [e2]; simp)
  have hroom : len * sz + new.toList.length ≤ x.size := by
    have : (len + xs.length) * sz ≤ cap * sz := Nat.mul_le_mul_right _ hle
    rw [Nat.add_mul] at this
    simp; omega
  have hsz : (splice x (len * sz) new.toList).size = x.size := splice_size hroom
  have hw : ∀ k, k ≠ b → (put w b (splice x (len * sz) new.toList) T fz).heap[k]? = w.heap[k]? := fun k hk => by rw [put_heap (lt_of_heap hb)]; simp [hk]
  have hbb : (put w b (splice x (len * sz) new.toList) T fz).heap[b]? = some (.cells (splice x (len * sz) new.toList) T fz) := by rw [put_heap (lt_of_heap hb)]; simp
  have hps : (put w b (splice x (len * sz) new.toList) T fz).heap.size = w.heap.size := by simp [put]
  let L2 : Loc := (L.set g (n, .dead)).set t (L.new t, .arr sz (els ++ xs) true)
  have h2t : L2 t = (L.new t, .arr sz (els ++ xs) true) := Loc.set_same _ _ _
  have h2g : g ≠ t → L2 g = (n, .dead) := fun e => by show ((L.set g (n, .dead)).set t _) g = _; rw [Loc.set_ne _ _ e, Loc.set_same]
  have h2 : ∀ k, k ≠ t → k ≠ g → L2 k = L k := fun k e e' => by show ((L.set g (n, .dead)).set t _) k = _; rw [Loc.set_ne _ _ e, Loc.set_ne _ _ e']
  let c2 : Ctx := c.at t (some b)
  have hc2t : c2.ι t = some b := by simp [c2, Ctx.at]
  have hc2 : ∀ k, k ≠ t → c2.ι k = c.ι k := fun k e => by simp [c2, Ctx.at, e]
  have hold : ∀ k, (L2 k).2 ≠ .dead → k ≠ t → (L k).2 ≠ .dead ∧ k ≠ g := by
    intro k hk e
    by_cases e' : k = g
    · subst e'; rw [h2g e] at hk; exact absurd rfl hk
    · rw [h2 k e e'] at hk; exact ⟨hk, e'⟩
  have hg : Grow c L w c2 L2 (put w b (splice x (len * sz) new.toList) T fz) := by
    refine ⟨by omega, ?_, ?_, fun _ _ h => h, ?_, ?_, ?_⟩
    · intro k hk _
      refine hw k fun e => hk (.inr ⟨g, by rw [e]; exact hι, by rw [e2]; rfl⟩)
    · rintro k _ (hO | ⟨g', q1, q2⟩)
      · exact .inl hO
      · by_cases e : g' = t
        · subst e; rw [hc2t] at q1; cases q1
          exact .inr ⟨g, hι, by rw [e2]; rfl⟩
        · have hd : (L2 g').2 ≠ .dead := by intro e'; rw [e'] at q2; cases q2
          obtain ⟨_, e'⟩ := hold g' hd e
          rw [h2 g' e e'] at q2
          exact .inr ⟨g', by rw [← hc2 g' e]; exact q1, q2⟩
    · intro k y T' fz' hk _
      by_cases e : k = b
      · subst e; rw [hb] at hk; cases hk; exact ⟨_, _, hbb, hsz⟩
      · exact ⟨y, fz', by rw [hw k e]; exact hk, rfl⟩
    · intro k
      by_cases e : k = t
      · subst e; rw [h2t]; simp [Loc.new]
      · by_cases e' : k = g
        · subst e'; rw [h2g e]; simp [e1]
        · rw [h2 k e e']; exact Nat.le_refl _
    · intro k hk
      by_cases e : k = t
      · subst e; rw [h2t] at hk; simp [Loc.new] at hk
      · by_cases e' : k = g
        · subst e'; rw [h2g e]; exact .inl rfl
        · rw [h2 k e e', hc2 k e]; exact .inr ⟨rfl, Compat.refl _⟩
  have hmm : Mem M c2 N w0 O0 L2 G (put w b (splice x (len * sz) new.toList) T fz) := by
    refine ⟨?_, ?_, ?_, ?_, by rw [hps]; exact hm.size, hm.size0, hm.os, hm.tape, hm.output, ?_, fun y hy => by rw [hps]; exact hm.osub y hy⟩
    · intro k
      by_cases e : k = t
      · subst e
        rw [hc2t, h2t]
        obtain ⟨vs, hvs⟩ := hr
        refine ⟨_, T, fz, hbb, fun i hi => by rw [frozen_put hb]; exact g3 i (by omega), ?_, fun i => if i < len then us i else vs (i - len), fun i d hd => ?_⟩
        · rw [hsz, List.length_append, ← hlen]
          exact Nat.le_trans (Nat.mul_le_mul_right _ hle) hcap
        · by_cases hi : i < len
          · rw [List.getElem?_append_left (by omega)] at hd
            obtain ⟨p1, p2, p3⟩ := g5 i d hd
            simp only [hi, if_true]
            refine ⟨p1.grow hg, p2, fun q u hu => ?_⟩
            have hq : q < sz := by
              rcases Nat.lt_or_ge q (us i).cells.size with h' | h'
              · omega
              · rw [Array.getElem?_eq_none h'] at hu; cases hu
            rw [put_cell hb, splice_at hroom, if_neg]
            · have := p3 q u hu
              simpa [World.cell?, hb] using this
            · have : (i + 1) * sz ≤ len * sz := Nat.mul_le_mul_right _ hi
              rw [Nat.succ_mul] at this; omega
          · rw [List.getElem?_append_right (by omega), ← hlen] at hd
            obtain ⟨p1, p2, p3⟩ := hvs (i - len) d hd
            simp only [hi, if_false]
            refine ⟨p1.grow hg, p2, fun q u hu => ?_⟩
            have h3 := p3 q u hu
            have hj : i - len < xs.length := by
              rcases Nat.lt_or_ge (i - len) xs.length with h' | h'
              · exact h'
              · rw [List.getElem?_eq_none h'] at hd; cases hd
            have hq : q < sz := by
              rcases Nat.lt_or_ge q (vs (i - len)).cells.size with h' | h'
              · omega
              · rw [Array.getElem?_eq_none h'] at hu; cases hu
            have hi2 : i * sz = len * sz + (i - len) * sz := by rw [← Nat.add_mul]; congr 1; omega
            have hlt : (i - len) * sz + q < xs.length * sz := by
              have : (i - len + 1) * sz ≤ xs.length * sz := Nat.mul_le_mul_right _ hj
              rw [Nat.succ_mul] at this; omega
            rw [put_cell hb, splice_at hroom, if_pos (by simp; omega), show i * sz + q - len * sz = (i - len) * sz + q by omega]
            simpa using h3
      · rw [hc2 k e]
        by_cases e' : k = g
        · subst e'; rw [h2g e]; trivial
        · rw [h2 k e e']
          exact (hm.obj k).grow hg fun y hy hd => hw y fun e3 => e' (hm.inj k g b (by rw [← e3]; exact hy) hι hd (by rw [e2]; simp))
    · intro k k' y q1 q2 q3 q4
      by_cases e : k = t <;> by_cases e' : k' = t
      · rw [e, e']
      · subst e
        rw [hc2t] at q1; cases q1
        obtain ⟨p1, p2⟩ := hold k' q4 e'
        rw [hc2 k' e'] at q2
        exact absurd (hm.inj k' g b q2 hι p1 (by rw [e2]; simp)) p2
      · subst e'
        rw [hc2t] at q2; cases q2
        obtain ⟨p1, p2⟩ := hold k q3 e
        rw [hc2 k e] at q1
        exact absurd (hm.inj k g b q1 hι p1 (by rw [e2]; simp)) p2
      · rw [hc2 k e] at q1; rw [hc2 k' e'] at q2
        exact hm.inj k k' y q1 q2 (hold k q3 e).1 (hold k' q4 e').1
    · intro k y q1 q2
      rw [hps]
      by_cases e : k = t
      · subst e; rw [hc2t] at q1; cases q1; exact hmine
      · rw [hc2 k e] at q1; exact hm.mine k y q1 (hold k q2 e).1
    · exact hM.stable hm.glob (fun y hy => hw y fun e => hmine.2.2 (e ▸ hy)) (by omega)
    · intro y hy hO; rw [hw y (by omega)]; exact hm.keep y hy hO
  refine ⟨c2, hmm, hg, .ref _ _ _ _ _ (by show _ ≤ (L2 t).1; rw [h2t]; exact Nat.le_refl _) fun sz' els' l' h => ?_⟩
  have h' : L2.get t (L.new t) = .arr sz' els' l' := h
  unfold Loc.get at h'
  rw [h2t] at h'
  simp at h'
  obtain ⟨rfl, rfl, rfl⟩ := h'
  refine ⟨by simp; omega, _, cap, rfl, by omega, ?_⟩
  by_cases hc : cap = 0
  · exact .inl hc
  · exact .inr ⟨b, _, T, fz, hc2t, by simp, hbb, by rw [hsz]; simpa using hcap⟩

/-- A place of nothing. -/
theorem none_row (hM : M.Ok) (hm : Mem M c N w0 O0 L G w) (t sz : Nat) (a : Option Addr) {wr : Wr} (hm' : Mem M c N w0 O0 (L.upd wr) G w) (hg' : Grow c L w c (L.upd wr) w) (ht : (L.upd wr t).1 < L.new t) :
    Did M c N w0 O0 L G w { v := .ref t (L.new t) 0 0, wr := wr ++ [(t, (L.new t, .arr sz [] true))] } (.slice a 0 0) w := by
  let L1 := L.upd wr
  let L2 := L1.set t (L.new t, .arr sz [] true)
  have h2t : L2 t = (L.new t, .arr sz [] true) := Loc.set_same _ _ _
  have h2 : ∀ k, k ≠ t → L2 k = L1 k := fun k e => Loc.set_ne _ _ e
  let c2 : Ctx := c.at t none
  have hc2t : c2.ι t = none := by simp [c2, Ctx.at]
  have hc2 : ∀ k, k ≠ t → c2.ι k = c.ι k := fun k e => by simp [c2, Ctx.at, e]
  have hg : Grow c L1 w c2 L2 w := by
    refine ⟨Nat.le_refl _, fun _ _ _ => rfl, ?_, fun _ _ h => h, fun _ y _ fz h _ => ⟨y, fz, h, rfl⟩, ?_, ?_⟩
    · rintro k _ (hO | ⟨g', q1, q2⟩)
      · exact .inl hO
      · by_cases e : g' = t
        · subst e; rw [hc2t] at q1; cases q1
        · rw [h2 g' e] at q2; exact .inr ⟨g', by rw [← hc2 g' e]; exact q1, q2⟩
    · intro k
      by_cases e : k = t
      · subst e; rw [h2t]; exact Nat.le_of_lt ht
      · rw [h2 k e]; exact Nat.le_refl _
    · intro k hk
      by_cases e : k = t
      · subst e; rw [h2t] at hk; have : (L1 k).1 < L.new k := ht; simp at hk; omega
      · rw [h2 k e, hc2 k e]; exact .inr ⟨rfl, Compat.refl _⟩
  refine ⟨c2, ?_, ?_, ?_⟩
  · rw [Loc.upd_append]
    refine ⟨?_, ?_, ?_, hm'.glob, hm'.size, hm'.size0, hm'.os, hm'.tape, hm'.output, hm'.keep, hm'.osub⟩
    · intro k
      by_cases e : k = t
      · subst e; rw [hc2t]; show ObjOk c2 L2 w N none (L2 k).2; rw [h2t]; rfl
      · rw [hc2 k e]; show ObjOk c2 L2 w N (c.ι k) (L2 k).2; rw [h2 k e]; exact (hm'.obj k).grow hg fun _ _ _ => rfl
    · intro k k' y q1 q2 q3 q4
      by_cases e : k = t
      · subst e; rw [hc2t] at q1; cases q1
      · by_cases e' : k' = t
        · subst e'; rw [hc2t] at q2; cases q2
        · rw [hc2 k e] at q1; rw [hc2 k' e'] at q2
          have q3' : (L2 k).2 ≠ .dead := q3
          have q4' : (L2 k').2 ≠ .dead := q4
          rw [h2 k e] at q3'; rw [h2 k' e'] at q4'
          exact hm'.inj k k' y q1 q2 q3' q4'
    · intro k y q1 q2
      by_cases e : k = t
      · subst e; rw [hc2t] at q1; cases q1
      · rw [hc2 k e] at q1
        have q2' : (L2 k).2 ≠ .dead := q2
        rw [h2 k e] at q2'
        exact hm'.mine k y q1 q2'
  · rw [Loc.upd_append]; exact hg'.trans hg
  · rw [Loc.upd_append]
    refine .ref _ _ _ _ _ (by show _ ≤ (L2 t).1; rw [h2t]; exact Nat.le_refl _) fun sz' els' l' h => ?_
    have h' : L2.get t (L.new t) = .arr sz' els' l' := h
    unfold Loc.get at h'
    rw [h2t] at h'
    simp at h'
    obtain ⟨rfl, rfl, rfl⟩ := h'
    exact ⟨by simp, a, 0, rfl, Nat.le_refl _, .inl rfl⟩

end
end Wf
