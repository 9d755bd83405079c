/-
  Steps of memory: a new block; writing into one's own.
-/
import Derived.Test.YtpdhbdacbiamdaaWfE
set_option linter.unusedVariables false
set_option linter.unusedSimpArgs false
set_option linter.unnecessarySimpa false
namespace Wf
open Go Go.RowKit

structure GM.Ok (M : GM) : Prop where
  stable : ∀ {G γ O} {w w' : World}, M.rel G γ O w → (∀ b, O b → w'.heap[b]? = w.heap[b]?) → w.heap.size ≤ w'.heap.size → M.rel G γ O w'
  load : ∀ {G γ O} {w : World} {k off n ds}, M.rel G γ O w → M.load G k off n = some ds → ds.length = n ∧ ∃ b o, γ k = some ⟨b, o, none⟩ ∧
    ∀ (i : Nat) (d : D), ds[i]? = some d → d.flat = true ∧ ∃ v, w.cell? ⟨b, o + off + i, none⟩ = some v ∧ v.oneCell' = true ∧ ∀ A N, Rep w A N γ d v
  store : ∀ {G G' γ O} {w w' : World} {k off ds} {vs : List Value}, M.rel G γ O w → M.store G k off ds = some G' → (∀ N, Reps w O N γ ds vs) → (∀ v ∈ vs, v.oneCell' = true) →
    ∃ b o, γ k = some ⟨b, o, none⟩ ∧ O b ∧ (∀ i, i < ds.length → (w.cell? ⟨b, o + off + i, none⟩).isSome = true ∧ w.frozen? ⟨b, o + off + i, none⟩ = false) ∧
      ((∀ x, x ≠ b → w'.heap[x]? = w.heap[x]?) → w'.heap.size = w.heap.size → (∀ i v, vs[i]? = some v → w'.cell? ⟨b, o + off + i, none⟩ = some v) →
        (∀ j, (∀ i, i < ds.length → j ≠ o + off + i) → w'.cell? ⟨b, j, none⟩ = w.cell? ⟨b, j, none⟩) → (∀ j, w'.frozen? ⟨b, j, none⟩ = w.frozen? ⟨b, j, none⟩) →
        (∀ x T fz, w.heap[b]? = some (.cells x T fz) → ∃ x', w'.heap[b]? = some (.cells x' T fz) ∧ x'.size = x.size) → M.rel G' γ O w')

def Ctx.at (c : Ctx) (t : Nat) (b : Option Nat) : Ctx := { c with ι := fun g => if g = t then b else c.ι g }

theorem Loc.set_same (L : Loc) (t x) : (L.set t x) t = x := by simp [Loc.set]
theorem Loc.set_ne (L : Loc) {t g} (x) (h : g ≠ t) : (L.set t x) g = L g := by simp [Loc.set, h]

theorem Unfrozen.of_heap {w w' : World} {b n} (h : Unfrozen w b n) (e : w'.heap[b]? = w.heap[b]?) : Unfrozen w' b n := fun i hi => by
  rw [World.frozen?_of_block (w := w) e]; exact h i hi

theorem ObjOk.grow {c L w c' L' w'} (h : Grow c L w c' L' w') {N : Nat} {β : Option Nat} {x : HObj} (ho : ObjOk c L w N β x)
    (hb : ∀ b, β = some b → x ≠ .dead → w'.heap[b]? = w.heap[b]?) : ObjOk c' L' w' N β x := by
  cases x with
  | dead => trivial
  | box ag ds =>
    obtain ⟨b, x, T, fz, h1, h2, h3, h4, h5⟩ := ho
    have e := hb b h1 (by simp)
    exact ⟨b, x, T, fz, h1, by rw [e]; exact h2, h3.of_heap e, h4, fun i d u hd hu => ⟨((h5 i d u hd hu).1).grow h, (h5 i d u hd hu).2⟩⟩
  | vbox v =>
    obtain ⟨b, u, T, fz, h1, h2, h3, h4, h5⟩ := ho
    have e := hb b h1 (by simp)
    exact ⟨b, u, T, fz, h1, by rw [e]; exact h2, h3.of_heap e, h4, h5.grow h⟩
  | arr sz els l =>
    cases β with
    | none => exact ho
    | some b =>
      obtain ⟨x, T, fz, h2, h3, h4, vs, h5⟩ := ho
      have e := hb b rfl (by simp)
      exact ⟨x, T, fz, by rw [e]; exact h2, h3.of_heap e, h4, vs, fun i d hd => ⟨((h5 i d hd).1).grow h, (h5 i d hd).2.1, (h5 i d hd).2.2.mono e⟩⟩
  | map kk es =>
    obtain ⟨b, m, k, h1, h2, h3, h4⟩ := ho
    have e := hb b h1 (by simp)
    exact ⟨b, m, k, h1, by rw [e]; exact h2, h3, fun i p q hp hq => ⟨(h4 i p q hp hq).1, ((h4 i p q hp hq).2).grow h⟩⟩

section
variable {M : GM} {c : Ctx} {N : Nat} {w0 w : World} {O0 : Nat → Prop} {L : Loc} {G : M.S}

/-- A new block for a place's next life; other places may end. -/
theorem Grow.alloc (h : Mem M c N w0 O0 L G w) (o : Obj) (t n : Nat) (x : HObj) (hn : (L t).1 < n) :
    Grow c L w (c.at t (some w.heap.size)) (L.set t (n, x)) (w.alloc o) := by
  refine ⟨by simp, fun b _ hb => Below.heap_alloc w o b hb, ?_, fun _ _ h => h, ?_, ?_, ?_⟩
  · rintro b hb (ho | ⟨g, h1, h2⟩)
    · exact .inl ho
    · by_cases hg : g = t
      · subst hg
        simp [Ctx.at] at h1; omega
      · simp only [Ctx.at, hg, if_false] at h1
        rw [Loc.set_ne _ _ hg] at h2
        exact .inr ⟨g, h1, h2⟩
  · intro b y T fz hb _
    refine ⟨y, fz, ?_, rfl⟩
    have hlt : b < w.heap.size := by
      rcases Nat.lt_or_ge b w.heap.size with h' | h'
      · exact h'
      · rw [Array.getElem?_eq_none h'] at hb; cases hb
    rw [Below.heap_alloc w o b hlt]; exact hb
  · intro g
    by_cases hg : g = t
    · subst hg; rw [Loc.set_same]; omega
    · rw [Loc.set_ne _ _ hg]; omega
  · intro g hg'
    by_cases hg : g = t
    · subst hg; rw [Loc.set_same] at hg'; dsimp at hg'; omega
    · rw [Loc.set_ne _ _ hg]; simp only [Ctx.at, hg, if_false]; exact .inr ⟨trivial, Compat.refl _⟩

theorem Mem.alloc (hM : M.Ok) (h : Mem M c N w0 O0 L G w) (o : Obj) (t n : Nat) (x : HObj) (hn : (L t).1 < n)
    (hx : ObjOk (c.at t (some w.heap.size)) (L.set t (n, x)) (w.alloc o) N (some w.heap.size) x) :
    Mem M (c.at t (some w.heap.size)) N w0 O0 (L.set t (n, x)) G (w.alloc o) := by
  have hg := Grow.alloc h o t n x hn
  have hold : ∀ b, b < w.heap.size → (w.alloc o).heap[b]? = w.heap[b]? := fun b hb => Below.heap_alloc w o b hb
  refine ⟨?_, ?_, ?_, ?_, ?_, h.size0, h.os, h.tape, h.output, ?_, ?_⟩
  · intro g
    by_cases e : g = t
    · subst e; rw [Loc.set_same]; simpa [Ctx.at] using hx
    · rw [Loc.set_ne _ _ e]; simp only [Ctx.at, e, if_false]
      exact (h.obj g).grow hg fun b hb hd => hold b (h.mine g b hb hd).2.1
  · intro g g' b h1 h2 h3 h4
    by_cases e : g = t <;> by_cases e' : g' = t
    · rw [e, e']
    · subst e
      simp only [Ctx.at, if_true, e', if_false] at h1 h2
      rw [Loc.set_ne _ _ e'] at h4
      have := (h.mine g' b h2 h4).2.1
      simp at h1; omega
    · subst e'
      simp only [Ctx.at, if_true, e, if_false] at h1 h2
      rw [Loc.set_ne _ _ e] at h3
      have := (h.mine g b h1 h3).2.1
      simp at h2; omega
    · simp only [Ctx.at, e, e', if_false] at h1 h2
      rw [Loc.set_ne _ _ e] at h3
      rw [Loc.set_ne _ _ e'] at h4
      exact h.inj g g' b h1 h2 h3 h4
  · intro g b h1 h2
    by_cases e : g = t
    · subst e
      simp only [Ctx.at, if_true] at h1
      have hs := h.size
      simp at h1
      refine ⟨by omega, by simp; omega, fun ho => ?_⟩
      have := (h.osub b ho).1; omega
    · simp only [Ctx.at, e, if_false] at h1
      rw [Loc.set_ne _ _ e] at h2
      obtain ⟨a1, a2, a3⟩ := h.mine g b h1 h2
      exact ⟨a1, by simp; omega, a3⟩
  · exact hM.stable h.glob (fun b hb => hold b (h.osub b hb).1) (by simp)
  · have := h.size; simp; omega
  · intro b hb hO; rw [hold b (by have := h.size; omega)]; exact h.keep b hb hO
  · intro b hb; obtain ⟨a1, a2⟩ := h.osub b hb; exact ⟨by simp; omega, a2⟩

/-- A place ends, or is written no more. -/
theorem Grow.less (h : Mem M c N w0 O0 L G w) (g : Nat) (x : HObj) (hx : x = .dead ∨ ∃ sz els l, (L g).2 = .arr sz els l ∧ x = .arr sz els false) :
    Grow c L w c (L.set g ((L g).1, x)) w := by
  refine ⟨Nat.le_refl _, fun _ _ _ => rfl, ?_, fun _ _ h => h, fun b y T fz hb _ => ⟨y, fz, hb, rfl⟩, ?_, ?_⟩
  · rintro b hb (ho | ⟨k, h1, h2⟩)
    · exact .inl ho
    · by_cases e : k = g
      · subst e; rw [Loc.set_same] at h2
        rcases hx with rfl | ⟨sz, els, l, _, rfl⟩ <;> simp [HObj.live] at h2
      · rw [Loc.set_ne _ _ e] at h2; exact .inr ⟨k, h1, h2⟩
  · intro k
    by_cases e : k = g
    · subst e; rw [Loc.set_same]; exact Nat.le_refl _
    · rw [Loc.set_ne _ _ e]; exact Nat.le_refl _
  · intro k _
    by_cases e : k = g
    · subst e; rw [Loc.set_same]
      rcases hx with rfl | ⟨sz, els, l, hl, rfl⟩
      · exact .inl rfl
      · exact .inr ⟨rfl, by rw [hl]; exact ⟨rfl, rfl⟩⟩
    · rw [Loc.set_ne _ _ e]; exact .inr ⟨rfl, Compat.refl _⟩

theorem Mem.less (h : Mem M c N w0 O0 L G w) (g : Nat) (x : HObj) (hx : x = .dead ∨ ∃ sz els l, (L g).2 = .arr sz els l ∧ x = .arr sz els false) :
    Mem M c N w0 O0 (L.set g ((L g).1, x)) G w := by
  have hg := Grow.less h g x hx
  have hnd : ∀ k, ((L.set g ((L g).1, x)) k).2 ≠ .dead → (L k).2 ≠ .dead := by
    intro k hk
    by_cases e : k = g
    · subst e; rw [Loc.set_same] at hk
      rcases hx with rfl | ⟨sz, els, l, hl, rfl⟩
      · exact absurd rfl hk
      · rw [hl]; simp
    · rw [Loc.set_ne _ _ e] at hk; exact hk
  refine ⟨?_, fun k k' b h1 h2 h3 h4 => h.inj k k' b h1 h2 (hnd k h3) (hnd k' h4), fun k b h1 h2 => h.mine k b h1 (hnd k h2), h.glob, h.size, h.size0, h.os, h.tape, h.output, h.keep, h.osub⟩
  intro k
  by_cases e : k = g
  · subst e; rw [Loc.set_same]
    rcases hx with rfl | ⟨sz, els, l, hl, rfl⟩
    · trivial
    · have h1 := h.obj k
      rw [hl] at h1
      exact ObjOk.grow (x := .arr sz els false) hg h1 fun _ _ _ => rfl
  · rw [Loc.set_ne _ _ e]; exact (h.obj k).grow hg fun _ _ _ => rfl

/-- A place's block is written. -/
theorem Grow.write (h : Mem M c N w0 O0 L G w) {w' : World} {g b : Nat} (x : HObj) (hb : c.ι g = some b) (hl : (L g).2.live = true) (hc : Compat (L g).2 x)
    (hs : w'.heap.size = w.heap.size) (ho : ∀ k, k ≠ b → w'.heap[k]? = w.heap[k]?)
    (hz : ∀ y T fz, w.heap[b]? = some (.cells y T fz) → ∃ y' fz', w'.heap[b]? = some (.cells y' T fz') ∧ y'.size = y.size) :
    Grow c L w c (L.set g ((L g).1, x)) w' := by
  refine ⟨by omega, ?_, ?_, fun _ _ h => h, ?_, ?_, ?_⟩
  · intro k hk _
    refine ho k fun e => hk (.inr ⟨g, ?_, hl⟩)
    rw [hb, e]
  · rintro k _ (hO | ⟨g', h1, h2⟩)
    · exact .inl hO
    · by_cases e : g' = g
      · subst e; exact .inr ⟨g', h1, hl⟩
      · rw [Loc.set_ne _ _ e] at h2; exact .inr ⟨g', h1, h2⟩
  · intro k y T fz hk _
    by_cases e : k = b
    · subst e; exact hz y T fz hk
    · exact ⟨y, fz, by rw [ho k e]; exact hk, rfl⟩
  · intro k
    by_cases e : k = g
    · subst e; rw [Loc.set_same]; exact Nat.le_refl _
    · rw [Loc.set_ne _ _ e]; exact Nat.le_refl _
  · intro k _
    by_cases e : k = g
    · subst e; rw [Loc.set_same]; exact .inr ⟨rfl, hc⟩
    · rw [Loc.set_ne _ _ e]; exact .inr ⟨rfl, Compat.refl _⟩

theorem Mem.write (hM : M.Ok) (h : Mem M c N w0 O0 L G w) {w' : World} {g b : Nat} (x : HObj) (hb : c.ι g = some b) (hl : (L g).2.live = true) (hc : Compat (L g).2 x)
    (hs : w'.heap.size = w.heap.size) (ho : ∀ k, k ≠ b → w'.heap[k]? = w.heap[k]?)
    (hz : ∀ y T fz, w.heap[b]? = some (.cells y T fz) → ∃ y' fz', w'.heap[b]? = some (.cells y' T fz') ∧ y'.size = y.size)
    (hos : w'.os = w.os) (htape : w'.tape = w.tape) (hout : w'.output = w.output)
    (hx : ObjOk c (L.set g ((L g).1, x)) w' N (some b) x) : Mem M c N w0 O0 (L.set g ((L g).1, x)) G w' := by
  have hg := Grow.write h x hb hl hc hs ho hz
  have hld : (L g).2 ≠ .dead := by intro e; rw [e] at hl; cases hl
  have hnd : ∀ k, ((L.set g ((L g).1, x)) k).2 ≠ .dead → (L k).2 ≠ .dead := by
    intro k hk
    by_cases e : k = g
    · subst e; exact hld
    · rw [Loc.set_ne _ _ e] at hk; exact hk
  have hmine := h.mine g b hb hld
  refine ⟨?_, fun k k' y h1 h2 h3 h4 => h.inj k k' y h1 h2 (hnd k h3) (hnd k' h4), fun k y h1 h2 => ?_, ?_, by rw [hs]; exact h.size, h.size0, by rw [hos]; exact h.os, by rw [htape]; exact h.tape, by rw [hout]; exact h.output, ?_, fun y hy => by rw [hs]; exact h.osub y hy⟩
  · intro k
    by_cases e : k = g
    · subst e; rw [Loc.set_same, hb]; exact hx
    · rw [Loc.set_ne _ _ e]
      refine (h.obj k).grow hg fun y hy hd => ho y fun e2 => e ?_
      subst e2
      exact h.inj k g _ hy hb hd hld
  · obtain ⟨a1, a2, a3⟩ := h.mine k y h1 (hnd k h2)
    exact ⟨a1, by omega, a3⟩
  · exact hM.stable h.glob (fun y hy => ho y fun e => hmine.2.2 (e ▸ hy)) (by omega)
  · intro y hy hO; rw [ho y (by omega)]; exact h.keep y hy hO

end
end Wf
