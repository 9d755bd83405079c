/-
  What operations do: a store, whole; places.
-/
import Derived.Test.YtpdhbdacbiamdaaWfI
set_option linter.unusedVariables false
set_option linter.unusedSimpArgs false
set_option linter.unnecessarySimpa false
namespace Wf
open Go Go.RowKit

section
variable {M : GM} {c : Ctx} {N : Nat} {w0 : World} {O0 : Nat → Prop} {L Lr : Loc} {G : M.S} {w : World}

theorem Mem.box (hm : Mem M c N w0 O0 L G w) {g l : Nat} {a : Bool} {ds : List D} (hL : L.get g l = .box a ds) :
    ∃ (b : Nat) (x : Array Value) (T : TypeId) (fz : Nat × Nat), c.ι g = some b ∧ w.heap[b]? = some (.cells x T fz) ∧ Unfrozen w b x.size ∧ x.size = ds.length := by
  obtain ⟨b, x, T, fz, h1, h2, h3, h4, _⟩ := hm.get hL (by simp)
  exact ⟨b, x, T, fz, h1, h2, h3, h4⟩

theorem storeAt_run {P : Program} {t : TypeId} {n b o : Nat} {T : TypeId} {fz : Nat × Nat} {x : Array Value} {v : Value} (hn : tySize P t = some n) (hb : w.heap[b]? = some (.cells x T fz))
    (hv : v.cells.size = n) (hs : o + n ≤ x.size) (hf : Unfrozen w b x.size) (h1 : ∀ (i : Nat) (u : Value), v.cells[i]? = some u → u.oneCell' = true) :
    (Instr.storeAt t (.pointer (some ⟨b, o, none⟩)) v).run P w = .ok () (put w b (splice x o v.cells.toList) T fz) := by
  simp only [Instr.storeAt, Instr.sureAddr, Sem.run_bind, Sem.run_pure, Result.andThen_ok]
  exact run_storeVar hn hb hv hs (fun j _ hj => hf j (by omega)) h1

theorem reps_agg {w : World} {A N γ} {cs : List D} {vs : Array Value} (h : Rep w A N γ (.agg cs) (.agg vs)) : Reps w A N γ cs vs.toList ∧ ∀ v ∈ vs.toList, v.oneCell' = true := by
  cases h with
  | agg _ _ h1 h2 h3 =>
    refine ⟨⟨by simpa using h1, fun i d v hd hv => h2 i d v hd (by simpa using hv)⟩, fun v hv => ?_⟩
    obtain ⟨i, hi, rfl⟩ := List.mem_iff_getElem.1 hv
    exact h3 i _ (by simp)

theorem reps_one {w : World} {A N γ} {d : D} {v : Value} (h : Rep w A N γ d v) : Reps w A N γ [d] [v] := Reps.cons h Reps.nil

theorem storeH_ok {P : Program} (hM : M.Ok) (hm : Mem M c N w0 O0 L G w) {t : TypeId} {n k off : Nat} {xs : List D} {vs : List Value} {G' : M.S} {u v : Value} (hn : tySize P t = some n)
    (hst : M.store G k off xs = some G') (hu : Val c L w N (.d (.h k off)) u) (hvc : v.cells.toList = vs) (hvl : vs.length = n) (hr : Reps w (own c L) N c.γ xs vs) (hfl : ∀ d ∈ xs, d.flat = true) :
    ∃ w', (Instr.storeAt t u v).run P w = .ok () w' ∧ Did M c N w0 O0 L G w { v := .d (.tup []), gs := some G' } undef w' := by
  have hfl' : ∀ N, Reps w c.O N c.γ xs vs := fun N' => ⟨hr.1, fun i d v hd hv => ((hr.2 i d v hd hv).of_flat (hfl d (List.mem_of_getElem? hd)) _ _).1⟩
  have h1 : ∀ v ∈ vs, v.oneCell' = true := by
    intro v hv
    obtain ⟨i, hi, rfl⟩ := List.mem_iff_getElem.1 hv
    have hd : xs[i]? = some (xs[i]'(by rw [← hr.1]; exact hi)) := by simp
    exact ((hr.2 i _ _ hd (by simp)).of_flat (hfl _ (List.mem_of_getElem? hd)) (fun _ => False) 0).2
  have hr0 := hu.dat
  cases hr0 with
  | h _ _ b o hk =>
    -- the block
    obtain ⟨b', o', hk', hO, hcell, _⟩ := hM.store (w' := w) hm.glob hst hfl' h1
    rw [hk] at hk'; cases hk'
    have hxl : xs.length = n := by rw [← hr.1]; exact hvl
    by_cases hn0 : n = 0
    · -- nothing is stored
      subst hn0
      have hxs : xs = [] := List.eq_nil_of_length_eq_zero hxl
      have hvs : vs = [] := List.eq_nil_of_length_eq_zero hvl
      have hrun : (Instr.storeAt t (.pointer (some ⟨b, o + off, none⟩)) v).run P w = .ok () w := by
        have : v.cells.size = 0 := by have := congrArg List.length hvc; simpa [hvs] using this
        simp [Instr.storeAt, Instr.sureAddr, storeVar, ty_size hn, this]
        have e : v.cells.toList = [] := by rw [hvc, hvs]
        simp [e, storeCells]
      refine ⟨w, hrun, c, { hm with glob := ?_ }, Grow.refl .., undef_val⟩
      obtain ⟨_, _, _, _, _, hfin⟩ := hM.store (w' := w) hm.glob hst hfl' h1
      exact hfin (fun _ _ => rfl) rfl (by simp [hvs]) (fun _ _ => rfl) (fun _ => rfl) (fun x T fz h => ⟨x, h, rfl⟩)
    · have hc0 := (hcell 0 (by omega)).1
      obtain ⟨z, hz⟩ := Option.isSome_iff_exists.1 hc0
      have hblk : ∃ x T fz, w.heap[b]? = some (.cells x T fz) := by
        unfold World.cell? at hz
        split at hz
        · rename_i x T fz hb; exact ⟨x, T, fz, hb⟩
        · cases hz
      obtain ⟨x, T, fz, hb⟩ := hblk
      have hle : o + off + n ≤ x.size := by
        have := (hcell (n - 1) (by omega)).1
        obtain ⟨z, hz⟩ := Option.isSome_iff_exists.1 this
        simp [World.cell?, hb] at hz
        obtain ⟨h, _⟩ := Array.getElem?_eq_some_iff.1 hz
        omega
      have hrun : (Instr.storeAt t (.pointer (some ⟨b, o + off, none⟩)) v).run P w = .ok () (put w b (splice x (o + off) vs) T fz) := by
        simp only [Instr.storeAt, Instr.sureAddr, Sem.run_bind, Sem.run_pure, Result.andThen_ok]
        rw [← hvc]
        exact run_storeVar hn hb (by have := congrArg List.length hvc; simp at this; omega) hle
          (fun j hj hj' => by have := (hcell (j - (o + off)) (by omega)).2; rwa [show o + off + (j - (o + off)) = j by omega] at this)
          (fun i u hu => h1 u (by rw [← hvc]; exact List.mem_of_getElem? (by simpa using hu)))
      have hsz : (splice x (o + off) vs).size = x.size := splice_size (by omega)
      have hw : ∀ k, k ≠ b → (put w b (splice x (o + off) vs) T fz).heap[k]? = w.heap[k]? := fun k hk => by rw [put_heap (lt_of_heap hb)]; simp [hk]
      have hbb : (put w b (splice x (o + off) vs) T fz).heap[b]? = some (.cells (splice x (o + off) vs) T fz) := by rw [put_heap (lt_of_heap hb)]; simp
      have hg : Grow c L w c L (put w b (splice x (o + off) vs) T fz) := by
        refine ⟨by simp [put], fun k hk _ => hw k fun e => hk (.inl (e ▸ hO)), fun _ _ h => h, fun _ _ h => h, ?_, fun _ => Nat.le_refl _, fun _ _ => .inr ⟨rfl, Compat.refl _⟩⟩
        intro k y T' fz' hy _
        by_cases e : k = b
        · subst e; rw [hb] at hy; cases hy; exact ⟨_, _, hbb, hsz⟩
        · exact ⟨y, fz', by rw [hw k e]; exact hy, rfl⟩
      obtain ⟨_, _, hk3, _, _, hfin⟩ := hM.store (w' := put w b (splice x (o + off) vs) T fz) hm.glob hst hfl' h1
      rw [hk] at hk3; cases hk3
      have hglob := hfin hw (by simp [put])
        (fun i v hv => by
          have hi : i < vs.length := by
            rcases Nat.lt_or_ge i vs.length with h | h
            · exact h
            · rw [List.getElem?_eq_none h] at hv; cases hv
          rw [put_cell hb, splice_at (by omega), if_pos (by omega), show o + off + i - (o + off) = i by omega]; exact hv)
        (fun j hj => by
          rw [put_cell hb, splice_at (by omega), if_neg]
          · simp [World.cell?, hb]
          · rintro ⟨a1, a2⟩; exact hj (j - (o + off)) (by omega) (by omega))
        (fun j => frozen_put hb j)
        (fun y T' fz' hy => by rw [hb] at hy; cases hy; exact ⟨_, hbb, hsz⟩)
      refine ⟨_, hrun, c, ⟨fun g => ?_, hm.inj, fun g y h1 h2 => ?_, hglob, by simp [put]; exact hm.size, hm.size0, hm.os, hm.tape, hm.output, fun y hy hO' => ?_, fun y hy => by simp [put]; exact hm.osub y hy⟩, hg, undef_val⟩
      · exact (hm.obj g).grow hg fun y hy hd => hw y fun e => (hm.mine g y hy hd).2.2 (e ▸ hO)
      · simp [put]; exact hm.mine g y h1 h2
      · by_cases e : y = b
        · subst e
          rcases (hm.osub _ hO).2 with h | h
          · exact absurd h hO'
          · omega
        · rw [hw y e]; exact hm.keep y hy hO'

end
end Wf
