/-
  What operations do: stores.
-/
import Derived.Test.YtpdhbdacbiamdaaWfH
set_option linter.unusedVariables false
set_option linter.unusedSimpArgs false
set_option linter.unnecessarySimpa false
namespace Wf
open Go Go.RowKit

theorem Rep.of_flat {w : World} {A N γ} {d : D} {v : Value} (h : Rep w A N γ d v) (hf : d.flat = true) (A' : Nat → Prop) (N' : Nat) : Rep w A' N' γ d v ∧ v.oneCell' = true := by
  cases d <;> simp [D.flat] at hf <;> cases h
  case bool => exact ⟨.bool _, rfl⟩
  case int => exact ⟨.int _ _, rfl⟩
  case str => exact ⟨.str _, rfl⟩
  case nilp => exact ⟨.nilp, rfl⟩
  case nilfn => exact ⟨.nilfn, rfl⟩
  case h => rename_i hγ; exact ⟨.h _ _ _ _ hγ, rfl⟩
  case sl.slE t a cap hc =>
    cases t <;> simp at hf
    exact ⟨.slE _ _ _ (by simp), rfl⟩
  case sl.sl t l _ _ _ cap vs h1 h2 h3 h4 h5 h6 h7 h8 =>
    cases t <;> cases l <;> simp_all

theorem put_cell {w : World} {b : Nat} {x y : Array Value} {T fz} (hb : w.heap[b]? = some (.cells x T fz)) (j : Nat) : (put w b y T fz).cell? ⟨b, j, none⟩ = y[j]? := by
  simp [World.cell?, put_heap (lt_of_heap hb)]

theorem put_cell_ne {w : World} {b k : Nat} {x y : Array Value} {T fz} (hb : w.heap[b]? = some (.cells x T fz)) (h : k ≠ b) (j : Nat) : (put w b y T fz).cell? ⟨k, j, none⟩ = w.cell? ⟨k, j, none⟩ := by
  simp [World.cell?, put_heap (lt_of_heap hb), h]

theorem undef_val {c : Ctx} {L : Loc} {w : World} {N : Nat} : Val c L w N (.d (.tup [])) undef := .d _ _ (.tup [] #[] rfl (by simp))

theorem list_splice {α : Type} {ds xs : List α} {off : Nat} (h : off + xs.length ≤ ds.length) (i : Nat) :
    (ds.take off ++ xs ++ ds.drop (off + xs.length))[i]? = if off ≤ i ∧ i < off + xs.length then xs[i - off]? else ds[i]? := by
  have hk : (ds.take off).length = off := by simp; omega
  rw [List.append_assoc]
  split
  · rename_i hj
    rw [List.getElem?_append_right (by omega), hk, List.getElem?_append_left (by omega)]
  · rename_i hj
    by_cases h1 : i < off
    · rw [List.getElem?_append_left (by omega), List.getElem?_take, if_pos h1]
    · rw [List.getElem?_append_right (by omega), hk, List.getElem?_append_right (by omega), List.getElem?_drop, show off + xs.length + (i - off - xs.length) = i by omega]

theorem set_splice {α : Type} {ds : List α} {x : α} {off : Nat} (h : off < ds.length) : ds.set off x = ds.take off ++ [x] ++ ds.drop (off + 1) := by
  apply List.ext_getElem?
  intro i
  have := list_splice (ds := ds) (xs := [x]) (off := off) (by simp; omega) i
  simp only [List.length_singleton] at this
  rw [this, List.getElem?_set]
  by_cases e : off = i
  · subst e; simp [h]
  · rw [if_neg e, if_neg (by omega)]

section
variable {M : GM} {c : Ctx} {N : Nat} {w0 : World} {O0 : Nat → Prop} {L Lr : Loc} {G : M.S} {w : World}

/-- Into a box. -/
theorem write_box (hM : M.Ok) (hm : Mem M c N w0 O0 L G w) {g l : Nat} {a : Bool} {ds xs : List D} {off b : Nat} {x : Array Value} {T : TypeId} {fz : Nat × Nat} {vs : List Value}
    (hL : L.get g l = .box a ds) (hι : c.ι g = some b) (hb : w.heap[b]? = some (.cells x T fz)) (hr : Reps w (own c L) N c.γ xs vs) (h1 : ∀ v ∈ vs, v.oneCell' = true) (ho : off + xs.length ≤ ds.length) :
    Did M c N w0 O0 L G w { v := .d (.tup []), wr := [(g, (l, .box a (ds.take off ++ xs ++ ds.drop (off + xs.length))))] } undef (put w b (splice x off vs) T fz) := by
  obtain ⟨e1, e2⟩ := get_at hL (by simp)
  obtain ⟨b', x', T', fz', g1, g2, g3, g4, g5⟩ := hm.get hL (by simp)
  rw [hι] at g1; cases g1
  rw [hb] at g2; cases g2
  have hvl := hr.1
  have hsz : (splice x off vs).size = x.size := splice_size (by omega)
  have hw : ∀ k, k ≠ b → (put w b (splice x off vs) T fz).heap[k]? = w.heap[k]? := fun k hk => by rw [put_heap (lt_of_heap hb)]; simp [hk]
  have hbb : (put w b (splice x off vs) T fz).heap[b]? = some (.cells (splice x off vs) T fz) := by rw [put_heap (lt_of_heap hb)]; simp
  have hlen : (ds.take off ++ xs ++ ds.drop (off + xs.length)).length = ds.length := by simp; omega
  have hz : ∀ y T' fz', w.heap[b]? = some (.cells y T' fz') → ∃ y' fz'', (put w b (splice x off vs) T fz).heap[b]? = some (.cells y' T' fz'') ∧ y'.size = y.size := by
    intro y T' fz' hy; rw [hb] at hy; cases hy; exact ⟨_, _, hbb, hsz⟩
  have hg := Grow.write hm (x := .box a (ds.take off ++ xs ++ ds.drop (off + xs.length))) hι (by rw [e2]; rfl) (by rw [e2]; exact hlen) (by simp [put]) hw hz
  have hmm := Mem.write hM hm (x := .box a (ds.take off ++ xs ++ ds.drop (off + xs.length))) hι (by rw [e2]; rfl) (by rw [e2]; exact hlen) (by simp [put]) hw hz rfl rfl rfl
    ⟨b, _, T, fz, rfl, hbb, fun i hi => by rw [frozen_put hb]; exact g3 i (by omega), by rw [hsz, hlen]; exact g4, by
      intro i d u hd hu
      rw [list_splice ho] at hd
      rw [splice_at (by omega)] at hu
      rw [hvl] at hu
      split at hd
      · rename_i hi
        rw [if_pos hi] at hu
        exact ⟨(hr.2 _ _ _ hd hu).grow hg, h1 u (List.mem_of_getElem? hu)⟩
      · rename_i hi
        rw [if_neg hi] at hu
        exact ⟨((g5 i d u hd hu).1).grow hg, (g5 i d u hd hu).2⟩⟩
  rw [e1] at hg hmm
  exact ⟨c, hmm, hg, undef_val⟩

/-- Into a place of one cell. -/
theorem write_one (hM : M.Ok) (hm : Mem M c N w0 O0 L G w) {g l : Nat} {y z : HObj} {b : Nat} {u v : Value} {T : TypeId} {fz : Nat × Nat}
    (hL : L.get g l = y) (hy : y.live = true) (hι : c.ι g = some b) (hb : w.heap[b]? = some (.cells #[u] T fz)) (hf : Unfrozen w b 1) (h1 : v.oneCell' = true) (hz : Compat y z)
    (hv : (∃ x, z = .box false [x] ∧ Rep w (own c L) N c.γ x v) ∨ (∃ q, z = .vbox q ∧ Val c L w N q v)) :
    Did M c N w0 O0 L G w { v := .d (.tup []), wr := [(g, (l, z))] } undef (put w b (splice #[u] 0 [v]) T fz) := by
  have hyd : y ≠ .dead := by rintro rfl; cases hy
  obtain ⟨e1, e2⟩ := get_at hL hyd
  have hw : ∀ k, k ≠ b → (put w b (splice #[u] 0 [v]) T fz).heap[k]? = w.heap[k]? := fun k hk => by rw [put_heap (lt_of_heap hb)]; simp [hk]
  have hbb : (put w b (splice #[u] 0 [v]) T fz).heap[b]? = some (.cells (splice #[u] 0 [v]) T fz) := by rw [put_heap (lt_of_heap hb)]; simp
  have hsp : splice #[u] 0 [v] = #[v] := by simp [splice]
  have hzz : ∀ y T' fz', w.heap[b]? = some (.cells y T' fz') → ∃ y' fz'', (put w b (splice #[u] 0 [v]) T fz).heap[b]? = some (.cells y' T' fz'') ∧ y'.size = y.size := by
    intro y T' fz' hy; rw [hb] at hy; cases hy; exact ⟨_, _, hbb, by rw [hsp]; rfl⟩
  have hg := Grow.write hm (x := z) hι (by rw [e2]; exact hy) (by rw [e2]; exact hz) (by simp [put]) hw hzz
  have hfz : Unfrozen (put w b (splice #[u] 0 [v]) T fz) b 1 := fun i hi => by rw [frozen_put hb]; exact hf i hi
  have hmm := Mem.write hM hm (x := z) hι (by rw [e2]; exact hy) (by rw [e2]; exact hz) (by simp [put]) hw hzz rfl rfl rfl (by
    rcases hv with ⟨x, rfl, hx⟩ | ⟨q, rfl, hq⟩
    · refine ⟨b, #[v], T, fz, rfl, by rw [← hsp]; exact hbb, by simpa using hfz, rfl, ?_⟩
      intro i d w' hd hw'
      cases i with
      | zero => simp at hd hw'; subst hd; subst hw'; exact ⟨hx.grow hg, h1⟩
      | succ i => simp at hd
    · exact ⟨b, v, T, fz, rfl, by rw [← hsp]; exact hbb, hfz, h1, hq.grow hg⟩)
  rw [e1] at hg hmm
  exact ⟨c, hmm, hg, undef_val⟩

/-- Into an element of a row. -/
theorem write_elt (hM : M.Ok) (hm : Mem M c N w0 O0 L G w) {g l i off sz : Nat} {els : List D} {e e' : D} {b : Nat} {x : Array Value} {T : TypeId} {fz : Nat × Nat} {vs : List Value}
    (hL : L.get g l = .arr sz els true) (hι : c.ι g = some b) (hb : w.heap[b]? = some (.cells x T fz)) (he : els[i]? = some e) (ho : off + vs.length ≤ sz)
    (hv : ∀ v, Rep w (own c L) N c.γ e v → v.cells.size = sz → ∃ v', Rep w (own c L) N c.γ e' v' ∧ v'.cells.size = sz ∧
      ∀ (q : Nat) (u : Value), v'.cells[q]? = some u → if off ≤ q ∧ q < off + vs.length then vs[q - off]? = some u else v.cells[q]? = some u) :
    Did M c N w0 O0 L G w { v := .d (.tup []), wr := [(g, (l, .arr sz (els.set i e') true))] } undef (put w b (splice x (i * sz + off) vs) T fz) := by
  obtain ⟨e1, e2⟩ := get_at hL (by simp)
  have hob := hm.get hL (by simp)
  rw [hι] at hob
  obtain ⟨x', T', fz', g2, g3, g4, us, g5⟩ := hob
  rw [hb] at g2; cases g2
  have hi : i < els.length := by
    rcases Nat.lt_or_ge i els.length with h | h
    · exact h
    · rw [List.getElem?_eq_none h] at he; cases he
  have hlt : i * sz + sz ≤ x.size := by
    have : (i + 1) * sz ≤ els.length * sz := Nat.mul_le_mul_right _ hi
    rw [Nat.succ_mul] at this; omega
  obtain ⟨r1, r2, r3⟩ := g5 i e he
  obtain ⟨v', k1, k2, k3⟩ := hv _ r1 r2
  have hsz : (splice x (i * sz + off) vs).size = x.size := splice_size (by omega)
  have hw : ∀ k, k ≠ b → (put w b (splice x (i * sz + off) vs) T fz).heap[k]? = w.heap[k]? := fun k hk => by rw [put_heap (lt_of_heap hb)]; simp [hk]
  have hbb : (put w b (splice x (i * sz + off) vs) T fz).heap[b]? = some (.cells (splice x (i * sz + off) vs) T fz) := by rw [put_heap (lt_of_heap hb)]; simp
  have hz : ∀ y T' fz', w.heap[b]? = some (.cells y T' fz') → ∃ y' fz'', (put w b (splice x (i * sz + off) vs) T fz).heap[b]? = some (.cells y' T' fz'') ∧ y'.size = y.size := by
    intro y T' fz' hy; rw [hb] at hy; cases hy; exact ⟨_, _, hbb, hsz⟩
  have hcp : Compat (L g).2 (.arr sz (els.set i e') true) := by rw [e2]; exact ⟨rfl, by simp⟩
  have hg := Grow.write hm (x := .arr sz (els.set i e') true) hι (by rw [e2]; rfl) hcp (by simp [put]) hw hz
  have hmm := Mem.write hM hm (x := .arr sz (els.set i e') true) hι (by rw [e2]; rfl) hcp (by simp [put]) hw hz rfl rfl rfl
    ⟨_, T, fz, hbb, fun k hk => by rw [frozen_put hb]; exact g3 k (by omega), by rw [hsz]; simpa using g4, fun k => if k = i then v' else us k, by
      intro k d hd
      by_cases ek : k = i
      · subst ek
        rw [List.getElem?_set, if_pos rfl, if_pos hi] at hd
        cases hd
        simp only [if_true]
        refine ⟨k1.grow hg, k2, fun q u hu => ?_⟩
        rw [put_cell hb, splice_at (by omega)]
        have hq : q < sz := by
          rcases Nat.lt_or_ge q v'.cells.size with h | h
          · omega
          · rw [Array.getElem?_eq_none h] at hu; cases hu
        have := k3 q u hu
        by_cases hc : off ≤ q ∧ q < off + vs.length
        · rw [if_pos hc] at this
          rw [if_pos (by omega), show k * sz + q - (k * sz + off) = q - off by omega]; exact this
        · rw [if_neg hc] at this
          rw [if_neg (by omega)]
          have := r3 q u this
          simpa [World.cell?, hb] using this
      · rw [List.getElem?_set, if_neg (Ne.symm ek)] at hd
        obtain ⟨p1, p2, p3⟩ := g5 k d hd
        simp only [ek, if_false]
        refine ⟨p1.grow hg, p2, fun q u hu => ?_⟩
        have hq : q < sz := by
          rcases Nat.lt_or_ge q (us k).cells.size with h | h
          · omega
          · rw [Array.getElem?_eq_none h] at hu; cases hu
        rw [put_cell hb, splice_at (by omega), if_neg]
        · have := p3 q u hu
          simpa [World.cell?, hb] using this
        · rcases Nat.lt_or_gt_of_ne ek with h | h
          · have : (k + 1) * sz ≤ i * sz := Nat.mul_le_mul_right _ h
            rw [Nat.succ_mul] at this; omega
          · have : (i + 1) * sz ≤ k * sz := Nat.mul_le_mul_right _ h
            rw [Nat.succ_mul] at this; omega⟩
  rw [e1] at hg hmm
  exact ⟨c, hmm, hg, undef_val⟩

/-- What is referred to is written no more. -/
theorem toD_ok (hm : Mem M c N w0 O0 L G w) (hs : Sees Lr L) {v : V} {u : Value} {x : D} {wr : Wr} (ht : toD Lr v = some (x, wr)) (hv : Val c L w N v u) :
    Mem M c N w0 O0 (L.upd wr) G w ∧ Grow c L w c (L.upd wr) w ∧ Rep w (own c (L.upd wr)) N c.γ x u := by
  cases v with
  | d y =>
    simp [toD] at ht
    obtain ⟨rfl, rfl⟩ := ht
    exact ⟨hm, Grow.refl .., hv.dat⟩
  | ref g n off len =>
    simp only [toD] at ht
    cases hx : Lr.get g n with
    | arr sz els lv =>
      rw [hx] at ht
      dsimp only at ht
      split at ht
      · rename_i hle
        simp at ht
        obtain ⟨rfl, rfl⟩ := ht
        have hL := hs g n (by rw [hx]; simp)
        rw [hx] at hL
        obtain ⟨e1, e2⟩ := get_at hL (by simp)
        have hl := Mem.less hm g (.arr sz els false) (.inr ⟨sz, els, lv, e2, rfl⟩)
        have hg := Grow.less hm g (.arr sz els false) (.inr ⟨sz, els, lv, e2, rfl⟩)
        rw [e1] at hl hg
        refine ⟨hl, hg, ?_⟩
        cases hv with
        | ref _ _ _ _ _ k1 k2 =>
          obtain ⟨_, a, cap, rfl, h4, h5⟩ := k2 _ _ _ hL
          have hlen : ((els.drop off).take len).length = len := by simp; omega
          by_cases h0 : len = 0
          · subst h0
            simpa using Rep.slE (w := w) (A := own c (L.upd [(g, (n, .arr sz els false))])) (N := N) (γ := c.γ) .fresh a cap (by simp)
          · rcases h5 with h5 | ⟨b, y, T, fz, q1, rfl, q3, q4⟩
            · omega
            · have hob := hm.get hL (by simp)
              rw [q1] at hob
              obtain ⟨x', T', fz', g2, g3, g4, us, g5⟩ := hob
              have hmine := hm.mine g b q1 (by rw [e2]; simp)
              have hno : ¬ own c (L.upd [(g, (n, .arr sz els false))]) b := by
                rintro (ho | ⟨k, h6, h7⟩)
                · exact hmine.2.2 ho
                · by_cases ek : k = g
                  · subst ek; simp [Loc.upd, Loc.set_same, HObj.live] at h7
                  · simp only [Loc.upd, Loc.set_ne _ _ ek] at h7
                    exact ek (hm.inj k g b h6 q1 (by intro e; rw [e] at h7; cases h7) (by rw [e2]; simp))
              have hget : ∀ (i : Nat) (d : D), ((els.drop off).take len)[i]? = some d → els[off + i]? = some d := by
                intro i d hd
                rw [List.getElem?_take] at hd
                split at hd
                · rwa [List.getElem?_drop] at hd
                · cases hd
              have := Rep.sl (w := w) (A := own c (L.upd [(g, (n, .arr sz els false))])) (N := N) (γ := c.γ) .fresh ((els.drop off).take len) b (off * sz) sz cap (fun i => us (off + i))
                (by intro e; rw [e] at hlen; simp at hlen; omega) (by omega) (by simp) hno (fun _ => hmine.1) hmine.2.1
                (fun i d hd => ((g5 _ d (hget i d hd)).1).grow hg)
                (fun i hi => by
                  rw [hlen] at hi
                  obtain ⟨p1, p2, p3⟩ := g5 (off + i) (els[off + i]'(by omega)) (by simp)
                  refine ⟨p2, fun q u hu => ?_⟩
                  have := p3 q u hu
                  rwa [Nat.add_mul] at this)
              rw [hlen] at this
              exact this
      · cases ht
    | _ => rw [hx] at ht; cases ht
  | _ => cases ht

end
end Wf
