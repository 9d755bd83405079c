/-
  What operations do: boxes, maps.
-/
import Derived.Test.YtpdhbdacbiamdaaWfS
set_option linter.unusedVariables false
set_option linter.unusedSimpArgs false
set_option linter.unnecessarySimpa false
namespace Wf
open Go Go.RowKit

section
variable {M : GM} {c : Ctx} {N : Nat} {w0 : World} {O0 : Nat → Prop} {L Lr : Loc} {G : M.S} {w : World}

theorem heap_new (w : World) (o : Obj) : (w.alloc o).heap[w.heap.size]? = some o := by
  show (w.heap.push o)[w.heap.size]? = _
  simp

theorem new_box (hM : M.Ok) (hm : Mem M c N w0 O0 L G w) {t : Nat} {a : Bool} {ds : List D} {x : Array Value} {T : TypeId} (hx : CellsRep w (own c L) N c.γ ds x) :
    Did M c N w0 O0 L G w { v := .ptr t (L.new t) 0, wr := [(t, (L.new t, .box a ds))] } (.pointer (some ⟨w.heap.size, 0, none⟩)) (w.alloc (.cells x T)) := by
  have ht : (L t).1 < L.new t := by simp [Loc.new]
  have hg := Grow.alloc hm (.cells x T) t (L.new t) (.box a ds) ht
  refine ⟨c.at t (some w.heap.size), Mem.alloc hM hm (.cells x T) t (L.new t) (.box a ds) ht ?_, hg, ?_⟩
  · exact ⟨w.heap.size, x, T, (0, 0), rfl, heap_new w _, fun i _ => World.frozen?_alloc_new w x T i, hx.1, fun i d u hd hu => ⟨((hx.2 i d u hd hu).1).grow hg, (hx.2 i d u hd hu).2⟩⟩
  · exact .ptr _ _ _ _ (by simp [Loc.upd, Loc.set_same]) fun _ => ⟨w.heap.size, by simp [Ctx.at], rfl⟩

theorem new_vbox (hM : M.Ok) (hm : Mem M c N w0 O0 L G w) {t : Nat} {v : V} {u : Value} {T : TypeId} (hv : Val c L w N v u) (h1 : u.oneCell' = true) :
    Did M c N w0 O0 L G w { v := .ptr t (L.new t) 0, wr := [(t, (L.new t, .vbox v))] } (.pointer (some ⟨w.heap.size, 0, none⟩)) (w.alloc (.cells #[u] T)) := by
  have ht : (L t).1 < L.new t := by simp [Loc.new]
  have hg := Grow.alloc hm (.cells #[u] T) t (L.new t) (.vbox v) ht
  refine ⟨c.at t (some w.heap.size), Mem.alloc hM hm (.cells #[u] T) t (L.new t) (.vbox v) ht ?_, hg, ?_⟩
  · exact ⟨w.heap.size, u, T, (0, 0), rfl, heap_new w _, fun i _ => World.frozen?_alloc_new w #[u] T i, h1, hv.grow hg⟩
  · exact .ptr _ _ _ _ (by simp [Loc.upd, Loc.set_same]) fun _ => ⟨w.heap.size, by simp [Ctx.at], rfl⟩

theorem new_map (hM : M.Ok) (hm : Mem M c N w0 O0 L G w) {t : Nat} {k : IntKind} :
    Did M c N w0 O0 L G w { v := .map t (L.new t), wr := [(t, (L.new t, .map k []))] } (.map (some w.heap.size)) (w.alloc (.map #[] 0)) := by
  have ht : (L t).1 < L.new t := by simp [Loc.new]
  have hg := Grow.alloc hm (.map #[] 0) t (L.new t) (.map k []) ht
  refine ⟨c.at t (some w.heap.size), Mem.alloc hM hm (.map #[] 0) t (L.new t) (.map k []) ht ?_, hg, ?_⟩
  · exact ⟨w.heap.size, #[], 0, rfl, heap_new w _, rfl, by simp⟩
  · exact .map _ _ _ (by simp [Loc.upd, Loc.set_same]) fun _ => ⟨w.heap.size, by simp [Ctx.at], rfl⟩

-- keys
theorem ty_map {P : Program} {t : TypeId} {k : IntKind} {et : TypeId} (h : tyMap P t = some (k, et)) : ∃ kt, P.underlying t = some (.map kt et) ∧ P.underlying kt = some (.int k) := by
  unfold tyMap at h
  split at h
  · rename_i kt et' hu
    unfold tyInt at h
    split at h
    · rename_i k' hk
      simp at h; obtain ⟨rfl, rfl⟩ := h
      exact ⟨kt, hu, hk⟩
    · cases h
  · cases h

theorem findNow_spec {kk : IntKind} {n : Int} : ∀ (m : List MapEntry) (es : List (Int × D)) (i0 : Nat), m.length = es.length → (∀ (i : Nat) (e : MapEntry) (p : Int × D), m[i]? = some e → es[i]? = some p → e.key = .int kk p.1) →
    (∃ (j : Nat) (e : MapEntry) (x : D), Instr.findNow (.int kk) (.int kk n) m i0 = some (some (i0 + j, e.val)) ∧ m[j]? = some e ∧ es[j]? = some (n, x) ∧ findD n es = some x ∧ (∀ y, setD n y es = es.set j (n, y))) ∨
    (Instr.findNow (.int kk) (.int kk n) m i0 = some none ∧ findD n es = none ∧ ∀ y, setD n y es = es ++ [(n, y)])
  | [], [], _, _, _ => .inr ⟨rfl, rfl, fun _ => rfl⟩
  | [], _ :: _, _, h, _ => by simp at h
  | _ :: _, [], _, h, _ => by simp at h
  | e :: m, (a, x) :: es, i0, h, hk => by
    have hk0 := hk 0 e (a, x) (by simp) (by simp)
    by_cases hn : n = a
    · subst hn
      refine .inl ⟨0, e, x, ?_, by simp, by simp, by simp [findD], fun y => by simp [setD]⟩
      simp [Instr.findNow, hk0, Instr.sameNow]
    · have hne : (n == a) = false := by simpa using hn
      rcases findNow_spec m es (i0 + 1) (by simpa using h) (fun i e' p h1 h2 => hk (i + 1) e' p (by simpa using h1) (by simpa using h2)) with ⟨j, e', x', h1, h2, h3, h4, h5⟩ | ⟨h1, h2, h3⟩
      · refine .inl ⟨j + 1, e', x', ?_, by simpa using h2, by simpa using h3, by simp [findD, hn, h4], fun y => by simp [setD, hn, h5 y]⟩
        simp only [Instr.findNow, hk0, Instr.sameNow, if_true, hne]
        rw [h1]; congr 3; omega
      · refine .inr ⟨?_, by simp [findD, hn, h2], fun y => by simp [setD, hn, h3 y]⟩
        simp only [Instr.findNow, hk0, Instr.sameNow, if_true, hne]
        exact h1

theorem checkKey_int {P : Program} {kt : TypeId} {k : IntKind} (e : Bool) (f : Nat) (n : Int) (h : P.underlying kt = some (.int k)) : (Instr.checkKey e (f + 1) kt (.int k n)).run P w = .ok () w := by
  simp [Instr.checkKey, ty_und h]

theorem alookup_ok {P : Program} (hm : Mem M c N w0 O0 L G w) (hs : Sees Lr L) {t : TypeId} {m k v : V} {mu ku : Value} {ok : Bool} (ha : alookup P Lr t m k ok = some v) (hv : Val c L w N m mu) (hk : Val c L w N k ku) :
    ∃ u, (Instr.lookup t mu ku ok).run P w = .ok u w ∧ Val c L w N v u := by
  unfold alookup at ha
  split at ha
  rotate_left
  · cases ha
  rename_i kk et g l kk' n hty
  split at ha
  rotate_left
  · cases ha
  rename_i mk es z hy hz
  split at ha
  rotate_left
  · cases ha
  rename_i hc
  obtain ⟨rfl, rfl⟩ := hc
  have := hk.int; subst this
  have hL := hs g l (by rw [hy]; simp)
  rw [hy] at hL
  obtain ⟨b, me, ck, h1, h2, h3, h4⟩ := hm.get hL (by simp)
  obtain ⟨kt, t1, t2⟩ := ty_map hty
  obtain ⟨i, zv, z1, z2, z3⟩ := ty_zero hz
  have hzero : ∀ w, (zeroValue et).run P w = .ok zv w := fun w => by simp [zeroValue, typeInfo, z1, z2]
  cases hv with
  | map _ _ _ k1 k2 =>
  obtain ⟨b', e1, rfl⟩ := k2 (by rw [hL]; simp)
  rw [h1] at e1; cases e1
  have hget : (getObj b).run P w = .ok (.map me ck) w := by simp [getObj, Sem.run, h2]
  have hf := findNow_spec (n := n) me.toList es 0 (by simpa using h3) (fun i e p a b => (h4 i e p (by simpa using a) b).1)
  rcases hf with ⟨j, e, x, f1, f2, f3, f4, f5⟩ | ⟨f1, f2, f3⟩
  · rw [f4] at ha
    injection ha with ha; subst ha
    have hr := (h4 j e _ (by simpa using f2) f3).2
    have hrun : (Instr.lookup t (.map (some b)) (.int mk n) ok).run P w = .ok (if ok then .tuple #[e.val, .bool true] else e.val) w := by
      simp [Instr.lookup, ty_und t1, hget, checkKey_int _ 9999 n t2, Instr.findKey, ty_und t2, f1]
    refine ⟨_, hrun, ?_⟩
    cases ok with
    | true =>
      refine .d _ _ (.tup _ _ rfl fun i d v hd hv => ?_)
      match i with
      | 0 => simp at hd hv; subst hd; subst hv; exact hr
      | 1 => simp at hd hv; subst hd; subst hv; exact .bool _
      | i + 2 => simp at hd
    | false => exact .d _ _ hr
  · rw [f2] at ha
    injection ha with ha; subst ha
    have hr := (valD_cells z3).2.2 w (own c L) N c.γ
    have hrun : (Instr.lookup t (.map (some b)) (.int mk n) ok).run P w = .ok (if ok then .tuple #[zv, .bool false] else zv) w := by
      simp [Instr.lookup, ty_und t1, hget, checkKey_int _ 9999 n t2, Instr.findKey, ty_und t2, f1, hzero]
    refine ⟨_, hrun, ?_⟩
    cases ok with
    | true =>
      refine .d _ _ (.tup _ _ rfl fun i d v hd hv => ?_)
      match i with
      | 0 => simp at hd hv; subst hd; subst hv; exact hr
      | 1 => simp at hd hv; subst hd; subst hv; exact .bool _
      | i + 2 => simp at hd
    | false => exact .d _ _ hr

theorem amapUpdate_ok {P : Program} (hM : M.Ok) (hm : Mem M c N w0 O0 L G w) (hs : Sees Lr L) {t : TypeId} {m k v : V} {mu ku vu : Value} {o : Out M.S} (ha : amapUpdate P Lr t m k v = some o) (hv : Val c L w N m mu) (hk : Val c L w N k ku) (hx : Val c L w N v vu) :
    ∃ w', (Instr.mapUpdate t mu ku vu).run P w = .ok () w' ∧ Did M c N w0 O0 L G w o undef w' := by
  unfold amapUpdate at ha
  split at ha
  rotate_left
  · cases ha
  rename_i kk et g l kk' n hty
  split at ha
  rotate_left
  · cases ha
  rename_i mk es x wr hy htd
  split at ha
  rotate_left
  · cases ha
  rename_i hc
  obtain ⟨rfl, rfl, hgi⟩ := hc
  injection ha with ha; subst ha
  have := hk.int; subst this
  have hL := hs g l (by rw [hy]; simp)
  rw [hy] at hL
  obtain ⟨m1, m2, m3⟩ := toD_ok hm hs htd hx
  -- what is frozen is another place
  have hLg : (L.upd wr) g = L g := by
    cases v with
    | d y => simp [toD] at htd; obtain ⟨_, rfl⟩ := htd; rfl
    | ref g' n' off len =>
      simp only [toD] at htd
      cases h9 : Lr.get g' n' <;> rw [h9] at htd <;> simp at htd
      obtain ⟨_, _, rfl⟩ := htd
      have : g ≠ g' := by intro e; exact hgi (by simp [V.ids, e])
      simp only [Loc.upd, Loc.set_ne _ _ this]
    | _ => cases htd
  have hL2 : (L.upd wr).get g l = .map mk es := by unfold Loc.get; rw [hLg]; exact hL
  obtain ⟨e1, e2⟩ := get_at hL2 (by simp)
  obtain ⟨b, me, ck, h1, h2, h3, h4⟩ := m1.get hL2 (by simp)
  obtain ⟨kt, t1, t2⟩ := ty_map hty
  cases hv with
  | map _ _ _ k1 k2 =>
  obtain ⟨b', e3, rfl⟩ := k2 (by rw [hL]; simp)
  rw [h1] at e3; cases e3
  have hget : (getObj b).run P w = .ok (.map me ck) w := by simp [getObj, Sem.run, h2]
  have hb := lt_of_heap h2
  have hset : ∀ (m' : Array MapEntry) (k' : Nat), (setObj b (.map m' k')).run P w = .ok () { w with heap := w.heap.setIfInBounds b (.map m' k') } := fun m' k' => by simp [setObj, Sem.run, h2]
  have hf := findNow_spec (n := n) me.toList es 0 (by simpa using h3) (fun i e p a b => (h4 i e p (by simpa using a) b).1)
  -- the block, written
  have key : ∀ (m' : Array MapEntry) (k' : Nat) (es' : List (Int × D)), m'.size = es'.length → (∀ (i : Nat) (e : MapEntry) (p : Int × D), m'[i]? = some e → es'[i]? = some p → e.key = .int mk p.1 ∧ Rep w (own c (L.upd wr)) N c.γ p.2 e.val) →
      Did M c N w0 O0 L G w { v := .d (.tup []), wr := wr ++ [(g, (l, .map mk es'))] } undef { w with heap := w.heap.setIfInBounds b (.map m' k') } := by
    intro m' k' es' hsz hes
    have hw : ∀ k, k ≠ b → (({ w with heap := w.heap.setIfInBounds b (.map m' k') } : World)).heap[k]? = w.heap[k]? := fun k hk => by simp [Array.getElem?_setIfInBounds_ne (Ne.symm hk)]
    have hbb : (({ w with heap := w.heap.setIfInBounds b (.map m' k') } : World)).heap[b]? = some (.map m' k') := by simp [hb]
    have hz : ∀ y T' fz', w.heap[b]? = some (.cells y T' fz') → ∃ y' fz'', (({ w with heap := w.heap.setIfInBounds b (.map m' k') } : World)).heap[b]? = some (.cells y' T' fz'') ∧ y'.size = y.size := by
      intro y T' fz' hy; rw [h2] at hy; cases hy
    have hg := Grow.write m1 (x := .map mk es') h1 (by rw [e2]; rfl) (by rw [e2]; rfl) (by simp) hw hz
    have hmm := Mem.write hM m1 (x := .map mk es') h1 (by rw [e2]; rfl) (by rw [e2]; rfl) (by simp) hw hz rfl rfl rfl
      ⟨b, m', k', rfl, hbb, hsz, fun i e p he hp => ⟨(hes i e p he hp).1, ((hes i e p he hp).2).grow hg⟩⟩
    rw [e1] at hg hmm
    refine ⟨c, ?_, ?_, undef_val⟩
    · rw [Loc.upd_append]; exact hmm
    · rw [Loc.upd_append]; exact m2.trans hg
  have hchk := checkKey_int (w := w) false 9999 n t2
  rcases hf with ⟨j, e, x', f1, f2, f3, f4, f5⟩ | ⟨f1, f2, f3⟩
  · have he : me[j]? = some e := by simpa using f2
    have hkey := (h4 j e _ he f3).1
    have hsame : Instr.sameBits 10000 e.key (.int mk n) = true := by rw [hkey]; simp [Instr.sameBits]
    refine ⟨_, ?_, key (me.modify j fun e => { e with key := .int mk n, val := vu }) ck _ (by rw [f5]; simpa using h3) ?_⟩
    · simp [Instr.mapUpdate, ty_und t1, hget, hchk, Instr.findKey, ty_und t2, f1, Instr.keyThatStays, he, hsame, hset]
    · intro i e' p he' hp
      rw [f5, List.getElem?_set] at hp
      rw [Array.getElem?_modify] at he'
      by_cases hij : j = i
      · subst hij
        have hlt : j < es.length := by
          rcases Nat.lt_or_ge j es.length with h | h
          · exact h
          · rw [List.getElem?_eq_none h] at f3; cases f3
        simp [hlt] at hp; subst hp
        rw [if_pos rfl, he] at he'
        simp at he'; subst he'
        exact ⟨rfl, m3⟩
      · rw [if_neg hij] at hp he'
        exact h4 i e' p he' hp
  · refine ⟨_, ?_, key (me.push { key := .int mk n, val := vu, born := ck }) (ck + 1) _ (by rw [f3]; simp [h3]) ?_⟩
    · simp [Instr.mapUpdate, ty_und t1, hget, hchk, Instr.findKey, ty_und t2, f1, hset]
    · intro i e' p he' hp
      rw [f3] at hp
      rw [Array.getElem?_push] at he'
      by_cases hi : i = me.size
      · subst hi
        rw [if_pos rfl] at he'
        rw [List.getElem?_append_right (by omega), h3, Nat.sub_self] at hp
        simp at he' hp; subst he'; subst hp
        exact ⟨rfl, m3⟩
      · rw [if_neg hi] at he'
        have hlt : i < es.length := by
          rcases Nat.lt_or_ge i me.size with h | h
          · omega
          · rw [Array.getElem?_eq_none h] at he'; cases he'
        rw [List.getElem?_append_left hlt] at hp
        exact h4 i e' p he' hp

end
end Wf
