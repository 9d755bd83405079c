/-
  What operations do: a store, whole.
-/
import Derived.Test.YtgekoicndhcghaaFa
set_option linter.unusedVariables false
set_option linter.unusedSimpArgs false
set_option linter.unnecessarySimpa false
namespace Wf
open Go Go.RowKit

section
variable {c : Ctx} {N : Nat} {w0 : World} {O0 : Nat → Prop} {L Lr : Loc} {w : World}

theorem get_live {g n : Nat} {y : HObj} (hL : L.get g n = y) (hy : y.live = true) : (L g).1 = n ∧ (L g).2 = y := get_at hL (by rintro rfl; cases hy)

/-- What comes into a table's cell: the row or the map that comes with it. -/
theorem cellD1_ok {z : Nat} (hm : Mem c N w0 O0 L w) (hs : Sees Lr L) {v : V} {u : Value} {x : D} {kl : Wr} (h : cellD1 z Lr v = some (x, kl)) (hv : Val c L w N v u) :
    u.oneCell' = true ∧ ((kl = [] ∧ CellOk c.γ w z none x u) ∨ ∃ (g : Nat) (β : Option Nat), kl = [(g, ((L g).1, .dead))] ∧ (L g).2.live = true ∧ (∀ b, β = some b → c.ι g = some b) ∧ CellOk c.γ w z β x u) := by
  have flatcase : ∀ {y : D}, Rep w (own c L) N c.γ y u → (if y.flat = true then some (y, ([] : Wr)) else none) = some (x, kl) → u.oneCell' = true ∧ ((kl = [] ∧ CellOk c.γ w z none x u) ∨ ∃ (g : Nat) (β : Option Nat), kl = [(g, ((L g).1, .dead))] ∧ (L g).2.live = true ∧ (∀ b, β = some b → c.ι g = some b) ∧ CellOk c.γ w z β x u) := by
    intro y hr h
    split at h
    · rename_i hf
      simp at h; obtain ⟨rfl, rfl⟩ := h
      obtain ⟨r1, r2⟩ := hr.fl (A' := fun _ => False) (N' := 0) (w' := w) hf fun _ _ _ h => h
      exact ⟨r2, .inl ⟨rfl, .flat _ _ hf r1⟩⟩
    · cases h
  have nilcase : ∀ {t : Tag}, (t = .nil ∨ t = .full) → Rep w (own c L) N c.γ (.sl t []) u → some (D.sl .own [], ([] : Wr)) = some (x, kl) → u.oneCell' = true ∧ ((kl = [] ∧ CellOk c.γ w z none x u) ∨ ∃ (g : Nat) (β : Option Nat), kl = [(g, ((L g).1, .dead))] ∧ (L g).2.live = true ∧ (∀ b, β = some b → c.ι g = some b) ∧ CellOk c.γ w z β x u) := by
    intro t ht hr h
    simp at h; obtain ⟨rfl, rfl⟩ := h
    cases hr with
    | slE _ a cap h1 h2 _ =>
      have : cap = 0 := by
        rcases ht with rfl | rfl
        · exact (h2 rfl).2
        · exact h1 rfl
      subst this
      exact ⟨rfl, .inl ⟨rfl, .rowE a rfl⟩⟩
    | sl _ _ _ _ _ _ _ h => exact absurd rfl h
  cases v with
  | d y =>
    have hr := hv.dat
    cases y with
    | sl t l =>
      cases l with
      | cons d l => cases t <;> exact flatcase hr h
      | nil =>
        cases t with
        | nil => exact nilcase (.inl rfl) hr h
        | full => exact nilcase (.inr rfl) hr h
        | _ => exact flatcase hr h
    | _ => exact flatcase hr h
  | p k y =>
    cases hv with
    | p _ _ _ hr => exact flatcase hr h
  | ref g n off len =>
    simp only [cellD1] at h
    cases off with
    | succ _ => simp at h
    | zero =>
    have core : ∀ {sz : Nat} {els : List D}, (L.get g n = .arr sz els true ∨ L.get g n = .trow sz els) → (if len = els.length ∧ els.all D.flatEl ∧ els.all (fun d => d.width == sz) ∧ sz = z then some (D.sl .own els, [(g, (n, HObj.dead))]) else none) = some (x, kl) →
        u.oneCell' = true ∧ ((kl = [] ∧ CellOk c.γ w z none x u) ∨ ∃ (g : Nat) (β : Option Nat), kl = [(g, ((L g).1, .dead))] ∧ (L g).2.live = true ∧ (∀ b, β = some b → c.ι g = some b) ∧ CellOk c.γ w z β x u) := by
      intro sz els hL h1
      clear h
      have h := h1
      clear h1
      split at h
      rotate_left
      · cases h
      rename_i hc
      obtain ⟨h1, h2, h3, rfl⟩ := hc
      rw [List.all_eq_true] at h2 h3
      simp at h
      obtain ⟨rfl, rfl⟩ := h
      have e12 : (L g).1 = n ∧ (L g).2.live = true := by
        rcases hL with hL | hL <;> (obtain ⟨e1, e2⟩ := get_at hL (by simp); exact ⟨e1, by rw [e2]; rfl⟩)
      obtain ⟨e1, e2⟩ := e12
      cases hv with
      | ref _ _ _ _ _ k1 k2 k3 =>
      have hsl : SlAt w (c.ι g) sz 0 len u := by
        rcases hL with hL | hL
        · exact (k2 _ _ _ hL).2
        · exact (k3 _ _ hL).2
      obtain ⟨a, cap, rfl, h4, h5⟩ := hsl
      refine ⟨rfl, .inr ?_⟩
      by_cases hc0 : cap = 0
      · subst hc0
        have : els = [] := List.eq_nil_of_length_eq_zero (by omega)
        subst this
        simp at h1; subst h1
        exact ⟨g, none, by rw [e1], e2, by simp, .rowE a rfl⟩
      · rcases h5 with h5 | ⟨b, y, T, fz, q1, rfl, q3, q4⟩
        · exact absurd h5 hc0
        have hob : ∃ (x : Array Value) (T : TypeId) (fz : Nat × Nat), w.heap[b]? = some (.cells x T fz) ∧ Unfrozen w b x.size ∧ els.length * sz ≤ x.size ∧ RowAt w (own c L) N c.γ b sz els := by
          rcases hL with hL | hL
          · have := hm.get hL (by simp); rw [q1] at this; exact this
          · have := hm.get hL (by simp); rw [q1] at this; exact this
        obtain ⟨x', T', fz', g2, g3, g4, us, g5⟩ := hob
        rw [g2] at q3; cases q3
        refine ⟨g, some b, by rw [e1], e2, fun b' hb' => by rw [q1, hb'], ?_⟩
        have := CellOk.row (γ := c.γ) (w := w) (sz := sz) (β := some b) els b cap y T fz us rfl g2 g3 (by omega) (by simpa using q4) fun i d hd => by
          obtain ⟨p1, p2, p3⟩ := g5 i d hd
          have hf := h2 d (List.mem_of_getElem? hd)
          exact ⟨hf, p1.flEl hf fun _ _ _ h => h, by simpa using h3 d (List.mem_of_getElem? hd), p2, p3⟩
        rw [h1]
        simpa using this
    cases hx : Lr.get g n <;> rw [hx] at h <;> try cases h
    · rename_i sz els lv
      cases lv with
      | false => simp at h
      | true => exact core (.inl (by rw [hs g n (by rw [hx]; simp), hx])) (by simpa using h)
    · rename_i sz els
      exact core (.inr (by rw [hs g n (by rw [hx]; simp), hx])) (by simpa using h)
  | map g n =>
    simp only [cellD1] at h
    cases hx : Lr.get g n <;> rw [hx] at h <;> try cases h
    rename_i kk es
    simp at h
    obtain ⟨h1, rfl, rfl⟩ := h
    have hL : L.get g n = .map kk es := by rw [hs g n (by rw [hx]; simp), hx]
    obtain ⟨e1, e2⟩ := get_at hL (by simp)
    cases hv with
    | map _ _ _ k1 k2 =>
    obtain ⟨b, q1, rfl⟩ := k2 (by rw [hL]; simp)
    obtain ⟨b', m, ck, g1, g2, g3, g4⟩ := hm.get hL (by simp)
    rw [q1] at g1; cases g1
    refine ⟨rfl, .inr ⟨g, some b, by rw [e1], by rw [e2]; rfl, fun b' hb' => by rw [q1, hb'], .mp kk es b m ck rfl g2 g3 fun i e p he hp => ?_⟩⟩
    obtain ⟨p1, p2⟩ := g4 i e p he hp
    have hf := h1 p.1 p.2 (List.mem_of_getElem? hp)
    exact ⟨p1, hf, p2.flEl hf fun _ _ _ h => h⟩
  | _ => cases h

/-- .. of several. -/
theorem cellD1s_ok (hm : Mem c N w0 O0 L w) (hs : Sees Lr L) : ∀ (zs : List Nat) (vs : List V) (us : List Value) (xs : List D) (kl : Wr), cellD1s Lr zs vs = some (xs, kl) → Vals c L w N vs us → (kl.map (·.1)).Nodup →
    xs.length = vs.length ∧ (∀ p ∈ kl, p.2 = ((L p.1).1, .dead) ∧ (L p.1).2.live = true) ∧ ∃ bs : List (Option (Nat × Nat)), bs.length = vs.length ∧ (∀ (j : Nat) (x : D) (u : Value) (z : Nat), xs[j]? = some x → us[j]? = some u → zs[j]? = some z → u.oneCell' = true ∧ CellOk c.γ w z (((bs[j]?).join).map (·.2)) x u) ∧
      (∀ (j g b : Nat), bs[j]? = some (some (g, b)) → c.ι g = some b ∧ g ∈ kl.map (·.1)) ∧ (∀ (j j' g b b' : Nat), bs[j]? = some (some (g, b)) → bs[j']? = some (some (g, b')) → j = j')
  | [], [], us, xs, kl, h, hv, _ => by
    simp [cellD1s] at h
    obtain ⟨rfl, rfl⟩ := h
    exact ⟨rfl, by simp, [], rfl, by simp, by simp, by simp⟩
  | [], _ :: _, _, _, _, h, _, _ => by simp [cellD1s] at h
  | _ :: _, [], _, _, _, h, _, _ => by simp [cellD1s] at h
  | z0 :: zs, v :: vs, us, xs, kl, h, hv, hn => by
    simp only [cellD1s] at h
    cases h1 : cellD1 z0 Lr v with
    | none => rw [h1] at h; cases h
    | some p =>
    obtain ⟨x, k1⟩ := p
    rw [h1] at h
    simp only [Option.bind_some] at h
    cases h2 : cellD1s Lr zs vs with
    | none => rw [h2] at h; cases h
    | some p =>
    obtain ⟨xs', k2⟩ := p
    rw [h2] at h
    simp at h
    obtain ⟨rfl, rfl⟩ := h
    obtain ⟨u, us, rfl, hu, hus⟩ := hv.cons_inv
    rw [List.map_append, List.nodup_append] at hn
    obtain ⟨i1, i2, bs, i3, i4, i5, i6⟩ := cellD1s_ok hm hs zs vs us xs' k2 h2 hus hn.2.1
    obtain ⟨j1, j2⟩ := cellD1_ok hm hs h1 hu
    have fin : ∀ (β : Option (Nat × Nat)), CellOk c.γ w z0 (β.map (·.2)) x u → (∀ g b, β = some (g, b) → c.ι g = some b ∧ g ∈ k1.map (·.1)) → (∀ p ∈ k1, p.2 = ((L p.1).1, .dead) ∧ (L p.1).2.live = true) →
        (x :: xs').length = (v :: vs).length ∧ (∀ p ∈ k1 ++ k2, p.2 = ((L p.1).1, .dead) ∧ (L p.1).2.live = true) ∧ ∃ bs : List (Option (Nat × Nat)), bs.length = (v :: vs).length ∧ (∀ (j : Nat) (y : D) (z : Value) (q : Nat), (x :: xs')[j]? = some y → (u :: us)[j]? = some z → (z0 :: zs)[j]? = some q → z.oneCell' = true ∧ CellOk c.γ w q (((bs[j]?).join).map (·.2)) y z) ∧
          (∀ (j g b : Nat), bs[j]? = some (some (g, b)) → c.ι g = some b ∧ g ∈ (k1 ++ k2).map (·.1)) ∧ (∀ (j j' g b b' : Nat), bs[j]? = some (some (g, b)) → bs[j']? = some (some (g, b')) → j = j') := by
      intro β hβ1 hβ2 hk1
      refine ⟨by simp [i1], fun p hp => ?_, β :: bs, by simp [i3], fun j y z q hy hz hq => ?_, fun j g b hb => ?_, fun j j' g b b' hb hb' => ?_⟩
      · rcases List.mem_append.1 hp with hp | hp
        · exact hk1 p hp
        · exact i2 p hp
      · cases j with
        | zero => simp at hy hz hq; subst hy; subst hz; subst hq; exact ⟨j1, by simpa using hβ1⟩
        | succ j => simpa using i4 j y z q (by simpa using hy) (by simpa using hz) (by simpa using hq)
      · cases j with
        | zero => simp at hb; obtain ⟨a1, a2⟩ := hβ2 g b hb; exact ⟨a1, by rw [List.map_append]; exact List.mem_append_left _ a2⟩
        | succ j => obtain ⟨a1, a2⟩ := i5 j g b (by simpa using hb); exact ⟨a1, by rw [List.map_append]; exact List.mem_append_right _ a2⟩
      · cases j with
        | zero =>
          cases j' with
          | zero => rfl
          | succ j' =>
            simp at hb
            have a1 := (hβ2 g b hb).2
            have a2 := (i5 j' g b' (by simpa using hb')).2
            exact absurd rfl (hn.2.2 g a1 g a2)
        | succ j =>
          cases j' with
          | zero =>
            simp at hb'
            have a1 := (hβ2 g b' hb').2
            have a2 := (i5 j g b (by simpa using hb)).2
            exact absurd rfl (hn.2.2 g a1 g a2)
          | succ j' => rw [i6 j j' g b b' (by simpa using hb) (by simpa using hb')]
    rcases j2 with ⟨rfl, hc⟩ | ⟨g, β, rfl, hl, hb, hc⟩
    · exact fin none (by simpa using hc) (by simp) (by simp)
    · cases β with
      | none => exact fin none (by simpa using hc) (by simp) (by simpa using hl)
      | some b => exact fin (some (g, b)) (by simpa using hc) (fun g' b' e => by simp at e; obtain ⟨rfl, rfl⟩ := e; exact ⟨hb b rfl, by simp⟩) (by simpa using hl)

/-- A table's object: cells put into it. -/
theorem write_obj (hm : Mem c N w0 O0 L w) {k i off ver : Nat} {T : Tb} {cs xs : List D} {b : Nat} {x : Array Value} {ty : TypeId} {fz : Nat × Nat} {ws : List Value} {β : Nat → Option Nat} {kl : Wr}
    (hT : tabOf L k = some (true, T)) (hi : T[i]? = some cs) (hγ : c.γ k i = some b) (hb : w.heap[b]? = some (.cells x ty fz)) (hlen : ws.length = xs.length) (ho : off + xs.length ≤ cs.length)
    (hkl : ∀ p ∈ kl, p.2 = ((L p.1).1, .dead) ∧ (L p.1).2.live = true) (hβ : ∀ j b', j < xs.length → β j = some b' → ∃ p ∈ kl, c.ι p.1 = some b') (hβi : ∀ j j' b', j < xs.length → j' < xs.length → β j = some b' → β j' = some b' → j = j')
    (hnew : ∀ (j : Nat) (d : D) (u : Value), xs[j]? = some d → ws[j]? = some u → u.oneCell' = true ∧ CellOk c.γ w (rowSz k (off + j)) (β j) d u)
    (hver : (L (tb k)).1 ≤ ver) (hsame : ver = (L (tb k)).1 → (∀ d ∈ xs, d.isRow = false) ∧ ∀ d ∈ (cs.drop off).take xs.length, d.isRow = false) :
    Did c N w0 O0 L w { v := .d (.tup []), wr := kl ++ [(tb k, (ver, .tbl true (setCells T i off xs)))] } undef (put w b (splice x off ws) ty fz) := by
  have hil := lt_of_get hi
  have hbO : c.O b := hm.tab.wr k T i none b hT ⟨true, T, hT, hil⟩ hγ
  obtain ⟨b1, x1, ty1, fz1, p1, p2, p3, p4, p5⟩ := hm.tab.obj k true T i cs hT hi
  rw [hγ] at p1; cases p1
  rw [hb] at p2; cases p2
  have hsz : (splice x off ws).size = x.size := splice_size (by omega)
  have hw : ∀ q, q ≠ b → (put w b (splice x off ws) ty fz).heap[q]? = w.heap[q]? := fun q hq => by rw [put_heap (lt_of_heap hb)]; simp [hq]
  have hbb : (put w b (splice x off ws) ty fz).heap[b]? = some (.cells (splice x off ws) ty fz) := by rw [put_heap (lt_of_heap hb)]; simp
  have hat := upd_dead (kl := kl) (L := L) (fun p hp => (hkl p hp).1)
  have hnt : ∀ p ∈ kl, ∀ k, tb k ≠ p.1 := fun p hp k => hm.live_tab (hkl p hp).2 k
  have htk : ∀ k', (L.upd kl) (tb k') = L (tb k') := by
    intro k'
    rw [hat, if_neg]
    intro h
    obtain ⟨p, hp, e⟩ := List.mem_map.1 h
    exact hnt p hp k' e.symm
  let c' : Ctx := { c with ρ := fun k' i' o' => if k' = k ∧ i' = i ∧ off ≤ o' ∧ o' < off + xs.length then β (o' - off) else c.ρ k' i' o', O := fun b' => c.O b' ∨ ∃ j, j < xs.length ∧ β j = some b' }
  have hβ' : ∀ j b', j < xs.length → β j = some b' → ¬ c.O b' ∧ ¬ (b' < N ∧ ¬ O0 b') := by
    intro j b' hj h
    obtain ⟨p, hp, e⟩ := hβ j b' hj h
    obtain ⟨a1, a2, a3⟩ := hm.mine p.1 b' e (fun e => by have := (hkl p hp).2; rw [e] at this; cases this)
    exact ⟨a3, fun h => by rcases a1 with a1 | a1 <;> first | exact h.2 a1 | omega⟩
  have hL' : ∀ k', tabOf ((L.upd kl).set (tb k) (ver, .tbl true (setCells T i off xs))) k' = if k' = k then some (true, setCells T i off xs) else tabOf L k' := by
    intro k'
    rw [tabOf_set]
    by_cases e : k' = k
    · rw [if_pos e, if_pos e]
    · rw [if_neg e, if_neg e, tabOf_same (htk k')]
  have htab : TabRel ((L.upd kl).set (tb k) (ver, .tbl true (setCells T i off xs))) c' (fun b => b < N ∧ ¬ O0 b) (put w b (splice x off ws) ty fz) := by
    refine hm.tab.putObj hT hi hγ hb hlen ho rfl (fun k' i' o' h => ?_) (fun j hj => ?_) (fun _ => Iff.rfl) hβ' hβi hnew hL'
    · simp only [c']
      rw [if_neg]
      rintro ⟨rfl, rfl, h1, h2⟩
      rcases h with h | h | h
      · exact h rfl
      · omega
      · omega
    · show (if k = k ∧ i = i ∧ off ≤ off + j ∧ off + j < off + xs.length then β (off + j - off) else c.ρ k i (off + j)) = β j
      rw [if_pos ⟨rfl, rfl, by omega, by omega⟩, show off + j - off = j by omega]
  have hsc : setCells T i off xs = T.set i (cs.take off ++ xs ++ cs.drop (off + xs.length)) := by unfold setCells; rw [hi]
  -- cells of the table, now and before
  have hcell : ver = (L (tb k)).1 → ∀ i' o' d, cellT (setCells T i off xs) i' o' = some d → d.isRow = true → cellT T i' o' = some d ∧ ¬ (i' = i ∧ off ≤ o' ∧ o' < off + xs.length) := by
    intro hv i' o' d hd hr
    rw [hsc, cellT_set hil] at hd
    by_cases ei : i' = i
    · subst ei
      rw [if_pos rfl, list_splice ho] at hd
      by_cases hrg : off ≤ o' ∧ o' < off + xs.length
      · rw [if_pos hrg] at hd
        have := (hsame hv).1 d (List.mem_of_getElem? hd)
        rw [hr] at this; cases this
      · rw [if_neg hrg] at hd
        exact ⟨by unfold cellT; rw [hi]; exact hd, fun h => hrg h.2⟩
    · rw [if_neg ei] at hd
      exact ⟨hd, fun h => ei h.1⟩
  have hon : ver = (L (tb k)).1 → TbOn T (setCells T i off xs) ∧ ∀ i' o', There ((L.upd kl).set (tb k) (ver, .tbl true (setCells T i off xs))) k i' (some o') → c'.ρ k i' o' = c.ρ k i' o' := by
    intro hv
    refine ⟨fun i' o' => ⟨fun l hl => ⟨l, (hcell hv i' o' _ hl rfl).1, rfl⟩, fun kk es hl => ⟨es, (hcell hv i' o' _ hl rfl).1⟩⟩, fun i' o' hth => ?_⟩
    obtain ⟨wr, T0, d, t1, t2, t3⟩ := hth
    rw [hL' k, if_pos rfl] at t1; cases t1
    have := (hcell hv i' o' d t2 t3).2
    show (if k = k ∧ i' = i ∧ off ≤ o' ∧ o' < off + xs.length then β (o' - off) else c.ρ k i' o') = _
    rw [if_neg]
    rintro ⟨_, h⟩; exact this h
  have hoth : ∀ k', k' ≠ k → ∀ i' o', c'.ρ k' i' o' = c.ρ k' i' o' := by
    intro k' hk i' o'
    show (if k' = k ∧ i' = i ∧ off ≤ o' ∧ o' < off + xs.length then β (o' - off) else c.ρ k' i' o') = _
    rw [if_neg]
    rintro ⟨h, _⟩; exact hk h
  obtain ⟨m1, m2⟩ := Mem.tab_upd hm hT hkl (c' := c') rfl rfl (fun _ h => .inl h) (fun b' h => by
      rcases h with h | ⟨j, hj, h⟩
      · exact .inl h
      · exact .inr (hβ j b' hj h)) hbO (by simp [put]) hw (by
      intro y T' fz' hy; rw [hb] at hy; cases hy; exact ⟨_, _, hbb, hsz⟩) rfl rfl rfl (ver := ver) hver hon hoth htab
  exact ⟨c', m1, m2, undef_val⟩

theorem nodup_inj {α : Type} : ∀ {l : List α} {i j : Nat} {a : α}, l.Nodup → l[i]? = some a → l[j]? = some a → i = j
  | [], _, _, _, _, h, _ => by simp at h
  | x :: l, i, j, a, hn, hi, hj => by
    rw [List.nodup_cons] at hn
    cases i with
    | zero =>
      cases j with
      | zero => rfl
      | succ j => simp at hi hj; subst hi; exact absurd (List.mem_of_getElem? hj) hn.1
    | succ i =>
      cases j with
      | zero => simp at hi hj; subst hj; exact absurd (List.mem_of_getElem? hi) hn.1
      | succ j => exact congrArg (· + 1) (nodup_inj hn.2 (by simpa using hi) (by simpa using hj))
theorem flat_notRow {d : D} (h : d.flat = true) : d.isRow = false := by cases d <;> simp_all [D.flat, D.isRow]
theorem own0_spec {γ w sz} {d : D} {u : Value} (h : d.own0ok = true) {A N} (hr : Rep w A N γ d u) : u.oneCell' = true ∧ CellOk γ w sz none d.own0 u := by
  have flatcase : d.flat = true → u.oneCell' = true ∧ CellOk γ w sz none d u := fun hf => by
    obtain ⟨r1, r2⟩ := hr.fl (A' := fun _ => False) (N' := 0) (w' := w) hf fun _ _ _ h => h
    exact ⟨r2, .flat _ _ hf r1⟩
  cases d with
  | sl t l =>
    cases l with
    | cons d l => cases t <;> simp [D.own0ok, D.flat] at h
    | nil =>
      have key : (t = .nil ∨ t = .full) → u.oneCell' = true ∧ CellOk γ w sz none (.sl .own []) u := by
        intro ht
        cases hr with
        | slE _ a cap h1 h2 _ =>
          have : cap = 0 := by
            rcases ht with rfl | rfl
            · exact (h2 rfl).2
            · exact h1 rfl
          subst this
          exact ⟨rfl, .rowE a rfl⟩
        | sl _ _ _ _ _ _ _ h => exact absurd rfl h
      cases t with
      | nil => exact key (.inl rfl)
      | full => exact key (.inr rfl)
      | _ => simp [D.own0ok, D.flat] at h
  | _ => exact flatcase h

theorem storeT_ok {P : Program} (hm : Mem c N w0 O0 L w) (hs : Sees Lr L) {t : TypeId} {k i off n : Nat} {ag fl : Bool} {v : V} {u uv : Value} {o : Out} (hn : tySize P t = some n)
    (ha : storeT Lr k i off n ag fl v = some o) (hp : Val c L w N (.d (.h k i off)) u) (hv : Val c L w N v uv) :
    ∃ w', (Instr.storeAt t u uv).run P w = .ok () w' ∧ Did c N w0 O0 L w o undef w' := by
  unfold storeT at ha
  split at ha
  rotate_left
  · cases ha
  rename_i T hTr
  obtain ⟨hT, hver⟩ := hs.tab hTr
  cases hi : T[i]? with
  | none => rw [hi] at ha; cases ha
  | some cs =>
  rw [hi] at ha
  dsimp only at ha
  split at ha
  rotate_left
  · cases ha
  rename_i hle
  obtain ⟨b, x, ty, fz, q1, q2, q3, q4, q5⟩ := hm.tab.obj k true T i cs hT hi
  have hr := hp.dat
  cases hr with
  | h _ _ _ b' hk' =>
  rw [q1] at hk'; cases hk'
  have hver' : (Lr (tb k)).1 = (L (tb k)).1 := hver.symm
  have hvnew : Lr.new (tb k) = (L (tb k)).1 + 1 := by unfold Loc.new; rw [hver']
  split at ha
  · -- no rows
    have fin : ∀ (xs : List D), uv.cells.size = n → (∀ (q : Nat) (u : Value), uv.cells[q]? = some u → u.oneCell' = true) → xs.length = n → (∀ (j : Nat) (d : D) (u : Value), xs[j]? = some d → uv.cells.toList[j]? = some u → d.flat = true ∧ Rep w (own c L) N c.γ d u) → (∀ d ∈ (cs.drop off).take n, d.flat = true) → (∀ d ∈ xs, d.flat = true) →
        ∃ w', (Instr.storeAt t (.pointer (some ⟨b, off, none⟩)) uv).run P w = .ok () w' ∧ Did c N w0 O0 L w { v := .d (.tup []), wr := [(tb k, ((Lr (tb k)).1, .tbl true (setCells T i off xs)))] } undef w' := by
      intro xs h1 h2 h3 h4 h5 h6
      refine ⟨_, storeAt_run hn q2 h1 (by omega) q3 h2, ?_⟩
      have := write_obj hm hT hi q1 q2 (xs := xs) (ws := uv.cells.toList) (off := off) (β := fun _ => none) (kl := []) (ver := (L (tb k)).1) (by simp; omega) (by omega) (by simp) (by simp) (by simp) (fun j d u hd hu => by
        obtain ⟨f1, f2⟩ := h4 j d u hd hu
        obtain ⟨r1, r2⟩ := f2.fl (A' := fun _ => False) (N' := 0) (w' := w) f1 fun _ _ _ h => h
        exact ⟨r2, .flat _ _ f1 r1⟩) (Nat.le_refl _) (fun _ => ⟨fun d hd => flat_notRow (h6 d hd), fun d hd => flat_notRow (h5 d (by rw [h3] at hd; exact hd))⟩)
      rw [hver']
      exact this
    cases v with
    | d z =>
      by_cases hagg : ∃ xs, z = .agg xs
      · obtain ⟨xs, rfl⟩ := hagg
        dsimp only at ha
        split at ha
        · rename_i hc
          obtain ⟨rfl, c2, c3, c4⟩ := hc
          simp at ha; subst ha
          obtain ⟨vs, rfl, a1, a2, a3⟩ := hv.datAgg
          rw [List.all_eq_true] at c3 c4
          exact fin xs (by simp [Value.cells]; omega) a3 c2 (fun j d u hd hu => ⟨c3 d (List.mem_of_getElem? hd), a2 j d u hd (by simpa [Value.cells] using hu)⟩) c4 c3
        · cases ha
      · have ha' : (if ag = false ∧ n = 1 ∧ z.flat ∧ ((cs.drop off).take n).all D.flat then
              some ({ v := .d (.tup []), wr := [(tb k, ((Lr (tb k)).1, .tbl true (setCells T i off [z])))] } : Out) else none) = some o := by
          cases z <;> first | exact ha | exact absurd ⟨_, rfl⟩ hagg
        split at ha'
        · rename_i hc
          obtain ⟨rfl, rfl, c3, c4⟩ := hc
          simp at ha'; subst ha'
          have ho1 := (hv.dat.fl (A' := fun _ => False) (N' := 0) (w' := w) c3 fun _ _ _ h => h).2
          obtain ⟨o1, o2, o3⟩ := one_cells ho1
          rw [List.all_eq_true] at c4
          refine fin [z] o2 o3 rfl (fun j d u hd hu => ?_) c4 (by simpa using c3)
          rw [o1] at hu
          cases j with
          | zero => simp at hd hu; subst hd; subst hu; exact ⟨c3, hv.dat⟩
          | succ j => simp at hd
        · cases ha'
    | _ => cases ha
  · split at ha
    · -- a whole, with rows
      cases v with
      | d z =>
        cases z with
        | agg ds =>
          dsimp only at ha
          split at ha
          · rename_i hc
            obtain ⟨c2, c3⟩ := hc
            simp at ha; subst ha
            obtain ⟨vs, rfl, a1, a2, a3⟩ := hv.datAgg
            rw [List.all_eq_true] at c3
            refine ⟨_, storeAt_run hn q2 (by simp [Value.cells]; omega) (by omega) q3 a3, ?_⟩
            have := write_obj hm hT hi q1 q2 (xs := ds.map D.own0) (ws := vs.toList) (off := off) (β := fun _ => none) (kl := []) (ver := Lr.new (tb k)) (by simp; omega) (by simp; omega) (by simp) (by simp) (by simp) (fun j d u hd hu => by
              rw [List.getElem?_map] at hd
              cases hd0 : ds[j]? with
              | none => rw [hd0] at hd; cases hd
              | some d0 =>
                rw [hd0] at hd; simp at hd; subst hd
                exact own0_spec (c3 d0 (List.mem_of_getElem? hd0)) (a2 j d0 u hd0 (by simpa using hu))) (by omega) (fun h => by omega)
            simpa [Value.cells] using this
          · cases ha
        | _ => cases ha
      | agg ds ks vs =>
        dsimp only at ha
        cases h1 : cellD1s Lr (ks.map fun q => rowSz k (off + q)) vs with
        | none => rw [h1] at ha; cases ha
        | some p =>
        obtain ⟨xs, kl⟩ := p
        rw [h1] at ha
        simp only [Option.bind_some] at ha
        split at ha
        rotate_left
        · cases ha
        rename_i hc
        obtain ⟨c2, c3, c4, c5⟩ := hc
        simp at ha; subst ha
        cases hv with
        | agg _ _ _ us a1 a2 a3 =>
        obtain ⟨i1, i2, bs, i3, i4, i5, i6⟩ := cellD1s_ok hm hs _ vs _ xs kl h1 (agg_vals c5 a1 a2) c4
        obtain ⟨w1, w2, w3⟩ := okOv_spec c5
        rw [List.all_eq_true] at c3
        -- whose block: by the first key
        let β : Nat → Option Nat := fun o => ((ks.findIdx? (· == o)).bind fun j => ((bs[j]?).join)).map (·.2)
        have hidx : ∀ (o j : Nat), ks[j]? = some o → ks.findIdx? (· == o) = some j := by
          intro o j hj
          rw [List.findIdx?_eq_some_iff_getElem]
          have hlt := lt_of_get hj
          refine ⟨hlt, by rw [List.getElem?_eq_getElem hlt] at hj; simpa using hj, fun j' hj' => ?_⟩
          have e1 : ks[j] = o := by rw [List.getElem?_eq_getElem hlt] at hj; simpa using hj
          simp only [beq_iff_eq]
          intro e2
          have := nodup_inj w1 (i := j') (j := j) (a := o) (by rw [List.getElem?_eq_getElem (Nat.lt_trans hj' hlt), e2]) hj
          omega
        have hβk : ∀ (o b' : Nat), β o = some b' → ∃ (j g : Nat), ks[j]? = some o ∧ bs[j]? = some (some (g, b')) := by
          intro o b' h
          simp only [β] at h
          cases hf : ks.findIdx? (· == o) with
          | none => rw [hf] at h; cases h
          | some j =>
            rw [hf] at h
            simp only [Option.bind_some] at h
            rw [List.findIdx?_eq_some_iff_getElem] at hf
            obtain ⟨f1, f2, _⟩ := hf
            cases hb : bs[j]? with
            | none => rw [hb] at h; cases h
            | some q =>
              cases q with
              | none => rw [hb] at h; cases h
              | some gb =>
                rw [hb] at h; simp at h
                exact ⟨j, gb.1, by rw [List.getElem?_eq_getElem f1]; simpa using f2, by rw [hb, ← h]⟩
        refine ⟨_, storeAt_run hn q2 (by simp [Value.cells]; omega) (by omega) q3 a3, ?_⟩
        have := write_obj hm hT hi q1 q2 (xs := setL (ds.map D.own0) ks xs) (ws := us.toList) (off := off) (β := β) (kl := kl) (ver := Lr.new (tb k)) (by rw [setL_len]; simp; omega) (by rw [setL_len]; simp; omega) i2 (fun o b' _ h => by
            obtain ⟨j, g, _, h2⟩ := hβk o b' h
            obtain ⟨e1, e2⟩ := i5 j g b' h2
            obtain ⟨p, hp, e⟩ := List.mem_map.1 e2
            exact ⟨p, hp, by rw [e]; exact e1⟩) (fun o o' b' _ _ h h' => by
            obtain ⟨j, g, e1, e2⟩ := hβk o b' h
            obtain ⟨j', g', e1', e2'⟩ := hβk o' b' h'
            have hg := (i5 j g b' e2).1
            have hg' := (i5 j' g' b' e2').1
            have hlive : ∀ g, g ∈ kl.map (·.1) → (L g).2 ≠ .dead := fun g hg e => by
              obtain ⟨p, hp, e0⟩ := List.mem_map.1 hg
              have := (i2 p hp).2
              rw [e0, e] at this; cases this
            have : g = g' := hm.inj g g' b' hg hg' (hlive g (i5 j g b' e2).2) (hlive g' (i5 j' g' b' e2').2)
            subst this
            have := i6 j j' g b' b' e2 e2'
            subst this
            rw [e1] at e1'; cases e1'; rfl) (fun o d u hd hu => by
            rcases setL_at (by omega) hd with ⟨h2, h3⟩ | ⟨j, h2, h3⟩
            · have hβn : β o = none := by
                simp only [β]
                have : ks.findIdx? (· == o) = none := by
                  rw [List.findIdx?_eq_none_iff]
                  intro q hq
                  simp only [beq_eq_false_iff_ne]
                  rintro rfl; exact h2 hq
                rw [this]; rfl
              rw [hβn]
              rw [List.getElem?_map] at h3
              cases hd0 : ds[o]? with
              | none => rw [hd0] at h3; cases h3
              | some d0 =>
                rw [hd0] at h3; simp at h3; subst h3
                refine own0_spec (c3 d0 (List.mem_of_getElem? hd0)) (a2 o (.d d0) u ?_ (by simpa using hu)).dat
                rw [ovs_get, if_pos (by simpa using lt_of_get hd0), ovGet_not h2]
                simp [hd0]
            · have := i4 j d u (rowSz k (off + o)) h3 (by rw [List.getElem?_map, h2]; simp at hu ⊢; rw [hu]; rfl) (by rw [List.getElem?_map, h2]; rfl)
              simp only [β]
              rw [hidx o j h2]
              exact this) (by omega) (fun h => by omega)
        simpa [Value.cells] using this
      | _ => cases ha
    · -- one cell
      cases h1 : cellD1 (rowSz k off) Lr v with
      | none => rw [h1] at ha; cases ha
      | some p =>
      obtain ⟨z, kl⟩ := p
      rw [h1] at ha
      simp only [Option.bind_some] at ha
      split at ha
      rotate_left
      · cases ha
      rename_i hn1
      subst hn1
      simp at ha; subst ha
      obtain ⟨ho1, hc⟩ := cellD1_ok hm hs h1 hv
      obtain ⟨o1, o2, o3⟩ := one_cells ho1
      refine ⟨_, storeAt_run hn q2 o2 (by omega) q3 o3, ?_⟩
      rw [o1]
      have key : ∀ (β : Option Nat), CellOk c.γ w (rowSz k off) β z uv → (∀ p ∈ kl, p.2 = ((L p.1).1, .dead) ∧ (L p.1).2.live = true) → (∀ b', β = some b' → ∃ p ∈ kl, c.ι p.1 = some b') →
          Did c N w0 O0 L w { v := .d (.tup []), wr := kl ++ [(tb k, (Lr.new (tb k), .tbl true (setCells T i off [z])))] } undef (put w b (splice x off [uv]) ty fz) := by
        intro β k1 k2 k3
        exact write_obj hm hT hi q1 q2 (xs := [z]) (ws := [uv]) (off := off) (β := fun _ => β) (kl := kl) (ver := Lr.new (tb k)) rfl (by simp; omega) k2 (fun _ b' _ h => k3 b' h) (fun j j' _ h h' _ _ => by simp at h h'; omega) (fun j d u hd hu => by
          cases j with
          | zero => simp at hd hu; subst hd; subst hu; exact ⟨ho1, k1⟩
          | succ j => simp at hd) (by omega) (fun h => by omega)
      rcases hc with ⟨rfl, hc⟩ | ⟨g, β, rfl, hl, hb, hc⟩
      · exact key none hc (by simp) (by simp)
      · exact key β hc (by simpa using hl) (fun b' hb' => ⟨(g, ((L g).1, .dead)), by simp, hb b' hb'⟩)


/-- What an operation finds is there, can be put away. -/
theorem okRef_one {v : V} (hs : Sees Lr L) {u : Value} (h : okRef Lr v = true) (h1 : v.one = true) (hv : Val c L w N v u) : u.oneCell' = true := by
  cases v with
  | ptr g n off =>
    simp only [okRef] at h
    have hg := hs g n
    cases hv with
    | ptr _ _ _ _ k1 k2 =>
      obtain ⟨b, _, rfl⟩ := k2 (by cases hx : Lr.get g n <;> rw [hx] at h hg <;> simp at h <;> (rw [hg (by simp)]; simp))
      rfl
  | ref g n off len =>
    simp only [okRef] at h
    have hg := hs g n
    cases hv with
    | ref _ _ _ _ _ k1 k2 k3 =>
      cases hx : Lr.get g n <;> rw [hx] at h hg <;> simp at h
      · obtain ⟨_, a, cap, rfl, _⟩ := k2 _ _ _ (hg (by simp))
        rfl
      · obtain ⟨_, a, cap, rfl, _⟩ := k3 _ _ (hg (by simp))
        rfl
  | bref g n off len =>
    simp only [okRef, elsOf] at h
    have hg := hs g n
    cases hx : Lr.get g n <;> rw [hx] at h hg <;> simp at h
    cases hv with
    | bref _ _ _ _ _ k1 k2 =>
      obtain ⟨_, b, cap, _, _, rfl⟩ := k2 _ (by rw [hg (by simp)]; rfl)
      rfl
  | map g n =>
    simp only [okRef, esOf] at h
    have hg := hs g n
    cases hx : Lr.get g n <;> rw [hx] at h hg <;> simp at h
    cases hv with
    | map _ _ _ k1 k2 =>
      obtain ⟨b, _, rfl⟩ := k2 (by rw [hg (by simp)]; simp)
      rfl
  | vref k n i o lo len =>
    simp only [okRef, elsOf] at h
    cases hx : rowOf Lr k n i o with
    | none => rw [hx] at h; simp at h
    | some l =>
    cases hv with
    | vref _ _ _ _ _ _ _ k1 k2 =>
      obtain ⟨_, a, cap, rfl, _⟩ := k2 _ (hs.row hx)
      rfl
  | vmap k n i o =>
    simp only [okRef, esOf] at h
    cases hx : mapOf Lr k n i o with
    | none => rw [hx] at h; simp at h
    | some l =>
    cases hv with
    | vmap _ _ _ _ _ k1 k2 =>
      obtain ⟨_, _, rfl⟩ := k2 _ (hs.mapRow hx)
      rfl
  | clo f a b => cases hv; rfl
  | _ => cases h1

theorem take_append_drop_len {α : Type} {l xs : List α} {off n : Nat} (h1 : xs.length = n) (h : off + n ≤ l.length) : (l.take off ++ xs ++ l.drop (off + n)).length = l.length := by
  simp; omega

/-- Cells with places: data put in. -/
theorem ovs_put (ds xs : List D) (ks : List Nat) (vs : List V) (off : Nat) (ho : off + xs.length ≤ ds.length) :
    ovs (ovOut off xs.length ks vs).1 (ovOut off xs.length ks vs).2 ((ds.take off ++ xs ++ ds.drop (off + xs.length)).map .d) = (ovs ks vs (ds.map .d)).take off ++ xs.map .d ++ (ovs ks vs (ds.map .d)).drop (off + (xs.map V.d).length) := by
  apply List.ext_getElem?
  intro i
  have hl : off + (xs.map V.d).length ≤ (ovs ks vs (ds.map .d)).length := by rw [ovs_len]; simpa using ho
  rw [list_splice hl, ovs_get, ovGet_out]
  simp only [List.length_map]
  by_cases hr : off ≤ i ∧ i < off + xs.length
  · rw [if_pos hr, if_pos hr, if_pos (by simp; omega)]
    simp only [List.getElem?_map, list_splice ho, if_pos hr]
  · rw [if_neg hr, if_neg hr, ovs_get]
    simp only [List.length_map, List.getElem?_map, list_splice ho, if_neg hr]
    rw [take_append_drop_len rfl ho]
/-- .. and places. -/
theorem ovs_put2 (ds xs : List D) (ks ks' : List Nat) (vs vs' : List V) (off : Nat) (ho : off + xs.length ≤ ds.length) (hl' : ks'.length = vs'.length) (hk : ∀ k ∈ ks', k < xs.length) :
    ovs (ks'.map (· + off) ++ (ovOut off xs.length ks vs).1) (vs' ++ (ovOut off xs.length ks vs).2) ((ds.take off ++ xs ++ ds.drop (off + xs.length)).map .d) = (ovs ks vs (ds.map .d)).take off ++ ovs ks' vs' (xs.map .d) ++ (ovs ks vs (ds.map .d)).drop (off + (ovs ks' vs' (xs.map V.d)).length) := by
  apply List.ext_getElem?
  intro i
  have hl : off + (ovs ks' vs' (xs.map V.d)).length ≤ (ovs ks vs (ds.map .d)).length := by simp only [ovs_len, List.length_map]; exact ho
  rw [list_splice hl, ovs_get, ovGet_append _ _ _ (by simpa using hl'), ovGet_out, ovGet_shift]
  simp only [ovs_len, List.length_map]
  by_cases hr : off ≤ i ∧ i < off + xs.length
  · rw [if_pos hr, if_pos hr, if_pos (by rw [take_append_drop_len rfl ho]; omega), if_pos hr.1, ovs_get]
    simp only [List.length_map, List.getElem?_map, list_splice ho, if_pos hr]
    rw [if_pos (by omega)]
    cases ovGet ks' vs' (i - off) <;> rfl
  · rw [if_neg hr, if_neg hr, ovs_get]
    have : (if off ≤ i then ovGet ks' vs' (i - off) else none) = none := by
      by_cases h1 : off ≤ i
      · rw [if_pos h1]
        cases hg : ovGet ks' vs' (i - off) with
        | none => rfl
        | some v => have := ovGet_all hk hg; omega
      · rw [if_neg h1]
    rw [this]
    simp only [List.length_map, List.getElem?_map, list_splice ho, if_neg hr]
    rw [take_append_drop_len rfl ho]
theorem ovs_put1 (ds : List D) (ks : List Nat) (vs : List V) (v : V) (off : Nat) (ho : off < ds.length) :
    ovs (off :: (ovOut off 1 ks vs).1) (v :: (ovOut off 1 ks vs).2) (ds.map .d) = (ovs ks vs (ds.map .d)).take off ++ [v] ++ (ovs ks vs (ds.map .d)).drop (off + [v].length) := by
  apply List.ext_getElem?
  intro i
  have hl : off + [v].length ≤ (ovs ks vs (ds.map .d)).length := by rw [ovs_len]; simp; omega
  rw [list_splice hl, ovs_get]
  simp only [List.length_map, List.length_singleton, ovGet]
  by_cases e : off = i
  · subst e; rw [if_pos ho, if_pos rfl, if_pos (by omega)]; simp
  · rw [if_neg e, ovGet_out, if_neg (show ¬ (off ≤ i ∧ i < off + 1) by omega), if_neg (show ¬ (off ≤ i ∧ i < off + 1) by omega), ovs_get]
    simp only [List.length_map]

theorem astore_ok {P : Program} (hm : Mem c N w0 O0 L w) (hs : Sees Lr L) {t : TypeId} {p v : V} {u uv : Value} {o : Out}
    (ha : astore P Lr t p v = some o) (hp : Val c L w N p u) (hv : Val c L w N v uv) (hok : okRef Lr v = true) :
    ∃ w', (Instr.storeAt t u uv).run P w = .ok () w' ∧ Did c N w0 O0 L w o undef w' := by
  unfold astore at ha
  cases hag : tyAgg P t with
  | none => rw [hag] at ha; cases ha
  | some ag =>
  cases hn : tySize P t with
  | none => rw [hag, hn] at ha; cases ha
  | some n =>
  rw [hag, hn] at ha
  dsimp only at ha
  cases p with
  | ptr g l off =>
    dsimp only at ha
    -- into a box, whatever it holds
    have box : ∀ {y z : HObj} {us vs : List V} {ws : List Value}, Lr.get g l = y → y.cellsV = some us → z.cellsV = some (us.take off ++ vs ++ us.drop (off + vs.length)) → uv.cells.toList = ws → ws.length = n → vs.length = n → off + n ≤ us.length → (∀ v ∈ ws, v.oneCell' = true) →
        (∀ (i : Nat) (v : V) (u : Value), vs[i]? = some v → ws[i]? = some u → Val c L w N v u) → o = { v := .d (.tup []), wr := [(g, (l, z))] } → ∃ w', (Instr.storeAt t u uv).run P w = .ok () w' ∧ Did c N w0 O0 L w o undef w' := by
      rintro y z us vs ws hy hu hz hws h1 h2 h3 h4 h5 rfl
      have hyd : y ≠ .dead := by rintro rfl; cases hu
      have hL : L.get g l = y := by rw [hs g l (by rw [hy]; exact hyd), hy]
      obtain ⟨b, x, T, fz, q1, q2, q3, q4, _⟩ := (ObjOk.cellsV hu).1 (hm.get hL hyd)
      cases hp with
      | ptr _ _ _ _ k1 k2 =>
      obtain ⟨b', e1, rfl⟩ := k2 (by rw [hL]; exact hyd)
      rw [q1] at e1; cases e1
      have hsz : uv.cells.size = n := by rw [← h1, ← hws]; simp
      refine ⟨_, storeAt_run hn q2 hsz (by omega) q3 (fun i y hy => h4 y (by rw [← hws]; exact List.mem_of_getElem? (by simpa using hy))), ?_⟩
      rw [hws]
      exact write_cells hm hL hu hz q1 q2 (by omega) h5 h4 (by omega)
    have boxAgg : ∀ {y z : HObj} {us : List V} {xs : List D}, v = .d (.agg xs) → xs.length = n → Lr.get g l = y → y.cellsV = some us → off + n ≤ us.length → z.cellsV = some (us.take off ++ xs.map .d ++ us.drop (off + (xs.map V.d).length)) → o = { v := .d (.tup []), wr := [(g, (l, z))] } → ∃ w', (Instr.storeAt t u uv).run P w = .ok () w' ∧ Did c N w0 O0 L w o undef w' := by
      rintro y z us xs rfl hl hy hu ho hz he
      obtain ⟨vs, rfl, a1, a2, a3⟩ := hv.datAgg
      refine box hy hu hz (ws := vs.toList) rfl (by simp; omega) (by simpa using hl) ho (fun x hx => ?_) (fun i v u hv hu => ?_) he
      · obtain ⟨i, hi⟩ := List.mem_iff_getElem?.1 hx
        exact a3 i x (by simpa using hi)
      · rw [List.getElem?_map] at hv
        cases hd : xs[i]? with
        | none => rw [hd] at hv; cases hv
        | some d => rw [hd] at hv; simp at hv; subst hv; exact .d _ _ (a2 i d u hd (by simpa using hu))
    have boxV : ∀ {y z : HObj} {us : List V} {xs : List D} {ks : List Nat} {vs : List V}, v = .agg xs ks vs → xs.length = n → Lr.get g l = y → y.cellsV = some us → off + n ≤ us.length → z.cellsV = some (us.take off ++ ovs ks vs (xs.map .d) ++ us.drop (off + (ovs ks vs (xs.map V.d)).length)) → o = { v := .d (.tup []), wr := [(g, (l, z))] } → ∃ w', (Instr.storeAt t u uv).run P w = .ok () w' ∧ Did c N w0 O0 L w o undef w' := by
      rintro y z us xs ks vs rfl hl hy hu ho hz he
      cases hv with
      | agg _ _ _ vs' a1 a2 a3 =>
      refine box hy hu hz (ws := vs'.toList) rfl (by simp; omega) (by simp only [ovs_len, List.length_map]; exact hl) ho (fun x hx => ?_) (fun i v u hv hu => a2 i v u hv (by simpa using hu)) he
      obtain ⟨i, hi⟩ := List.mem_iff_getElem?.1 hx
      exact a3 i x (by simpa using hi)
    have boxOne : ∀ {y z : HObj} {us : List V}, uv.oneCell' = true → n = 1 → Lr.get g l = y → y.cellsV = some us → off < us.length → z.cellsV = some (us.take off ++ [v] ++ us.drop (off + [v].length)) → o = { v := .d (.tup []), wr := [(g, (l, z))] } → ∃ w', (Instr.storeAt t u uv).run P w = .ok () w' ∧ Did c N w0 O0 L w o undef w' := by
      rintro y z us ho1 hn1 hy hu ho hz he
      obtain ⟨o1, o2, o3⟩ := one_cells ho1
      refine box hy hu hz (ws := [uv]) o1 (by simp [hn1]) (by simp [hn1]) (by omega) (by simpa using ho1) (fun i v' u hv' hu => ?_) he
      cases i with
      | zero => simp at hv' hu; subst hv'; subst hu; exact hv
      | succ i => simp at hv'
    cases hx : Lr.get g l with
    | box a ds =>
      rw [hx] at ha
      have hcv : (HObj.box a ds).cellsV = some (ds.map .d) := rfl
      have other : (if v.one = true ∧ ag = false ∧ n = 1 ∧ off < ds.length then some ({ v := .d (.tup []), wr := [(g, (l, .vbox a ds [off] [v]))] } : Out) else none) = some o → ∃ w', (Instr.storeAt t u uv).run P w = .ok () w' ∧ Did c N w0 O0 L w o undef w' := by
        intro ha1
        clear ha
        split at ha1
        · rename_i hc
          obtain ⟨h1, rfl, hn1, ho⟩ := hc
          simp at ha1
          refine boxOne (okRef_one hs hok h1 hv) hn1 hx hcv (by simpa using ho) ?_ ha1.symm
          have := ovs_put1 ds [] [] v off ho
          simp only [HObj.cellsV, ovs, ovOut] at this ⊢
          rw [← this]
        · cases ha1
      cases v with
      | d z =>
        by_cases hagg : ∃ xs, z = .agg xs
        · obtain ⟨xs, rfl⟩ := hagg
          dsimp only at ha
          split at ha
          · rename_i hc
            obtain ⟨rfl, hc2, hc3⟩ := hc
            simp at ha
            refine boxAgg rfl hc2 hx hcv (by simpa using hc3) ?_ ha.symm
            simp [HObj.cellsV, hc2]
          · cases ha
        · have ha' : (if ag = false ∧ n = 1 ∧ z.cell = true ∧ off < ds.length then some ({ v := .d (.tup []), wr := [(g, (l, .box a (ds.set off z)))] } : Out) else none) = some o := by
            cases z <;> first | exact ha | exact absurd ⟨_, rfl⟩ hagg
          split at ha'
          · rename_i hc
            obtain ⟨rfl, hn1, hcell, ho⟩ := hc
            simp at ha'
            refine boxOne (hv.dat.cell hcell) hn1 hx hcv (by simpa using ho) ?_ ha'.symm
            simp only [HObj.cellsV]
            rw [set_splice ho]
            simp
          · cases ha'
      | agg xs ks vs =>
        dsimp only at ha
        split at ha
        · rename_i hc
          obtain ⟨rfl, hc2, hc3, hc4⟩ := hc
          simp at ha
          subst hc2
          obtain ⟨w1, w2, w3⟩ := okOv_spec hc4
          refine boxV rfl rfl hx hcv (by simpa using hc3) ?_ ha.symm
          rw [mkBox_cells]
          have := ovs_put2 ds xs [] ks [] vs off hc3 w2 w3
          simp only [ovOut, List.append_nil, ovs] at this
          simp only [List.append_assoc] at this ⊢
          rw [this]
        · cases ha
      | _ => exact other ha
    | vbox a ds ks vs =>
      rw [hx] at ha
      have hcv : (HObj.vbox a ds ks vs).cellsV = some (ovs ks vs (ds.map .d)) := rfl
      have other : (if v.one = true ∧ ag = false ∧ n = 1 ∧ off < ds.length then some ({ v := .d (.tup []), wr := [(g, (l, .vbox a ds (off :: (ovOut off 1 ks vs).1) (v :: (ovOut off 1 ks vs).2)))] } : Out) else none) = some o → ∃ w', (Instr.storeAt t u uv).run P w = .ok () w' ∧ Did c N w0 O0 L w o undef w' := by
        intro ha1
        clear ha
        split at ha1
        · rename_i hc
          obtain ⟨h1, rfl, hn1, ho⟩ := hc
          simp at ha1
          refine boxOne (okRef_one hs hok h1 hv) hn1 hx hcv (by rw [ovs_len]; simpa using ho) ?_ ha1.symm
          simp only [HObj.cellsV]
          rw [ovs_put1 ds ks vs v off ho]
        · cases ha1
      cases v with
      | d z =>
        by_cases hagg : ∃ xs, z = .agg xs
        · obtain ⟨xs, rfl⟩ := hagg
          dsimp only at ha
          split at ha
          · rename_i hc
            obtain ⟨rfl, hc2, hc3⟩ := hc
            simp at ha
            subst hc2
            refine boxAgg rfl rfl hx hcv (by rw [ovs_len]; simpa using hc3) ?_ ha.symm
            have := ovs_put ds xs ks vs off hc3
            rw [mkBox_cells]
            simp only [List.append_assoc] at this ⊢
            rw [this]
          · cases ha
        · have ha' : (if ag = false ∧ n = 1 ∧ z.cell = true ∧ off < ds.length then some ({ v := .d (.tup []), wr := [(g, (l, mkBox a (ds.set off z) (ovOut off 1 ks vs)))] } : Out) else none) = some o := by
            cases z <;> first | exact ha | exact absurd ⟨_, rfl⟩ hagg
          split at ha'
          · rename_i hc
            obtain ⟨rfl, hn1, hcell, ho⟩ := hc
            simp at ha'
            refine boxOne (hv.dat.cell hcell) hn1 hx hcv (by rw [ovs_len]; simpa using ho) ?_ ha'.symm
            rw [mkBox_cells, set_splice ho]
            have := ovs_put ds [z] ks vs off (by simp; omega)
            simp only [List.length_singleton, List.map_cons, List.map_nil] at this ⊢
            rw [this]
          · cases ha'
      | agg xs ks' vs' =>
        dsimp only at ha
        split at ha
        · rename_i hc
          obtain ⟨rfl, hc2, hc3, hc4⟩ := hc
          simp at ha
          subst hc2
          obtain ⟨w1, w2, w3⟩ := okOv_spec hc4
          refine boxV rfl rfl hx hcv (by rw [ovs_len]; simpa using hc3) ?_ ha.symm
          have := ovs_put2 ds xs ks ks' vs vs' off hc3 w2 w3
          rw [mkBox_cells]
          simp only [List.append_assoc] at this ⊢
          rw [this]
        · cases ha
      | _ => exact other ha
    | _ => rw [hx] at ha; cases ha
  | ept g l i off =>
    dsimp only at ha
    have hg := hs g l
    cases hx : Lr.get g l with
    | arr sz els lv =>
      rw [hx] at ha
      cases lv with
      | false => cases ha
      | true =>
      have hL := hg (by rw [hx]; simp)
      rw [hx] at hL
      dsimp only at ha
      cases he : els[i]? with
      | none => rw [he] at ha; cases ha
      | some e =>
      rw [he] at ha
      simp only [Option.bind_some] at ha
      have hi := lt_of_get he
      have hob := hm.get hL (by simp)
      cases hp with
      | ept _ _ _ _ _ k1 k2 =>
      obtain ⟨b, e1, rfl⟩ := k2 _ _ _ hL hi
      rw [e1] at hob
      obtain ⟨x, T, fz, h2, h3, h4, us, h5⟩ := hob
      obtain ⟨r1, r2, r3⟩ := h5 i e he
      have hlt : i * sz + sz ≤ x.size := by
        have : (i + 1) * sz ≤ els.length * sz := Nat.mul_le_mul_right _ hi
        rw [Nat.succ_mul] at this; omega
      -- the element set, behind what turned to data
      have fin : ∀ {L1 : Loc} {x1 y : D}, Mem c N w0 O0 L1 w → L1.get g l = .arr sz els true → Grow c L w c L1 w → Rep w (own c L1) N c.γ x1 uv → eltSet ag n sz off e x1 = some y →
          ∃ w', (Instr.storeAt t (.pointer (some ⟨b, i * sz + off, none⟩)) uv).run P w = .ok () w' ∧ Did c N w0 O0 L1 w { v := .d (.tup []), wr := [(g, (l, .arr sz (els.set i y) true))] } undef w' := by
        intro L1 x1 y hm1 hL1 hg1 hr1 hy
        obtain ⟨s1, s2, s3⟩ := eltSet_rep hy hr1
        obtain ⟨s4, _⟩ := s3 _ (r1.grow hg1) r2
        refine ⟨_, storeAt_run hn h2 s1 (by omega) h3 s2, write_elt hm1 hL1 e1 h2 he (by simp; omega) fun v0 q1 q2 => ?_⟩
        exact (s3 v0 q1 q2).2
      have other : ((toD Lr v).bind fun r => if g ∈ r.2.map (·.1) then none else (eltSet ag n sz off e r.1).map fun y => ({ v := .d (.tup []), wr := r.2 ++ [(g, (l, .arr sz (els.set i y) true))] } : Out)) = some o →
          ∃ w', (Instr.storeAt t (.pointer (some ⟨b, i * sz + off, none⟩)) uv).run P w = .ok () w' ∧ Did c N w0 O0 L w o undef w' := by
        intro ha
        cases ht : toD Lr v with
        | none => rw [ht] at ha; cases ha
        | some r =>
        rw [ht] at ha
        simp only [Option.bind_some] at ha
        split at ha
        · cases ha
        rename_i hnot
        cases hy : eltSet ag n sz off e r.1 with
        | none => rw [hy] at ha; cases ha
        | some y =>
        rw [hy] at ha
        simp at ha; subst ha
        obtain ⟨m1, m2, m3⟩ := toD_ok hm hs ht hv
        have hsame : ∀ (wr : Wr) (L : Loc), g ∉ wr.map (·.1) → (L.upd wr) g = L g := by
          intro wr
          induction wr with
          | nil => intros; rfl
          | cons p wr ih =>
            intro L hg'
            obtain ⟨g0, x0⟩ := p
            simp at hg'
            simp only [Loc.upd]
            rw [ih _ (by simpa using hg'.2), Loc.set_ne _ _ hg'.1]
        have hL1 : (L.upd r.2).get g l = .arr sz els true := by unfold Loc.get; rw [hsame _ _ hnot]; exact hL
        obtain ⟨w', d0, c', d1, d2, d3⟩ := fin m1 hL1 m2 m3 hy
        refine ⟨w', d0, c', ?_, ?_, ?_⟩
        · rw [Loc.upd_append]; exact d1
        · rw [Loc.upd_append]; exact m2.trans d2
        · rw [Loc.upd_append]; exact d3
      cases v with
      | d z =>
        dsimp only at ha
        cases hy : eltSet ag n sz off e z with
        | none => rw [hy] at ha; cases ha
        | some y =>
          rw [hy] at ha
          simp at ha; subst ha
          exact fin hm hL (Grow.refl ..) hv.dat hy
      | _ => exact other ha
    | _ => rw [hx] at ha; cases ha
  | vept k l i oo j off =>
    dsimp only at ha
    split at ha
    rotate_left
    · cases ha
    rename_i z T els hT hr
    obtain ⟨hT', hver⟩ := hs.tab hT
    have hr' := hs.row hr
    cases he : els[j]? with
    | none => rw [he] at ha; cases ha
    | some e =>
    rw [he] at ha
    simp only [Option.bind_some] at ha
    cases hy : eltSet ag n (rowSz k oo) off e z with
    | none => rw [hy] at ha; cases ha
    | some y =>
    rw [hy] at ha
    simp only [Option.bind_some] at ha
    split at ha
    rotate_left
    · cases ha
    rename_i hfy
    simp at ha; subst ha
    have hj := lt_of_get he
    have hne : els ≠ [] := by rintro rfl; simp at hj
    obtain ⟨wr, T', cs, b, cap, x, ty, fz, vs, t1, t2, t3, t4, t5, t6, t7, t8, t9, t10⟩ := hm.rowAt hr' (.inl hne)
    rw [hT'] at t1; cases t1
    cases hp with
    | vept _ _ _ _ _ _ _ k1 k2 =>
    obtain ⟨b', e1, rfl⟩ := k2 _ hr' hj
    rw [t5] at e1; cases e1
    obtain ⟨f1, r1, f2, r2, r3⟩ := t10 j e he
    generalize hszz : rowSz k oo = sz' at *
    obtain ⟨s1, s2, s3⟩ := eltSet_rep hy hv.dat
    have hre := r1.flEl (A' := own c L) (N' := N) (w' := w) f1 fun _ _ _ h => h
    obtain ⟨s4, _⟩ := s3 _ hre r2
    have hlt : j * sz' + sz' ≤ x.size := by
      have : (j + 1) * sz' ≤ cap * sz' := Nat.mul_le_mul_right _ (by omega)
      rw [Nat.succ_mul] at this; omega
    refine ⟨_, storeAt_run hn t6 s1 (by omega) t7 s2, ?_⟩
    have hsetT : setT T i oo (.sl .own (els.set j y)) = T.set i (cs.set oo (.sl .own (els.set j y))) := by unfold setT; rw [t3]
    rw [hsetT]
    exact write_row hm hszz.symm hT' t2 t3 t4 t5 t6 t7 t8 t9 t10 he hfy (eltSet_width hy f2) (by simp; omega) fun v0 q1 q2 => by
      obtain ⟨_, v', z1, z2, z3⟩ := s3 v0 (q1.flEl f1 fun _ _ _ h => h) q2
      exact ⟨v', z1.flEl hfy fun _ _ _ h => h, z2, z3⟩
  | d x =>
    cases x with
    | h k i off => exact storeT_ok hm hs hn ha hp hv
    | _ => cases ha
  | _ => cases ha
end
end Wf

/-
  What operations do: places, parts.
-/
namespace Wf
open Go Go.RowKit

theorem ty_fld {P : Program} {s f off size : Nat} (h : tyFld P s f = some (off, size)) : ∃ fs x, P.underlying s = some (.struct fs) ∧ fs[f]? = some x ∧ x.offset = off ∧ tySize P x.type = some size := by
  unfold tyFld at h
  split at h
  · rename_i fs hu
    cases hx : fs[f]? with
    | none => rw [hx] at h; cases h
    | some x =>
      rw [hx] at h
      cases hi : P.info? x.type with
      | none => simp [hi] at h
      | some i =>
        simp [hi] at h
        exact ⟨fs, x, hu, hx, h.1, by unfold tySize; simp [hi, h.2]⟩
  · cases h

theorem ty_fldAgg {P : Program} {s f : Nat} {ag : Bool} (h : tyFldAgg P s f = some ag) : ∃ fs x, P.underlying s = some (.struct fs) ∧ fs[f]? = some x ∧ tyAgg P x.type = some ag := by
  unfold tyFldAgg at h
  split at h
  · rename_i fs hu
    cases hx : fs[f]? with
    | none => rw [hx] at h; cases h
    | some x => rw [hx] at h; exact ⟨fs, x, hu, hx, h⟩
  · cases h

theorem ty_elem {P : Program} {t sz : Nat} (h : tyElem P t = some sz) : ∃ e, P.underlying t = some (.slice e) ∧ tySize P e = some sz := by
  unfold tyElem at h
  split at h
  · rename_i e hu; exact ⟨e, hu, h⟩
  · cases h

theorem ty_arr {P : Program} {t n sz : Nat} {ag : Bool} (h : tyArr P t = some (n, sz, ag)) : ∃ e, P.underlying t = some (.array n e) ∧ tySize P e = some sz ∧ tyAgg P e = some ag := by
  unfold tyArr at h
  split at h
  · rename_i n' e hu
    cases hi : P.info? e with
    | none => rw [hi] at h; cases h
    | some i =>
      rw [hi] at h
      cases ha : tyAgg P e with
      | none => simp [ha] at h
      | some a =>
        simp [ha] at h
        obtain ⟨rfl, h2, rfl⟩ := h
        exact ⟨e, hu, by unfold tySize; simp [hi, h2], ha⟩
  · cases h

theorem fieldAt_run {P : Program} {s f off size b o : Nat} {w : World} (h : tyFld P s f = some (off, size)) (h0 : size ≠ 0) :
    (Instr.fieldAt s (.pointer (some ⟨b, o, none⟩)) f).run P w = .ok (.pointer (some ⟨b, o + off, none⟩)) w := by
  obtain ⟨fs, x, h1, h2, rfl, h4⟩ := ty_fld h
  simp only [Instr.fieldAt, Sem.run_bind, ty_und h1, Result.andThen_ok]
  simp only [h2, Instr.sureAddr, Sem.run_bind, Sem.run_pure, Result.andThen_ok, fieldPlace, ty_size h4, h0, if_false, Addr.add_lit]

theorem run_part {P : Program} {t n off : Nat} {ag : Bool} {w : World} {cs : Array Value} {v : Value} (hag : tyAgg P t = some ag) (hn : tySize P t = some n)
    (h : if ag then v = .agg (cs.extract off (off + n)) else cs[off]? = some v) : (part t cs off).run P w = .ok v w := by
  unfold part
  simp only [Sem.run_bind, ty_agg hag, Result.andThen_ok]
  cases ag with
  | true => simp at h; simp [ty_size hn, h]
  | false => simp at h; simp [h]

section
variable {c : Ctx} {N : Nat} {w0 : World} {O0 : Nat → Prop} {L Lr : Loc} {w : World}

theorem at_part {d : D} {ag : Bool} {n off : Nat} {cs : List D} {u : Value} (hp : partD ag n off cs = some d) (h0 : ag = true ∨ n = 1)
    (h : Val c L w N (.d (.at_ (.agg cs))) u) : ∃ b o, u = .pointer (some ⟨b, o, none⟩) ∧ Val c L w N (.d (.at_ d)) (.pointer (some ⟨b, o + off, none⟩)) := by
  have hr := h.dat
  cases hr with
  | at_ _ v b o g1 g2 g3 g4 =>
    cases g4 with
    | agg _ vs q1 q2 q3 =>
      obtain ⟨v', r1, r2, r3⟩ := part_rep hp q1 (fun i d u hd hu => ⟨q2 i d u hd hu, q3 i u hu⟩)
      refine ⟨b, o, rfl, .d _ _ (.at_ _ v' _ _ g1 g2 (fun j u hu => ?_) r1)⟩
      have := g3 (off + j) u (by simpa [Value.cells] using r3 j u hu)
      rwa [← Nat.add_assoc] at this

theorem afieldAddr_ok {P : Program} {s f : Nat} {x v : V} {u : Value} (ha : afieldAddr P s x f = some v) (hx : Val c L w N x u)
    (hlive : ∀ g n off, x = .ptr g n off → L.get g n ≠ .dead) (harr : ∀ g n i off, x = .ept g n i off → ∃ sz els l, L.get g n = .arr sz els l ∧ i < els.length) (hrow : ∀ k n i o j off, x = .vept k n i o j off → ∃ els, rowOf L k n i o = some els ∧ j < els.length) :
    ∃ u', (Instr.fieldAt s u f).run P w = .ok u' w ∧ Val c L w N v u' := by
  unfold afieldAddr at ha
  cases hf : tyFld P s f with
  | none => rw [hf] at ha; cases ha
  | some p =>
  obtain ⟨off, size⟩ := p
  cases hag : tyFldAgg P s f with
  | none => rw [hf, hag] at ha; cases ha
  | some ag =>
  rw [hf, hag] at ha
  dsimp only at ha
  split at ha
  · cases ha
  · rename_i h0
    cases x with
    | ptr g n o =>
      injection ha with ha; subst ha
      cases hx with
      | ptr _ _ _ _ k1 k2 =>
        obtain ⟨b, e, rfl⟩ := k2 (hlive _ _ _ rfl)
        exact ⟨_, fieldAt_run hf h0, .ptr _ _ _ _ k1 fun _ => ⟨b, e, rfl⟩⟩
    | ept g n i o =>
      injection ha with ha; subst ha
      cases hx with
      | ept _ _ _ _ _ k1 k2 =>
        obtain ⟨sz, els, l, h1, h2⟩ := harr _ _ _ _ rfl
        obtain ⟨b, e, rfl⟩ := k2 _ _ _ h1 h2
        refine ⟨_, fieldAt_run hf h0, .ept _ _ _ _ _ k1 fun sz' els' l' h1' _ => ⟨b, e, ?_⟩⟩
        rw [h1] at h1'; cases h1'; rw [Nat.add_assoc]
    | vept k n i q j o =>
      injection ha with ha; subst ha
      cases hx with
      | vept _ _ _ _ _ _ _ k1 k2 =>
        obtain ⟨els, h1, h2⟩ := hrow _ _ _ _ _ _ rfl
        obtain ⟨b, e, rfl⟩ := k2 _ h1 h2
        refine ⟨_, fieldAt_run hf h0, .vept _ _ _ _ _ _ _ k1 fun els' h1' _ => ⟨b, e, ?_⟩⟩
        rw [Nat.add_assoc]
    | d y =>
      cases y with
      | at_ z =>
        cases z with
        | agg cs =>
          dsimp only at ha
          cases hp : partD ag size off cs with
          | none => rw [hp] at ha; cases ha
          | some d =>
            rw [hp] at ha
            injection ha with ha; subst ha
            have : ag = true ∨ size = 1 ∨ True := .inr (.inr trivial)
            have hr := hx.dat
            cases hr with
            | at_ _ v b o g1 g2 g3 g4 =>
              cases g4 with
              | agg _ vs q1 q2 q3 =>
                obtain ⟨v', r1, r2, r3⟩ := part_rep hp q1 (fun i d u hd hu => ⟨q2 i d u hd hu, q3 i u hu⟩)
                refine ⟨_, fieldAt_run hf h0, .d _ _ (.at_ _ v' _ _ g1 g2 (fun j u hu => ?_) r1)⟩
                have := g3 (off + j) u (by simpa [Value.cells] using r3 j u hu)
                rwa [← Nat.add_assoc] at this
        | _ => cases ha
      | h k i o =>
        injection ha with ha; subst ha
        have hr := hx.dat
        cases hr with
        | h _ _ _ b hk => exact ⟨_, fieldAt_run hf h0, .d _ _ (.h _ _ _ _ hk)⟩
      | _ => cases ha
    | _ => cases ha

theorem indexAt_slice {P : Program} {t sz b o len cap : Nat} {k : IntKind} {i : Int} (h : tyElem P t = some sz) (h0 : 0 ≤ i) (h1 : i < len) :
    (Instr.indexAt t (.slice (some ⟨b, o, none⟩) len cap) (.int k i)).run P w = .ok (.pointer (some ⟨b, o + i.toNat * sz, none⟩)) w := by
  obtain ⟨e, h2, h3⟩ := ty_elem h
  simp [Instr.indexAt, ty_und h2, asIntOf, h0, h1, ty_size h3, Addr.add_lit]

theorem indexAt_array {P : Program} {t n sz b o : Nat} {ag : Bool} {k : IntKind} {i : Int} (h : tyArr P t = some (n, sz, ag)) (h0 : 0 ≤ i) (h1 : i < n) :
    (Instr.indexAt t (.pointer (some ⟨b, o, none⟩)) (.int k i)).run P w = .ok (.pointer (some ⟨b, o + i.toNat * sz, none⟩)) w := by
  obtain ⟨e, h2, h3, _⟩ := ty_arr h
  simp [Instr.indexAt, ty_und h2, asIntOf, h0, h1, ty_size h3, Addr.add_lit, Instr.sureAddr]

theorem aindexAddr_ok {P : Program} (hm : Mem c N w0 O0 L w) (hs : Sees Lr L) {t : TypeId} {x i v : V} {u ui : Value} (ha : aindexAddr P Lr t x i = some v) (hx : Val c L w N x u) (hi : Val c L w N i ui)
    (hlive : ∀ g n off, x = .ptr g n off → Lr.get g n ≠ .dead) (hbl : ∀ g n off len, x = .bref g n off len → ∃ ag ds, Lr.get g n = .box ag ds) (harr : ∀ g n i off, x = .ept g n i off → ∃ sz els l, L.get g n = .arr sz els l ∧ i < els.length) (hrow : ∀ k n i o j off, x = .vept k n i o j off → ∃ els, rowOf L k n i o = some els ∧ j < els.length) :
    ∃ u', (Instr.indexAt t u ui).run P w = .ok u' w ∧ Val c L w N v u' := by
  unfold aindexAddr at ha
  split at ha
  rotate_left
  · cases ha
  rename_i k j
  have := hi.int; subst this
  split at ha
  · cases ha
  rename_i hneg
  have h0 : 0 ≤ j := by omega
  cases x with
  | d y =>
    cases y with
    | sl tg l =>
      dsimp only at ha
      cases ht : tyElem P t with
      | none => rw [ht] at ha; cases ha
      | some sz =>
      cases hd : l[j.toNat]? with
      | none => rw [ht, hd] at ha; cases ha
      | some d =>
      rw [ht, hd] at ha
      dsimp only at ha
      split at ha
      · rename_i hw
        obtain ⟨hw, hcd⟩ := hw
        injection ha with ha; subst ha
        have hlt : j.toNat < l.length := by
          rcases Nat.lt_or_ge j.toNat l.length with h | h
          · exact h
          · rw [List.getElem?_eq_none h] at hd; cases hd
        have hr := hx.dat
        cases hr with
        | slE _ a cap _ _ _ => simp at hd
        | sl _ _ b o sz' cap vs g1 g1' g2 g3 g4 g5 g6 g7 g8 =>
          obtain ⟨q1, q2⟩ := g8 j.toNat hlt
          have hdr := g7 _ _ hd
          have hz : sz' = sz := by
            have := hdr.cells (by simpa using hcd)
            omega
          subst hz
          exact ⟨_, indexAt_slice ht h0 (by omega), .d _ _ (.at_ _ _ _ _ g4 g6 q2 hdr)⟩
      · cases ha
    | at_ z =>
      cases z with
      | agg cs =>
        dsimp only at ha
        cases ht : tyArr P t with
        | none => rw [ht] at ha; cases ha
        | some p =>
          obtain ⟨n, sz, ag⟩ := p
          rw [ht] at ha
          dsimp only at ha
          split at ha
          · rename_i hlt
            cases hp : partD ag sz (j.toNat * sz) cs with
            | none => rw [hp] at ha; cases ha
            | some d =>
              rw [hp] at ha
              injection ha with ha; subst ha
              have hr := hx.dat
              cases hr with
              | at_ _ v b o g1 g2 g3 g4 =>
                cases g4 with
                | agg _ vs q1 q2 q3 =>
                  obtain ⟨v', r1, r2, r3⟩ := part_rep hp q1 (fun i d u hd hu => ⟨q2 i d u hd hu, q3 i u hu⟩)
                  refine ⟨_, indexAt_array ht h0 (by omega), .d _ _ (.at_ _ v' _ _ g1 g2 (fun j' u hu => ?_) r1)⟩
                  have := g3 (j.toNat * sz + j') u (by simpa [Value.cells] using r3 j' u hu)
                  rwa [← Nat.add_assoc] at this
          · cases ha
      | _ => cases ha
    | h k' ii off =>
      dsimp only at ha
      cases ht : tyArr P t with
      | none => rw [ht] at ha; cases ha
      | some p =>
        obtain ⟨n, sz, ag⟩ := p
        rw [ht] at ha
        dsimp only at ha
        split at ha
        · rename_i hlt
          injection ha with ha; subst ha
          have hr := hx.dat
          cases hr with
          | h _ _ _ b hk => exact ⟨_, indexAt_array ht h0 (by omega), .d _ _ (.h _ _ _ _ hk)⟩
        · cases ha
    | _ => cases ha
  | ref g l off n =>
    dsimp only at ha
    cases ht : tyElem P t with
    | none => rw [ht] at ha; cases ha
    | some sz =>
    cases hy : Lr.get g l with
    | arr sz' els lv =>
      rw [ht, hy] at ha
      dsimp only at ha
      split at ha
      · rename_i hc
        obtain ⟨h1, rfl⟩ := hc
        injection ha with ha; subst ha
        have hL := hs g l (by rw [hy]; simp)
        rw [hy] at hL
        cases hx with
        | ref _ _ _ _ _ k1 k2 k3 =>
          obtain ⟨p1, a, cap, rfl, p3, p4⟩ := k2 _ _ _ hL
          rcases p4 with p4 | ⟨b, y, T, fz, q1, rfl, q3, q4⟩
          · omega
          · refine ⟨_, indexAt_slice ht h0 (by omega), .ept _ _ _ _ _ k1 fun sz2 els2 l2 h2 _ => ⟨b, q1, ?_⟩⟩
            rw [hL] at h2; cases h2
            rw [Nat.add_mul, Nat.add_zero]
      · cases ha
    | _ => rw [ht, hy] at ha; cases ha
  | vref k' l q o off n =>
    dsimp only at ha
    cases ht : tyElem P t with
    | none => rw [ht] at ha; cases ha
    | some sz =>
    cases hy : rowOf Lr k' l q o with
    | none => rw [ht, hy] at ha; cases ha
    | some els =>
      rw [ht, hy] at ha
      dsimp only at ha
      split at ha
      · rename_i hc
        obtain ⟨h1, h2⟩ := hc
        injection ha with ha; subst ha
        have hL := hs.row hy
        cases hx with
        | vref _ _ _ _ _ _ _ k1 k2 =>
          obtain ⟨p1, a, cap, rfl, p3, p4⟩ := k2 _ hL
          rcases p4 with p4 | ⟨b, y, T, fz, q1, rfl, q3, q4⟩
          · omega
          · subst h2
            refine ⟨_, indexAt_slice ht h0 (by omega), .vept _ _ _ _ _ _ _ k1 fun els2 h2' _ => ⟨b, q1, ?_⟩⟩
            rw [Nat.add_mul, Nat.add_zero]
      · cases ha
  | bref g l off n =>
    dsimp only at ha
    cases ht : tyElem P t with
    | none => rw [ht] at ha; cases ha
    | some sz =>
      rw [ht] at ha
      dsimp only at ha
      split at ha
      · rename_i hc
        obtain ⟨rfl, h1⟩ := hc
        injection ha with ha; subst ha
        obtain ⟨ag, ds, hy⟩ := hbl _ _ _ _ rfl
        have hL := hs g l (by rw [hy]; simp)
        rw [hy] at hL
        cases hx with
        | bref _ _ _ _ _ k1 k2 =>
          obtain ⟨p1, b, cap, p2, p3, rfl⟩ := k2 _ (by rw [hL]; rfl)
          refine ⟨_, indexAt_slice ht h0 (by omega), .ptr _ _ _ _ k1 fun _ => ⟨b, p2, ?_⟩⟩
          rw [Nat.mul_one]
      · cases ha
  | ptr g l off =>
    dsimp only at ha
    cases ht : tyArr P t with
    | none => rw [ht] at ha; cases ha
    | some p =>
      obtain ⟨n, sz, ag⟩ := p
      rw [ht] at ha
      dsimp only at ha
      split at ha
      · rename_i hlt
        injection ha with ha; subst ha
        have hd := hlive _ _ _ rfl
        have hL := hs g l hd
        cases hx with
        | ptr _ _ _ _ k1 k2 =>
          obtain ⟨b, e, rfl⟩ := k2 (by rw [hL]; exact hd)
          exact ⟨_, indexAt_array ht h0 (by omega), .ptr _ _ _ _ k1 fun _ => ⟨b, e, rfl⟩⟩
      · cases ha
  | ept g l q off =>
    dsimp only at ha
    cases ht : tyArr P t with
    | none => rw [ht] at ha; cases ha
    | some p =>
      obtain ⟨n, sz, ag⟩ := p
      rw [ht] at ha
      dsimp only at ha
      split at ha
      · rename_i hlt
        injection ha with ha; subst ha
        cases hx with
        | ept _ _ _ _ _ k1 k2 =>
          obtain ⟨sz', els, l', h1, h2⟩ := harr _ _ _ _ rfl
          obtain ⟨b, e, rfl⟩ := k2 _ _ _ h1 h2
          refine ⟨_, indexAt_array ht h0 (by omega), .ept _ _ _ _ _ k1 fun sz2 els2 l2 h1' _ => ⟨b, e, ?_⟩⟩
          rw [h1] at h1'; cases h1'; rw [Nat.add_assoc]
      · cases ha
  | vept k' l q o j' off =>
    dsimp only at ha
    cases ht : tyArr P t with
    | none => rw [ht] at ha; cases ha
    | some p =>
      obtain ⟨n, sz, ag⟩ := p
      rw [ht] at ha
      dsimp only at ha
      split at ha
      · rename_i hlt
        injection ha with ha; subst ha
        cases hx with
        | vept _ _ _ _ _ _ _ k1 k2 =>
          obtain ⟨els, h1, h2⟩ := hrow _ _ _ _ _ _ rfl
          obtain ⟨b, e, rfl⟩ := k2 _ h1 h2
          refine ⟨_, indexAt_array ht h0 (by omega), .vept _ _ _ _ _ _ _ k1 fun els2 h1' _ => ⟨b, e, ?_⟩⟩
          rw [Nat.add_assoc]
      · cases ha
  | _ => cases ha


theorem okPtr_ptr {v : V} (hs : Sees Lr L) (h : okPtr Lr v = true) : (∀ g n off, v = .ptr g n off → Lr.get g n ≠ .dead ∧ L.get g n ≠ .dead) ∧
    (∀ g n i off, v = .ept g n i off → ∃ sz els l, L.get g n = .arr sz els l ∧ i < els.length) ∧ (∀ g n off len, v = .bref g n off len → ∃ ag ds, Lr.get g n = .box ag ds) ∧ (∀ k n i o j off, v = .vept k n i o j off → ∃ els, rowOf L k n i o = some els ∧ j < els.length) := by
  refine ⟨?_, ?_, ?_, ?_⟩
  · rintro g n off rfl
    have h1 : Lr.get g n ≠ .dead := by intro e; simp [okPtr, e] at h
    exact ⟨h1, by rw [hs g n h1]; exact h1⟩
  · rintro g n i off rfl
    simp only [okPtr] at h
    cases hx : Lr.get g n <;> rw [hx] at h <;> simp at h
    exact ⟨_, _, _, by rw [hs g n (by rw [hx]; simp), hx], h⟩
  · rintro g n off len rfl
    simp only [okPtr] at h
    cases hx : Lr.get g n <;> rw [hx] at h <;> simp at h
    exact ⟨_, _, rfl⟩
  · rintro k n i o j off rfl
    simp only [okPtr] at h
    cases hx : rowOf Lr k n i o with
    | none => rw [hx] at h; simp at h
    | some els => rw [hx] at h; exact ⟨els, hs.row hx, by simpa using h⟩

-- slices of slices
theorem sliceBound_run {P : Program} {k : IntKind} {i : Int} {y : Nat} {code : BoundsCode} (h0 : 0 ≤ i) (h1 : i ≤ y) : (Instr.sliceBound (.int k i) y code).run P w = .ok i.toNat w := by
  simp [Instr.sliceBound, asIntOf, h0, h1]

/-- An optional bound, and its value. -/
def OptVal (c : Ctx) (L : Loc) (w : World) (N : Nat) : Option V → Option Value → Prop
  | none, none => True
  | some v, some u => Val c L w N v u
  | _, _ => False

theorem optD_val {x : Option V} {u : Option Value} {y : Option Int} (h : optD x = some y) (hv : OptVal c L w N x u) : (y = none ∧ u = none) ∨ ∃ k n, y = some n ∧ u = some (.int k n) := by
  cases x with
  | none => cases u <;> simp_all [optD, OptVal]
  | some v =>
    cases u with
    | none => simp [OptVal] at hv
    | some u =>
      cases v with
      | d z =>
        cases z <;> simp [optD] at h
        rename_i k n
        subst h
        exact .inr ⟨k, n, rfl, by rw [Val.int hv]⟩
      | _ => simp [optD] at h

theorem bounds_run {P : Program} {isSlice : Bool} {len cap : Nat} {lo hi mx : Option V} {lu hu mu : Option Value} {lo' hi' mx' : Option Int}
    (h1 : optD lo = some lo') (h2 : optD hi = some hi') (h3 : optD mx = some mx') (v1 : OptVal c L w N lo lu) (v2 : OptVal c L w N hi hu) (v3 : OptVal c L w N mx mu)
    (hlc : len ≤ cap) (ha : 0 ≤ lo'.getD 0) (hb : lo'.getD 0 ≤ hi'.getD len) (hc : hi'.getD len ≤ len) (hm : mx'.getD (hi'.getD len) = hi'.getD len) (hmh : mx' ≠ none → hi' ≠ none) :
    (Instr.sliceBounds isSlice len cap lu hu mu).run P w = .ok ((lo'.getD 0).toNat, (hi'.getD len).toNat, if mx'.isSome then (hi'.getD len).toNat else cap) w := by
  unfold Instr.sliceBounds
  have sb : ∀ {k : IntKind} {i : Int} {y : Nat} {code : BoundsCode}, 0 ≤ i → i ≤ y → (Instr.sliceBound (.int k i) y code).run P w = .ok i.toNat w := fun h0 h1 => sliceBound_run h0 h1
  have nn : ¬ ((none : Option Int) ≠ none) := by simp
  rcases optD_val h1 v1 with ⟨rfl, rfl⟩ | ⟨k1, n1, rfl, rfl⟩ <;> rcases optD_val h2 v2 with ⟨rfl, rfl⟩ | ⟨k2, n2, rfl, rfl⟩ <;> rcases optD_val h3 v3 with ⟨rfl, rfl⟩ | ⟨k3, n3, rfl, rfl⟩
  · simp
  · exact absurd rfl (hmh (by simp))
  · simp only [Option.getD_some, Option.getD_none] at *
    simp [sb (k := k2) (i := n2) (y := cap) (by omega) (by omega)]
  · simp only [Option.getD_some, Option.getD_none] at *
    subst hm
    simp [sb (k := k3) (i := n3) (y := cap) (by omega) (by omega), sb (k := k2) (i := n3) (y := n3.toNat) (by omega) (by omega)]
  · simp only [Option.getD_some, Option.getD_none] at *
    simp [sb (k := k1) (i := n1) (y := len) (by omega) (by omega)]
  · exact absurd rfl (hmh (by simp))
  · simp only [Option.getD_some, Option.getD_none] at *
    simp [sb (k := k2) (i := n2) (y := cap) (by omega) (by omega), sb (k := k1) (i := n1) (y := n2.toNat) (by omega) (by omega)]
  · simp only [Option.getD_some, Option.getD_none] at *
    subst hm
    simp [sb (k := k3) (i := n3) (y := cap) (by omega) (by omega), sb (k := k2) (i := n3) (y := n3.toNat) (by omega) (by omega), sb (k := k1) (i := n1) (y := n3.toNat) (by omega) (by omega)]

end
end Wf

/-
  What operations do: slices, and what leaves memory alone.
-/
namespace Wf
open Go Go.RowKit

section
variable {c : Ctx} {N : Nat} {w0 : World} {O0 : Nat → Prop} {L Lr : Loc} {w : World}

theorem sliceAt_slice {P : Program} {t sz len cap l h m : Nat} {a : Option Addr} {lu hu mu : Option Value} (ht : tyElem P t = some sz)
    (hb : (Instr.sliceBounds true len cap lu hu mu).run P w = .ok (l, h, m) w) :
    (Instr.sliceAt t (.slice a len cap) lu hu mu).run P w = .ok (.slice (if m = l then a else a.map (·.add (l * sz))) (h - l) (m - l)) w := by
  obtain ⟨e, h1, h2⟩ := ty_elem ht
  simp [Instr.sliceAt, Instr.slice, ty_und h1, hb, ty_size h2]

theorem drop_take_get {α : Type} {l : List α} {a n i : Nat} {d : α} (h : ((l.drop a).take n)[i]? = some d) : l[a + i]? = some d := by
  rw [List.getElem?_take] at h
  split at h
  · rwa [List.getElem?_drop] at h
  · cases h

theorem aslice_ok {P : Program} (hm : Mem c N w0 O0 L w) (hs : Sees Lr L) {t : TypeId} {x v : V} {lo hi mx : Option V} {u : Value} {lu hu mu : Option Value} (ha : aslice P Lr t x lo hi mx = some v) (hx : Val c L w N x u)
    (v1 : OptVal c L w N lo lu) (v2 : OptVal c L w N hi hu) (v3 : OptVal c L w N mx mu) :
    ∃ u', (Instr.sliceAt t u lu hu mu).run P w = .ok u' w ∧ Val c L w N v u' := by
  unfold aslice at ha
  cases h1 : optD lo with
  | none => rw [h1] at ha; cases ha
  | some lo' =>
  cases h2 : optD hi with
  | none => rw [h1, h2] at ha; cases ha
  | some hi' =>
  cases h3 : optD mx with
  | none => rw [h1, h2, h3] at ha; cases ha
  | some mx' =>
  rw [h1, h2, h3] at ha
  dsimp only at ha
  cases x with
  | d y =>
    cases y with
    | sl tg l =>
      dsimp only at ha
      split at ha
      · rename_i hc
        obtain ⟨c1, c2, c3, c4, c5, c6, c7, c8⟩ := hc
        injection ha with ha; subst ha
        obtain ⟨sz, hsz⟩ := Option.isSome_iff_exists.1 c1
        have hmh : mx' ≠ none → hi' ≠ none := by
          intro e e2; subst e2; cases mx' with
          | none => exact e rfl
          | some _ => simp at c6
        have hr := hx.dat
        have hl' : (((l.drop (lo'.getD 0).toNat).take (hi'.getD ↑l.length - lo'.getD 0).toNat)).length = (hi'.getD ↑l.length).toNat - (lo'.getD 0).toNat := by
          simp; omega
        cases hr with
        | slE _ a cap hfull hnil _ =>
          have hb := bounds_run (P := P) (w := w) (isSlice := true) (len := 0) (cap := cap) h1 h2 h3 v1 v2 v3 (Nat.zero_le _) c2 (by simpa using c3) (by simpa using c4) (by simpa using c5) hmh
          refine ⟨_, sliceAt_slice hsz hb, .d _ _ ?_⟩
          have e1 : lo'.getD 0 = 0 := by simp at c3 c4; omega
          have e2 : hi'.getD ((List.length ([] : List D) : Nat) : Int) = 0 := by simp at c3 c4 ⊢; omega
          have e2' : hi'.getD ((0 : Nat) : Int) = 0 := e2
          simp only [List.drop_nil, List.take_nil, e1, e2', Int.toNat_zero, Nat.sub_zero]
          refine .slE _ _ _ (fun hf => ?_) (fun hf => absurd hf sliceTag_nil) ⟨fun hf => absurd hf sliceTag_nn, fun hf => absurd hf sliceTag_nul⟩
          rcases sliceTag_full hf with h | ⟨h, _⟩
          · simp [h]
          · rw [hfull h]; simp
        | sl _ _ b o sz' cap vs g1 g1' g2 g3 g4 g5 g6 g7 g8 =>
          have hb := bounds_run (P := P) (w := w) (isSlice := true) (len := l.length) (cap := cap) h1 h2 h3 v1 v2 v3 g2 c2 c3 c4 c5 hmh
          refine ⟨_, sliceAt_slice hsz hb, .d _ _ ?_⟩
          have hzz : sz' = sz := by
            cases l with
            | nil => exact absurd rfl g1
            | cons d r =>
              have q1 := g7 0 d (by simp)
              have q2 := (g8 0 (by simp)).1
              simp only [List.all_cons, Bool.and_eq_true] at c7 c8
              have q3 := (q1.cells (by simpa using c7.1)).1
              have q4 : some d.width = tyElem P t := by simpa using c8.1
              rw [hsz] at q4; simp at q4; omega
          subst hzz
          generalize hlo : lo'.getD 0 = A at *
          generalize hhi : hi'.getD (l.length : Int) = H at *
          by_cases he : A = H
          · -- nothing is left
            subst he
            have : (l.drop A.toNat).take (A - A).toNat = [] := by simp
            rw [this]
            simp only [Nat.sub_self]
            refine .slE _ _ _ (fun hf => ?_) (fun hf => absurd hf sliceTag_nil) ⟨fun hf => absurd hf sliceTag_nn, fun hf => absurd hf sliceTag_nul⟩
            rcases sliceTag_full hf with h | ⟨h, h'⟩
            · simp [h]
            · have := of_decide_eq_true h'; rw [g3 h]; split <;> omega
          · have hAH : A < H := by omega
            have hm' : ¬ (if mx'.isSome then H.toNat else cap) = A.toNat := by split <;> omega
            rw [if_neg hm']
            simp only [Option.map_some, Addr.add_lit]
            rw [← hl']
            refine .sl _ _ b (o + A.toNat * sz') sz' _ (fun i => vs (A.toNat + i)) (by intro e; rw [e] at hl'; simp at hl'; omega) sliceTag_nil (by rw [hl']; split <;> omega) ?_ g4 ?_ g6 ?_ ?_
            · intro hf
              rw [hl']
              rcases sliceTag_full hf with h | ⟨h, h'⟩
              · simp [h]
              · have := of_decide_eq_true h'; rw [g3 h]; split <;> omega
            · intro hf
              exact g5 (sliceTag_lent hf)
            · intro i d hd; exact g7 _ d (drop_take_get hd)
            · intro i hi
              rw [hl'] at hi
              obtain ⟨p1, p2⟩ := g8 (A.toNat + i) (by omega)
              refine ⟨p1, fun q y hy => ?_⟩
              have := p2 q y hy
              rw [Nat.add_mul] at this
              rw [show o + A.toNat * sz' + i * sz' + q = o + (A.toNat * sz' + i * sz') + q by omega]; exact this
      · cases ha
    | str s =>
      dsimp only at ha
      split at ha
      · rename_i hc
        obtain ⟨c1, rfl, c2, c3, c4⟩ := hc
        injection ha with ha; subst ha
        have hr := hx.dat
        cases hr
        have hu : P.underlying t = some .string := by
          unfold tyStr at c1; split at c1 <;> simp_all
        rcases optD_val h3 v3 with ⟨_, rfl⟩ | ⟨_, _, e, _⟩
        · have hb := bounds_run (P := P) (w := w) (isSlice := false) (len := s.size) (cap := s.size) h1 h2 h3 v1 v2 v3 (Nat.le_refl _) c2 c3 c4 (by simp) (by simp)
          refine ⟨.string (s.extract (lo'.getD 0).toNat (hi'.getD ↑s.size).toNat), ?_, .d _ _ (.str _)⟩
          simp [Instr.sliceAt, Instr.slice, ty_und hu, hb]
        · cases e
      · cases ha
    | _ => cases ha
  | ref g n off len =>
    dsimp only at ha
    cases ht : tyElem P t with
    | none => rw [ht] at ha; cases ha
    | some sz =>
    cases hy : Lr.get g n with
    | arr sz' els lv =>
      rw [ht, hy] at ha
      dsimp only at ha
      split at ha
      · rename_i hc
        obtain ⟨rfl, c2, c3, c4, c5⟩ := hc
        injection ha with ha; subst ha
        have hL := hs g n (by rw [hy]; simp)
        rw [hy] at hL
        cases hx with
        | ref _ _ _ _ _ k1 k2 k3 =>
          obtain ⟨p1, a, cap, rfl, p3, p4⟩ := k2 _ _ _ hL
          rcases c5 with rfl | ⟨e1, rfl, e3⟩
          · have hb := bounds_run (P := P) (w := w) (isSlice := true) (len := len) (cap := cap) h1 h2 h3 v1 v2 v3 p3 c2 c3 c4 (by simp) (by simp)
            rw [if_pos rfl]
            refine ⟨_, sliceAt_slice ht hb, .ref _ _ _ _ _ k1 (fun sz2 els2 l2 h2' => ?_) (fun sz2 els2 h2' => by rw [hL] at h2'; cases h2')⟩
            rw [hL] at h2'; cases h2'
            generalize hlo : lo'.getD 0 = A at *
            generalize hhi : hi'.getD (len : Int) = H at *
            refine ⟨by omega, _, cap - A.toNat, by rw [show (H - A).toNat = H.toNat - A.toNat by omega]; rfl, by omega, ?_⟩
            rcases p4 with p4 | ⟨b, y, T, fz, q1, rfl, q3, q4⟩
            · exact .inl (by omega)
            · by_cases hcap : cap = A.toNat
              · exact .inl (by omega)
              · refine .inr ⟨b, y, T, fz, q1, ?_, q3, ?_⟩
                · simp [hcap, Addr.add_lit]
                  rw [Nat.add_mul]
                · rw [show off + A.toNat + (cap - A.toNat) = off + cap by omega]; exact q4
          · have hb := bounds_run (P := P) (w := w) (isSlice := true) (len := len) (cap := cap) h1 h2 h3 v1 v2 v3 p3 c2 c3 c4 (by simp) (by intro _ e; rw [e] at e1; cases e1)
            refine ⟨_, sliceAt_slice ht hb, ?_⟩
            rw [if_neg (by simp)]
            simp only [Option.isSome_some, if_true, e3, Nat.sub_self]
            exact .d _ _ (.slE _ _ _ (fun _ => rfl) (fun h => by cases h) (by simp))
      · cases ha
    | _ => rw [ht, hy] at ha; cases ha
  | bref g n off len =>
    dsimp only at ha
    cases ht : tyElem P t with
    | none => rw [ht] at ha; cases ha
    | some sz =>
    cases hy : Lr.get g n with
    | box ag ds =>
      rw [ht, hy] at ha
      dsimp only at ha
      split at ha
      · rename_i hc
        obtain ⟨rfl, c1, c2, c3, c4, e1, rfl, e3⟩ := hc
        injection ha with ha; subst ha
        have hL := hs g n (by rw [hy]; simp)
        rw [hy] at hL
        cases hx with
        | bref _ _ _ _ _ k1 k2 =>
          obtain ⟨p1, b, cap, p2, p3, rfl⟩ := k2 _ (by rw [hL]; rfl)
          have hb := bounds_run (P := P) (w := w) (isSlice := true) (len := len) (cap := cap) h1 h2 h3 v1 v2 v3 p3 c2 c3 c4 (by simp) (by intro _ e; rw [e] at e1; cases e1)
          refine ⟨_, sliceAt_slice ht hb, ?_⟩
          simp only [Option.isSome_some, if_true, e3, Nat.sub_self]
          exact .d _ _ (.slE _ _ _ (fun _ => rfl) (fun h => by cases h) (by simp))
      · cases ha
    | _ => rw [ht, hy] at ha; cases ha
  | vref k n i o off len =>
    dsimp only at ha
    cases ht : tyElem P t with
    | none => rw [ht] at ha; cases ha
    | some sz =>
    cases hy : rowOf Lr k n i o with
    | none => rw [ht, hy] at ha; cases ha
    | some l =>
      rw [ht, hy] at ha
      dsimp only at ha
      split at ha
      · rename_i hc
        obtain ⟨rfl, c1, c2, c3, c4, c5⟩ := hc
        injection ha with ha; subst ha
        have hL := hs.row hy
        cases hx with
        | vref _ _ _ _ _ _ _ k1 k2 =>
          obtain ⟨p1, a, cap, rfl, p3, p4⟩ := k2 _ hL
          rcases c5 with rfl | ⟨e1, rfl, e3⟩
          · have hb := bounds_run (P := P) (w := w) (isSlice := true) (len := len) (cap := cap) h1 h2 h3 v1 v2 v3 p3 c2 c3 c4 (by simp) (by simp)
            rw [if_pos rfl]
            refine ⟨_, sliceAt_slice ht hb, .vref _ _ _ _ _ _ _ k1 fun l2 h2' => ?_⟩
            rw [hL] at h2'; cases h2'
            generalize hlo : lo'.getD 0 = A at *
            generalize hhi : hi'.getD (len : Int) = H at *
            refine ⟨by omega, _, cap - A.toNat, by rw [show (H - A).toNat = H.toNat - A.toNat by omega]; rfl, by omega, ?_⟩
            rcases p4 with p4 | ⟨b, y, T, fz, q1, rfl, q3, q4⟩
            · exact .inl (by omega)
            · by_cases hcap : cap = A.toNat
              · exact .inl (by omega)
              · refine .inr ⟨b, y, T, fz, q1, ?_, q3, ?_⟩
                · simp [hcap, Addr.add_lit]
                  rw [Nat.add_mul]
                · rw [show off + A.toNat + (cap - A.toNat) = off + cap by omega]; exact q4
          · have hb := bounds_run (P := P) (w := w) (isSlice := true) (len := len) (cap := cap) h1 h2 h3 v1 v2 v3 p3 c2 c3 c4 (by simp) (by intro _ e; rw [e] at e1; cases e1)
            refine ⟨_, sliceAt_slice ht hb, ?_⟩
            rw [if_neg (by simp)]
            simp only [Option.isSome_some, if_true, e3, Nat.sub_self]
            exact .d _ _ (.slE _ _ _ (fun _ => rfl) (fun h => by cases h) (by simp))
      · cases ha
  | ptr g n off =>
    dsimp only at ha
    split at ha
    · rename_i k sz ag ad ds ht hy
      split at ha
      · rename_i hc
        obtain ⟨c0, rfl, rfl, c2, c3, c4, c5⟩ := hc
        injection ha with ha; subst ha
        have hL := hs g n (by rw [hy]; simp)
        rw [hy] at hL
        obtain ⟨e, hu, he, _⟩ := ty_arr ht
        cases hx with
        | ptr _ _ _ _ k1 k2 =>
          obtain ⟨b, q1, rfl⟩ := k2 (by rw [hL]; simp)
          rcases optD_val h3 v3 with ⟨_, rfl⟩ | ⟨_, _, e, _⟩
          · have hb := bounds_run (P := P) (w := w) (isSlice := false) (len := k) (cap := k) h1 h2 h3 v1 v2 v3 (Nat.le_refl _) c2 c3 c4 (by simp) (by simp)
            generalize hlo : lo'.getD 0 = A at *
            generalize hhi : hi'.getD (k : Int) = H at *
            simp only [Option.isSome_none, Bool.false_eq_true, if_false] at hb
            refine ⟨.slice (some (if k = A.toNat then ⟨b, off, none⟩ else ⟨b, off + A.toNat, none⟩)) (H.toNat - A.toNat) (k - A.toNat), ?_, .bref _ _ _ _ _ k1 fun k' hk => ?_⟩
            · simp [Instr.sliceAt, ty_und hu, Instr.sureAddr, hb, ty_size he, Addr.add_lit]
            · rw [hL] at hk; simp [HObj.boxLen] at hk; subst hk
              refine ⟨by omega, b, k - A.toNat, q1, by omega, ?_⟩
              rw [show (H - A).toNat = H.toNat - A.toNat by omega]
              congr 2
              split
              · rename_i e
                have : A.toNat = 0 := by omega
                rw [this, Nat.add_zero]
              · rfl
          · cases e
      · cases ha
    all_goals cases ha
  | _ => cases ha

end
end Wf

/-
  What operations do: rows that are read whole; append.
-/
namespace Wf
open Go Go.RowKit

/-- A row of elements in an array of cells. -/
def RowIn (w : World) (A : Nat → Prop) (N : Nat) (γ : Nat → Nat → Option Nat) (sz : Nat) (els : List D) (x : Array Value) : Prop :=
  ∃ vs : Nat → Value, ∀ (i : Nat) (d : D), els[i]? = some d → Rep w A N γ d (vs i) ∧ (vs i).cells.size = sz ∧ ∀ (q : Nat) (u : Value), (vs i).cells[q]? = some u → x[i * sz + q]? = some u

section
variable {c : Ctx} {N : Nat} {w0 : World} {O0 : Nat → Prop} {L Lr : Loc} {w : World}

/-- Where a slice's elements lie. -/
def SrcOf (c : Ctx) (L : Loc) (v : V) (b : Nat) : Prop :=
  ((∃ d, v = .d d) ∧ ¬ own c L b) ∨ (∃ g, g ∈ v.ids ∧ c.ι g = some b ∧ (L g).2 ≠ .dead) ∨ ∃ k n i o lo len, v = .vref k n i o lo len ∧ There L k i (some o) ∧ c.ρ k i o = some b

/-- The elements of a slice, in memory. -/
theorem els_ok (hm : Mem c N w0 O0 L w) (hs : Sees Lr L) {v : V} {u : Value} {l : List D} (he : elsOf Lr v = some l) (hv : Val c L w N v u) :
    ∃ a cap, u = .slice a l.length cap ∧ l.length ≤ cap ∧ (l = [] ∨ ∃ b o sz, ∃ vs : Nat → Value, a = some ⟨b, o, none⟩ ∧ b < w.heap.size ∧ SrcOf c L v b ∧
      ∀ (i : Nat) (d : D), l[i]? = some d → Rep w (own c L) N c.γ d (vs i) ∧ (vs i).cells.size = sz ∧ cellsAt w b (o + i * sz) (vs i)) := by
  have he := hs.els he
  cases v with
  | d y =>
    cases y with
    | sl t l' =>
      simp [elsOf] at he; subst he
      have hr := hv.dat
      cases hr with
      | slE _ a cap _ _ _ => exact ⟨a, cap, rfl, by simp, .inl rfl⟩
      | sl _ _ b o sz cap vs g1 g1' g2 g3 g4 g5 g6 g7 g8 =>
        refine ⟨_, cap, rfl, g2, .inr ⟨b, o, sz, vs, rfl, g6, .inl ⟨⟨_, rfl⟩, g4⟩, fun i d hd => ?_⟩⟩
        have hi : i < l'.length := by
          rcases Nat.lt_or_ge i l'.length with h | h
          · exact h
          · rw [List.getElem?_eq_none h] at hd; cases hd
        exact ⟨g7 i d hd, (g8 i hi).1, (g8 i hi).2⟩
    | _ => cases he
  | ref g n off len =>
    simp only [elsOf] at he
    cases hx : L.get g n with
    | arr sz els lv =>
      rw [hx] at he
      dsimp only at he
      split at he
      · rename_i hle
        injection he with he; subst he
        cases hv with
        | ref _ _ _ _ _ k1 k2 k3 =>
          obtain ⟨_, a, cap, rfl, h4, h5⟩ := k2 _ _ _ hx
          have hlen : ((els.drop off).take len).length = len := by simp; omega
          refine ⟨a, cap, by rw [hlen], by rw [hlen]; exact h4, ?_⟩
          by_cases h0 : len = 0
          · exact .inl (by subst h0; simp)
          · rcases h5 with h5 | ⟨b, y, T, fz, q1, rfl, q3, q4⟩
            · omega
            · have hob := hm.get hx (by simp)
              rw [q1] at hob
              obtain ⟨x', T', fz', g2, g3, g4, us, g5⟩ := hob
              obtain ⟨_, e2⟩ := get_at hx (by simp)
              have hmine := hm.mine g b q1 (by rw [e2]; simp)
              refine .inr ⟨b, off * sz, sz, fun i => us (off + i), rfl, hmine.2.1, .inr (.inl ⟨g, by simp [V.ids], q1, by rw [e2]; simp⟩), fun i d hd => ?_⟩
              obtain ⟨p1, p2, p3⟩ := g5 _ d (drop_take_get hd)
              refine ⟨p1, p2, fun q u hu => ?_⟩
              have := p3 q u hu
              rwa [Nat.add_mul] at this
      · cases he
    | _ => rw [hx] at he; cases he
  | bref g n off len =>
    simp only [elsOf] at he
    cases hx : L.get g n with
    | box ag ds =>
      rw [hx] at he
      dsimp only at he
      split at he
      · rename_i hle
        injection he with he; subst he
        cases hv with
        | bref _ _ _ _ _ k1 k2 =>
          obtain ⟨p1, b, cap, p2, p3, rfl⟩ := k2 _ (by rw [hx]; rfl)
          have hlen : ((ds.drop off).take len).length = len := by simp; omega
          obtain ⟨b', x, T, fz, h1, h2, h3, h4, h5⟩ := hm.get hx (by simp)
          rw [p2] at h1; cases h1
          obtain ⟨_, e2⟩ := get_at hx (by simp)
          have hmine := hm.mine g b p2 (by rw [e2]; simp)
          refine ⟨_, _, by rw [hlen], by rw [hlen]; omega, .inr ⟨b, off, 1, fun i => x.getD (off + i) undef, rfl, hmine.2.1, .inr (.inl ⟨g, by simp [V.ids], p2, by rw [e2]; simp⟩), fun i d hd => ?_⟩⟩
          have hd' := drop_take_get hd
          have hi : off + i < x.size := by
            rcases Nat.lt_or_ge (off + i) ds.length with h | h
            · omega
            · rw [List.getElem?_eq_none h] at hd'; cases hd'
          have hxi : x[off + i]? = some (x.getD (off + i) undef) := by simp [hi]
          obtain ⟨r1, r2⟩ := h5 _ d _ hd' hxi
          refine ⟨r1, by rw [cells_of_one r2]; rfl, fun q u hu => ?_⟩
          rw [cells_of_one r2] at hu
          cases q with
          | zero =>
            simp only [List.getElem?_toArray, List.getElem?_cons_zero, Option.some.injEq] at hu
            rw [Nat.mul_one, Nat.add_zero]
            refine cells_in h2 ?_
            rw [← hu]; exact hxi
          | succ q => simp at hu
      · cases he
    | _ => rw [hx] at he; cases he
  | vref k n i o lo len =>
    simp only [elsOf] at he
    cases hx : rowOf L k n i o with
    | none => rw [hx] at he; cases he
    | some els =>
      rw [hx] at he
      simp only [Option.bind_some] at he
      split at he
      rotate_left
      · cases he
      rename_i hle
      injection he with he; subst he
      cases hv with
      | vref _ _ _ _ _ _ _ k1 k2 =>
        obtain ⟨_, a, cap, rfl, h4, h5⟩ := k2 _ hx
        have hlen : ((els.drop lo).take len).length = len := by simp; omega
        refine ⟨a, cap, by rw [hlen], by rw [hlen]; exact h4, ?_⟩
        by_cases h0 : len = 0
        · exact .inl (by subst h0; simp)
        · rcases h5 with h5 | ⟨b, y, T, fz, q1, rfl, q3, q4⟩
          · omega
          · have hne : els ≠ [] := by rintro rfl; simp at hle; omega
            obtain ⟨wr, T', cs, b', cap', x, ty, fz', vs, t1, t2, t3, t4, t5, t6, t7, t8, t9, t10⟩ := hm.rowAt hx (.inl hne)
            rw [q1] at t5; cases t5
            generalize hszz : rowSz k o = sz' at *
            refine .inr ⟨b, lo * sz', sz', fun j => vs (lo + j), rfl, lt_of_heap t6, .inr (.inr ⟨k, n, i, o, lo, len, rfl, ⟨wr, T', _, t1, by unfold cellT; rw [t3]; exact t4, rfl⟩, q1⟩), fun j d hd => ?_⟩
            obtain ⟨f1, f2, f3, f4, f5⟩ := t10 _ d (drop_take_get hd)
            refine ⟨f2.flEl f1 fun _ _ _ h => h, f4, fun q u hu => ?_⟩
            have := f5 q u hu
            rwa [Nat.add_mul] at this
  | _ => cases he

theorem okEls_spec {sz : Nat} {l : List D} (h : okEls sz l = true) {i : Nat} {d : D} (hd : l[i]? = some d) : d.width = sz ∧ (d.cell = true ∨ d.isAgg = true) := by
  unfold okEls at h
  rw [List.all_eq_true] at h
  have := h d (List.mem_of_getElem? hd)
  simpa using this

theorem firstCells_of {P : Program} {A : Nat → Prop} {γ : Nat → Nat → Option Nat} {l : List D} {b o sz cap : Nat} {vs : Nat → Value}
    (h : ∀ (i : Nat) (d : D), l[i]? = some d → Rep w A N γ d (vs i) ∧ (vs i).cells.size = sz ∧ cellsAt w b (o + i * sz) (vs i)) :
    ∃ x, (∀ w' : World, (∀ a, w'.cell? a = w.cell? a) → (Builtin.firstCells sz l.length (.slice (some ⟨b, o, none⟩) l.length cap)).run P w' = .ok x w') ∧ x.size = l.length * sz ∧ RowIn w A N γ sz l x ∧
      ∀ (k : Nat) (y : Value), x[k]? = some y → ∃ (i : Nat) (d : D) (q : Nat), l[i]? = some d ∧ (vs i).cells[q]? = some y := by
  let f : Nat → Value := fun k => ((vs (k / sz)).cells[k % sz]?).getD undef
  have hf : ∀ (i q : Nat) (d : D) (u : Value), l[i]? = some d → (vs i).cells[q]? = some u → f (i * sz + q) = u := by
    intro i q d u hd hu
    have hq : q < sz := by
      rcases Nat.lt_or_ge q (vs i).cells.size with h' | h'
      · rw [(h i d hd).2.1] at h'; exact h'
      · rw [Array.getElem?_eq_none h'] at hu; cases hu
    have e1 : (i * sz + q) / sz = i := by
      rw [Nat.mul_comm, Nat.mul_add_div (by omega), Nat.div_eq_of_lt hq]; omega
    have e2 : (i * sz + q) % sz = q := by rw [Nat.mul_comm, Nat.mul_add_mod, Nat.mod_eq_of_lt hq]
    simp only [f, e1, e2, hu, Option.getD_some]
  have hk : ∀ k, k < l.length * sz → ∃ d u, l[k / sz]? = some d ∧ (vs (k / sz)).cells[k % sz]? = some u ∧ k = k / sz * sz + k % sz := by
    intro k hk
    have h0 : 0 < sz := by
      rcases Nat.eq_zero_or_pos sz with h' | h'
      · rw [h'] at hk; simp at hk
      · exact h'
    have h1 : k / sz < l.length := by rw [Nat.div_lt_iff_lt_mul h0]; exact hk
    have h2 : k % sz < (vs (k / sz)).cells.size := by rw [(h _ _ (List.getElem?_eq_getElem h1)).2.1]; exact Nat.mod_lt _ h0
    exact ⟨_, _, List.getElem?_eq_getElem h1, Array.getElem?_eq_getElem h2, by rw [Nat.mul_comm]; exact (Nat.div_add_mod k sz).symm⟩
  refine ⟨((List.range (l.length * sz)).map f).toArray, ?_, by simp, ⟨vs, fun i d hd => ⟨(h i d hd).1, (h i d hd).2.1, fun q u hu => ?_⟩⟩, ?_⟩
  · intro w' hw'
    simp only [Builtin.firstCells]
    refine run_loadCells w' _ _ f fun j hj => ?_
    rw [hw']
    obtain ⟨d, u, h1, h2, h3⟩ := hk j hj
    have := (h _ d h1).2.2 _ u h2
    rw [Addr.add_lit]
    have e : f j = u := by rw [h3]; exact hf _ _ d u h1 h2
    rw [e]
    rw [show o + j = o + j / sz * sz + j % sz by omega]; exact this
  · have hi : i < l.length := by
      rcases Nat.lt_or_ge i l.length with h' | h'
      · exact h'
      · rw [List.getElem?_eq_none h'] at hd; cases hd
    have hq : q < sz := by
      rcases Nat.lt_or_ge q (vs i).cells.size with h' | h'
      · rw [(h i d hd).2.1] at h'; exact h'
      · rw [Array.getElem?_eq_none h'] at hu; cases hu
    have hlt : i * sz + q < l.length * sz := by
      have : (i + 1) * sz ≤ l.length * sz := Nat.mul_le_mul_right _ hi
      rw [Nat.succ_mul] at this; omega
    simp [hlt, hf i q d u hd hu]
  · intro k y hy
    have hlt : k < l.length * sz := by
      rcases Nat.lt_or_ge k (l.length * sz) with h' | h'
      · exact h'
      · rw [Array.getElem?_eq_none (by simpa using h')] at hy; cases hy
    obtain ⟨d, u, h1, h2, h3⟩ := hk k hlt
    simp [hlt] at hy
    rw [h3, hf _ _ d u h1 h2] at hy
    subst hy
    exact ⟨_, d, _, h1, h2⟩

/-- All cells of a slice, read. -/
theorem firstCells_ok {P : Program} (hm : Mem c N w0 O0 L w) (hs : Sees Lr L) {v : V} {u : Value} {l : List D} {sz : Nat} (he : elsOf Lr v = some l) (hv : Val c L w N v u) (hok : okEls sz l = true) :
    ∃ x, (∀ w' : World, (∀ a, w'.cell? a = w.cell? a) → (Builtin.firstCells sz l.length u).run P w' = .ok x w') ∧ x.size = l.length * sz ∧ RowIn w (own c L) N c.γ sz l x ∧ ∀ (k : Nat) (y : Value), x[k]? = some y → y.oneCell' = true := by
  obtain ⟨a, cap, rfl, hc, h⟩ := els_ok hm hs he hv
  rcases h with rfl | ⟨b, o, sz', vs, rfl, hb, _, h⟩
  · refine ⟨#[], ?_, by simp, ⟨fun _ => undef, by simp⟩, by simp⟩
    intro w' _
    cases a with
    | none => simp [Builtin.firstCells]
    | some a => simp [Builtin.firstCells, loadCells, loadCellsFrom]
  · by_cases h0 : l = []
    · subst h0
      exact ⟨#[], fun w' _ => by simp [Builtin.firstCells, loadCells, loadCellsFrom], by simp, ⟨fun _ => undef, by simp⟩, by simp⟩
    · have hsz : ∀ (i : Nat) (d : D), l[i]? = some d → (vs i).cells.size = sz ∧ ∀ (q : Nat) (u : Value), (vs i).cells[q]? = some u → u.oneCell' = true := by
        intro i d hd
        obtain ⟨h1, h2⟩ := okEls_spec hok hd
        have := ((h i d hd).1).cells h2
        exact ⟨by omega, this.2⟩
      have hzz : sz' = sz := by
        cases l with
        | nil => exact absurd rfl h0
        | cons d r => rw [← (h 0 d (by simp)).2.1]; exact (hsz 0 d (by simp)).1
      subst hzz
      obtain ⟨x, h1, h2, h3, h4⟩ := firstCells_of (P := P) (cap := cap) h
      refine ⟨x, h1, h2, h3, fun k y hy => ?_⟩
      obtain ⟨i, d, q, p1, p2⟩ := h4 k y hy
      exact (hsz i d p1).2 q y p2

theorem nextslicecap_le (n c : Nat) (h : c < n) : Builtin.nextslicecap n c ≤ 2 * n + 2000 := by
  have hg : ∀ r c, Builtin.growBy n r c ≤ max c (2 * n + 2000) := by
    intro r
    induction r with
    | zero => intro c; simp only [Builtin.growBy]; omega
    | succ r ih =>
      intro c
      simp only [Builtin.growBy]
      split
      · omega
      · have := ih (c + (c + 768) / 4); omega
  unfold Builtin.nextslicecap
  split
  · omega
  · split
    · omega
    · have := hg 4 c; omega

theorem append_ty {P : Program} {ty n sz : Nat} (h : appendTy P ty n = some sz) : ∃ e i z zv, P.underlying ty = some (.slice e) ∧ P.info? e = some i ∧ i.size = sz ∧ i.zero = some zv ∧ valD zv = some z ∧
    0 < sz ∧ z.width = sz ∧ (z.cell || z.isAgg) = true ∧ i.bytes ≤ 4096 ∧ n ≤ 2 ^ 32 := by
  unfold appendTy at h
  split at h
  · rename_i e hu
    cases hi : P.info? e with
    | none => rw [hi] at h; cases h
    | some i =>
    cases hz : tyZero P e with
    | none => rw [hi, hz] at h; cases h
    | some z =>
      rw [hi, hz] at h
      dsimp only at h
      split at h
      · rename_i hc
        injection h with h; subst h
        unfold tyZero at hz
        rw [hi] at hz
        simp only [Option.bind_some] at hz
        cases hzz : i.zero with
        | none => rw [hzz] at hz; cases hz
        | some zv => rw [hzz] at hz; exact ⟨e, i, z, zv, hu, hi, rfl, hzz, hz, hc⟩
      · cases h
  · cases h

theorem valD_cells {v : Value} {d : D} (h : valD v = some d) : v.cells.size = d.width ∧ ((d.cell || d.isAgg) = true → ∀ (i : Nat) (u : Value), v.cells[i]? = some u → u.oneCell' = true) ∧ ∀ w A N γ, Rep w A N γ d v := by
  have one : ∀ {v : Value} {d : D}, cellD v = some d → d.cell = true ∧ v.oneCell' = true ∧ d.width = 1 ∧ ∀ w A N γ, Rep w A N γ d v := by
    intro v d hd
    cases v with
    | int k n => simp [cellD] at hd; subst hd; exact ⟨rfl, rfl, rfl, fun _ _ _ _ => .int _ _⟩
    | bool b => simp [cellD] at hd; subst hd; exact ⟨rfl, rfl, rfl, fun _ _ _ _ => .bool _⟩
    | string s => simp [cellD] at hd; subst hd; exact ⟨rfl, rfl, rfl, fun _ _ _ _ => .str _⟩
    | pointer a => cases a <;> simp [cellD] at hd; subst hd; exact ⟨rfl, rfl, rfl, fun _ _ _ _ => .nilp⟩
    | slice a l k =>
      cases a with
      | some a => simp [cellD] at hd
      | none =>
        cases l with
        | succ l => simp [cellD] at hd
        | zero =>
          cases k with
          | succ k => simp [cellD] at hd
          | zero => simp [cellD] at hd; subst hd; exact ⟨rfl, rfl, rfl, fun _ _ _ _ => .slE _ _ _ (fun _ => rfl) (fun _ => ⟨rfl, rfl⟩) (by simp)⟩
    | map r => cases r <;> simp [cellD] at hd; subst hd; exact ⟨rfl, rfl, rfl, fun _ _ _ _ => .nilm⟩
    | nilFunc => simp [cellD] at hd; subst hd; exact ⟨rfl, rfl, rfl, fun _ _ _ _ => .nilfn⟩
    | _ => simp [cellD] at hd
  by_cases hag : ∃ cs, v = .agg cs
  · obtain ⟨cs, rfl⟩ := hag
    simp only [valD] at h
    cases hm : cs.toList.mapM cellD with
    | none => rw [hm] at h; cases h
    | some ds =>
      rw [hm] at h; simp at h; subst h
      have key : ∀ (l : List Value) (ds : List D), l.mapM cellD = some ds → l.length = ds.length ∧ ∀ (i : Nat) (d : D) (v : Value), ds[i]? = some d → l[i]? = some v → cellD v = some d := by
        intro l
        induction l with
        | nil => intro ds h; simp at h; subst h; simp
        | cons v l ih =>
          intro ds h
          simp only [List.mapM_cons] at h
          cases h1 : cellD v with
          | none => rw [h1] at h; cases h
          | some d =>
            rw [h1] at h
            cases h2 : l.mapM cellD with
            | none => rw [h2] at h; cases h
            | some r =>
              rw [h2] at h
              injection h with h; subst h
              obtain ⟨p1, p2⟩ := ih r h2
              refine ⟨by simp [p1], fun i d' v' hd hv => ?_⟩
              cases i with
              | zero => simp at hd hv; subst hd; subst hv; exact h1
              | succ i => exact p2 i d' v' (by simpa using hd) (by simpa using hv)
      obtain ⟨p1, p2⟩ := key _ _ hm
      have hsz : cs.size = ds.length := by simpa using p1
      refine ⟨by simp [Value.cells, D.width, hsz], fun _ i u hu => ?_, fun w A N γ => .agg _ _ hsz ?_ ?_⟩
      · simp only [Value.cells] at hu
        have hi : i < ds.length := by
          rcases Nat.lt_or_ge i cs.size with h' | h'
          · omega
          · rw [Array.getElem?_eq_none h'] at hu; cases hu
        exact (one (p2 i _ u (List.getElem?_eq_getElem hi) (by simpa using hu))).2.1
      · intro i d v hd hv; exact (one (p2 i d v hd (by simpa using hv))).2.2.2 _ _ _ _
      · intro i u hu
        have hi : i < ds.length := by
          rcases Nat.lt_or_ge i cs.size with h' | h'
          · omega
          · rw [Array.getElem?_eq_none h'] at hu; cases hu
        exact (one (p2 i _ u (List.getElem?_eq_getElem hi) (by simpa using hu))).2.1
  · have h' : cellD v = some d := by
      cases v <;> first | exact h | exact absurd ⟨_, rfl⟩ hag
    obtain ⟨h1, h2, h3, h4⟩ := one h'
    refine ⟨by rw [cells_of_one h2, h3]; rfl, fun _ i u hu => ?_, h4⟩
    rw [cells_of_one h2] at hu
    cases i with
    | zero => simp at hu; subst hu; exact h2
    | succ i => simp at hu

end
end Wf

/-
  What operations do: new memory.
-/
namespace Wf
open Go Go.RowKit

section
variable {c : Ctx} {N : Nat} {w0 : World} {O0 : Nat → Prop} {L Lr : Loc} {w : World}

theorem Mem.drewN (h : Mem c N w0 O0 L w) (k : Nat) : Mem c N w0 O0 L (w.drewN k) ∧ Grow c L w c L (w.drewN k) := by
  have hg : Grow c L w c L (w.drewN k) := ⟨Nat.le_refl _, fun _ _ _ => rfl, fun _ _ h => h, fun _ _ _ h => h, fun _ _ _ _ _ => rfl, fun _ h => ⟨h, rfl, rfl⟩, fun _ y _ fz h _ => ⟨y, fz, h, rfl⟩, fun _ => Nat.le_refl _, fun _ _ => .inr ⟨rfl, Compat.refl _⟩⟩
  exact ⟨⟨fun g => (h.obj g).grow hg fun _ _ _ => rfl, h.inj, h.mine, h.mineN, h.tab.stable (fun _ => rfl) rfl rfl rfl fun _ _ _ _ _ _ => rfl, h.iotab, h.only, h.size, h.size0, h.os, h.tape, h.output, h.keep, h.osub⟩, hg⟩
theorem Mem.drew (h : Mem c N w0 O0 L w) : Mem c N w0 O0 L w.drew ∧ Grow c L w c L w.drew := by
  have hg : Grow c L w c L w.drew := ⟨Nat.le_refl _, fun _ _ _ => rfl, fun _ _ h => h, fun _ _ _ h => h, fun _ _ _ _ _ => rfl, fun _ h => ⟨h, rfl, rfl⟩, fun _ y _ fz h _ => ⟨y, fz, h, rfl⟩, fun _ => Nat.le_refl _, fun _ _ => .inr ⟨rfl, Compat.refl _⟩⟩
  exact ⟨⟨fun g => (h.obj g).grow hg fun _ _ _ => rfl, h.inj, h.mine, h.mineN, h.tab.stable (fun _ => rfl) rfl rfl rfl fun _ _ _ _ _ _ => rfl, h.iotab, h.only, h.size, h.size0, h.os, h.tape, h.output, h.keep, h.osub⟩, hg⟩

/-- A row as an object: the frame's own, or taken out of a table. -/
def RowObj (sz : Nat) (els : List D) (z : HObj) : Prop := z = .arr sz els true ∨ z = .trow sz els
theorem RowObj.ok {sz els z β} (h : RowObj sz els z) : ObjOk c L w N β z ↔ ObjOk c L w N β (.arr sz els true) := by
  rcases h with rfl | rfl <;> cases β <;> exact Iff.rfl
theorem RowObj.val {sz els z t n u} (h : RowObj sz els z) (hL : L t = (n, z)) (hs : SlAt w (c.ι t) sz 0 els.length u) : Val c L w N (.ref t n 0 els.length) u := by
  have hg : L.get t n = z := by unfold Loc.get; rw [hL]; simp
  refine .ref _ _ _ _ _ (by rw [hL]; exact Nat.le_refl _) (fun sz' els' l' h' => ?_) (fun sz' els' h' => ?_)
  · rw [hg] at h'
    rcases h with rfl | rfl
    · cases h'; exact ⟨by omega, hs⟩
    · cases h'
  · rw [hg] at h'
    rcases h with rfl | rfl
    · cases h'
    · cases h'; exact ⟨by omega, hs⟩

/-- A new row at a place. -/
theorem new_rowZ {t sz : Nat} {els : List D} {x : Array Value} {T : TypeId} {wr : Wr} {z : HObj} (hz : RowObj sz els z) (ht0 : t < 100000) (hr : RowIn w (own c (L.upd wr)) N c.γ sz els x) {cap : Nat}
    (hm' : Mem c N w0 O0 (L.upd wr) w) (hg' : Grow c L w c (L.upd wr) w) (ht : (L.upd wr t).1 < L.new t) (hcap : cap * sz ≤ x.size) (hle : els.length ≤ cap) :
    Did c N w0 O0 L w { v := .ref t (L.new t) 0 els.length, wr := wr ++ [(t, (L.new t, z))] } (.slice (some ⟨w.heap.size, 0, none⟩) els.length cap) (w.alloc (.cells x T)) := by
  have hg := Grow.alloc hm' (.cells x T) t (L.new t) z ht0 ht
  have hcell : ∀ k, (w.alloc (.cells x T)).cell? ⟨w.heap.size, k, none⟩ = x[k]? := fun k => World.cell?_alloc_new w x T k
  have hheap : (w.alloc (.cells x T)).heap[w.heap.size]? = some (.cells x T) := by
    show (w.heap.push (.cells x T))[w.heap.size]? = _
    simp
  have hmm := Mem.alloc hm' (.cells x T) t (L.new t) z ht0 ht (hz.ok.2 (by
    obtain ⟨vs, hvs⟩ := hr
    refine ⟨x, T, (0, 0), hheap, fun i _ => World.frozen?_alloc_new w x T i, ?_, vs, fun i d hd => ?_⟩
    · exact Nat.le_trans (Nat.mul_le_mul_right _ hle) hcap
    · obtain ⟨p1, p2, p3⟩ := hvs i d hd
      exact ⟨p1.grow hg, p2, fun q u hu => by rw [hcell]; simpa using p3 q u hu⟩))
  refine ⟨c.at t (some w.heap.size), ?_, ?_, ?_⟩
  · rw [Loc.upd_append]; exact hmm
  · rw [Loc.upd_append]; exact hg'.trans hg
  · rw [Loc.upd_append]
    refine hz.val (by simp [Loc.upd, Loc.set_same]) ⟨_, cap, rfl, hle, ?_⟩
    by_cases hc : cap = 0
    · exact .inl hc
    · exact .inr ⟨w.heap.size, x, T, (0, 0), by simp [Ctx.at], by simp, hheap, by simpa using hcap⟩
theorem new_row {t sz : Nat} {els : List D} {x : Array Value} {T : TypeId} {wr : Wr} (ht0 : t < 100000) (hr : RowIn w (own c (L.upd wr)) N c.γ sz els x) {cap : Nat}
    (hm' : Mem c N w0 O0 (L.upd wr) w) (hg' : Grow c L w c (L.upd wr) w) (ht : (L.upd wr t).1 < L.new t) (hcap : cap * sz ≤ x.size) (hle : els.length ≤ cap) :
    Did c N w0 O0 L w { v := .ref t (L.new t) 0 els.length, wr := wr ++ [(t, (L.new t, .arr sz els true))] } (.slice (some ⟨w.heap.size, 0, none⟩) els.length cap) (w.alloc (.cells x T)) :=
  new_rowZ (.inl rfl) ht0 hr hm' hg' ht hcap hle

/-- A table's cell is given up. -/
theorem TabRel.clear {R : Nat → Prop} (h : TabRel L c R w) {k i o : Nat} {T : Tb} {cs : List D} {els : List D} {c' : Ctx} {L' : Loc} {w' : World} (hT : tabOf L k = some (true, T)) (hi : T[i]? = some cs) (hc : cs[o]? = some (.sl .own els))
    (hL' : ∀ k', tabOf L' k' = if k' = k then some (true, T.set i (cs.set o .undef)) else tabOf L k') (hγ : c'.γ = c.γ) (hρ : c'.ρ = c.ρ) (hO1 : ∀ b, c'.O b → c.O b) (hO2 : ∀ b, c.O b → c.ρ k i o ≠ some b → c'.O b)
    (hw : ∀ q, c.ρ k i o ≠ some q → w'.heap[q]? = w.heap[q]?) : TabRel L' c' R w' := by
  have hil := lt_of_get hi
  have hol := lt_of_get hc
  have hth : There L k i (some o) := ⟨true, T, _, hT, by unfold cellT; rw [hi]; exact hc, rfl⟩
  have htab : ∀ k i q, c'.tab k i q = c.tab k i q := fun k i q => by cases q <;> simp only [Ctx.tab, hγ, hρ]
  have hthere : ∀ k' i' q, There L' k' i' q → There L k' i' q ∧ (k', i', q) ≠ (k, i, some o) := by
    intro k' i' q hq
    by_cases ek : k' = k
    · subst ek
      cases q with
      | none =>
        obtain ⟨wr, T0, h1, h2⟩ := hq
        rw [hL', if_pos rfl] at h1
        cases h1
        exact ⟨⟨_, _, hT, by simpa using h2⟩, by simp⟩
      | some o' =>
        obtain ⟨wr, T0, x, h1, h2, h3⟩ := hq
        rw [hL', if_pos rfl] at h1
        cases h1
        rw [cellT_set hil] at h2
        by_cases ei : i' = i
        · subst ei
          rw [if_pos rfl, List.getElem?_set] at h2
          by_cases eo : o = o'
          · subst eo; rw [if_pos rfl, if_pos hol] at h2; cases h2; cases h3
          · rw [if_neg eo] at h2
            exact ⟨⟨_, _, x, hT, by unfold cellT; rw [hi]; exact h2, h3⟩, by simpa using fun e => eo e.symm⟩
        · rw [if_neg ei] at h2
          exact ⟨⟨_, _, x, hT, h2, h3⟩, by simp [ei]⟩
    · refine ⟨?_, by simp [ek]⟩
      cases q with
      | none =>
        obtain ⟨wr, T0, h1, h2⟩ := hq
        rw [hL', if_neg ek] at h1
        exact ⟨_, _, h1, h2⟩
      | some o' =>
        obtain ⟨wr, T0, x, h1, h2, h3⟩ := hq
        rw [hL', if_neg ek] at h1
        exact ⟨_, _, x, h1, h2, h3⟩
  have hne : ∀ k' i' q b', There L k' i' q → c.tab k' i' q = some b' → (k', i', q) ≠ (k, i, some o) → c.ρ k i o ≠ some b' := by
    intro k' i' q b' h1 h2 h3 h4
    obtain ⟨a1, a2, a3⟩ := h.inj k' i' q k i (some o) b' h1 hth h2 h4
    subst a1; subst a2; subst a3; exact h3 rfl
  have keepObj : ∀ (k' : Nat) (wr : Bool) (T0 : Tb) (i' : Nat) (cs0 cs1 : List D), tabOf L k' = some (wr, T0) → T0[i']? = some cs0 → cs1.length = cs0.length → (∀ o' d1, cs1[o']? = some d1 → d1 = .undef ∧ o' < cs0.length ∨ (k', i', o') ≠ (k, i, o) ∧ cs0[o']? = some d1) →
      ∃ (b : Nat) (x : Array Value) (ty : TypeId) (fz : Nat × Nat), c'.γ k' i' = some b ∧ w'.heap[b]? = some (.cells x ty fz) ∧ Unfrozen w' b x.size ∧ x.size = cs1.length ∧
        ∀ (o : Nat) (d : D) (u : Value), cs1[o]? = some d → x[o]? = some u → u.oneCell' = true ∧ CellOk c'.γ w' (rowSz k' o) (c'.ρ k' i' o) d u := by
    intro k' wr T0 i' cs0 cs1 h1 h2 h3 h4
    obtain ⟨b', x, ty, fz, p1, p2, p3, p4, p5⟩ := h.obj k' wr T0 i' cs0 h1 h2
    have e := hw b' (hne k' i' none b' ⟨wr, T0, h1, lt_of_get h2⟩ p1 (by simp))
    refine ⟨b', x, ty, fz, by rw [hγ]; exact p1, by rw [e]; exact p2, fun j hj => by rw [frozen_same e]; exact p3 j hj, by omega, fun o' d1 u hd1 hu => ?_⟩
    rcases h4 o' d1 hd1 with ⟨rfl, e1⟩ | ⟨e1, e2⟩
    · exact ⟨(p5 o' cs0[o'] u (by simp) hu).1, .undef u⟩
    · obtain ⟨a1, a2⟩ := p5 o' d1 u e2 hu
      refine ⟨a1, ?_⟩
      rw [hγ, hρ]
      by_cases hr : d1.isRow = true
      · refine a2.mono (fun b2 hb2 => hw b2 (hne k' i' (some o') b2 ⟨wr, T0, d1, h1, by unfold cellT; rw [h2]; exact e2, hr⟩ hb2 ?_)) fun _ _ _ h => h
        simpa using e1
      · cases a2 with
        | undef u => exact .undef u
        | flat _ _ f1 f2 => exact .flat _ _ f1 (f2.fl f1 fun _ _ _ h => h).1
        | rowE a h => exact absurd rfl hr
        | row => exact absurd rfl hr
        | mp => exact absurd rfl hr
  refine ⟨fun k' wr T0 i' cs0 h1 h2 => ?_, fun k' wr T0 i' b' h1 h2 => ?_, fun k1 i1 q1 k2 i2 q2 b' h1 h2 h3 h4 => ?_, fun k' T0 i' q b' h1 h2 h3 => ?_, fun k' T0 i' q b' h1 h2 h3 => ?_⟩
  · rw [hL'] at h1
    by_cases ek : k' = k
    · subst ek
      rw [if_pos rfl] at h1; cases h1
      rw [set_at hil] at h2
      by_cases ei : i' = i
      · subst ei
        rw [if_pos rfl] at h2; cases h2
        refine keepObj k' true T i' cs _ hT hi (by simp) fun o' d1 hd1 => ?_
        rw [List.getElem?_set] at hd1
        by_cases eo : o = o'
        · subst eo; rw [if_pos rfl, if_pos hol] at hd1; injection hd1 with hd1; exact .inl ⟨hd1.symm, hol⟩
        · rw [if_neg eo] at hd1; exact .inr ⟨by simpa using fun h => eo h.symm, hd1⟩
      · rw [if_neg ei] at h2
        exact keepObj k' true T i' cs0 _ hT h2 rfl fun o' d1 hd1 => .inr ⟨by simp [ei], hd1⟩
    · rw [if_neg ek] at h1
      exact keepObj k' wr T0 i' cs0 _ h1 h2 rfl fun o' d1 hd1 => .inr ⟨by simp [ek], hd1⟩
  · rw [hL'] at h1
    rw [hγ] at h2
    by_cases ek : k' = k
    · subst ek
      rw [if_pos rfl] at h1; cases h1
      simpa using h.tight k' true T i' b' hT h2
    · rw [if_neg ek] at h1; exact h.tight k' wr T0 i' b' h1 h2
  · rw [htab] at h3 h4
    exact h.inj _ _ _ _ _ _ b' (hthere _ _ _ h1).1 (hthere _ _ _ h2).1 h3 h4
  · rw [htab] at h3
    obtain ⟨a1, a2⟩ := hthere _ _ _ h2
    refine hO2 b' ?_ (hne _ _ _ _ a1 h3 a2)
    rw [hL'] at h1
    by_cases ek : k' = k
    · subst ek; exact h.wr k' T i' q b' hT a1 h3
    · rw [if_neg ek] at h1; exact h.wr k' T0 i' q b' h1 a1 h3
  · rw [htab] at h3
    obtain ⟨a1, a2⟩ := hthere _ _ _ h2
    rw [hL'] at h1
    by_cases ek : k' = k
    · subst ek; rw [if_pos rfl] at h1; cases h1
    · rw [if_neg ek] at h1
      obtain ⟨b1, b2⟩ := h.ro k' T0 i' q b' h1 a1 h3
      exact ⟨fun e => b1 (hO1 _ e), b2⟩

theorem tbOn_clear {T : Tb} {i o : Nat} {cs : List D} (hi : T[i]? = some cs) : TbOn T (T.set i (cs.set o .undef)) := by
  intro i' o'
  rw [cellT_set (lt_of_get hi)]
  by_cases ei : i' = i
  · subst ei
    rw [if_pos rfl, List.getElem?_set]
    have hcT : cellT T i' o' = cs[o']? := by unfold cellT; rw [hi]; rfl
    rw [hcT]
    by_cases eo : o = o'
    · subst eo
      rw [if_pos rfl]
      split
      · exact ⟨fun l h => (by cases h), fun k es h => (by cases h)⟩
      · exact ⟨fun l h => (by cases h), fun k es h => (by cases h)⟩
    · rw [if_neg eo]
      exact ⟨fun l h => ⟨l, h, rfl⟩, fun k es h => ⟨es, h⟩⟩
  · rw [if_neg ei]
    exact ⟨fun l h => ⟨l, h, rfl⟩, fun k es h => ⟨es, h⟩⟩

/-- A row is given up by its table. -/
theorem take_row (hm : Mem c N w0 O0 L w) {k n i o : Nat} {T : Tb} {cs els : List D} (hT : tabOf L k = some (true, T)) (hver : (L (tb k)).1 = n) (hi : T[i]? = some cs) (hc : cs[o]? = some (.sl .own els)) :
    Mem c N w0 O0 (L.upd [(tb k, (n, .tbl true (T.set i (cs.set o .undef))))]) w ∧ Grow c L w c (L.upd [(tb k, (n, .tbl true (T.set i (cs.set o .undef))))]) w := by
  obtain ⟨b, x, ty, fz, q1, q2, q3, q4, q5⟩ := hm.tab.obj k true T i cs hT hi
  have hbO : c.O b := hm.tab.wr k T i none b hT ⟨true, T, hT, lt_of_get hi⟩ q1
  exact Mem.tab_upd hm hT (kl := []) (by simp) (c' := c) rfl rfl (fun _ h => h) (fun _ h => .inl h) hbO rfl (fun _ _ => rfl) (fun y T fz h => ⟨y, fz, h, rfl⟩) rfl rfl rfl (ver := n) (by omega) (fun _ => ⟨tbOn_clear hi, fun _ _ _ => rfl⟩) (fun _ _ _ _ => rfl)
    (hm.tab.clear hT hi hc (fun k' => tabOf_set) rfl rfl (fun _ h => h) (fun _ h _ => h) (fun _ _ => rfl))

/-- A table's row goes on, in its own block, as a place of the frame's. -/
theorem more_rowT (hm : Mem c N w0 O0 L w) {k n i o t cap : Nat} {T : Tb} {cs els xs : List D} {b : Nat} {x : Array Value} {ty : TypeId} {fz : Nat × Nat} {vs : Nat → Value} {new : Array Value} (ht0 : t < 100000)
    (hT : tabOf L k = some (true, T)) (hver : (L (tb k)).1 = n) (hi : T[i]? = some cs) (hc : cs[o]? = some (.sl .own els)) (hρ : c.ρ k i o = some b) (hb : w.heap[b]? = some (.cells x ty fz)) (hf : Unfrozen w b x.size) (hcap : cap * rowSz k o ≤ x.size) (hle : els.length + xs.length ≤ cap)
    (hels : ∀ (j : Nat) (d : D), els[j]? = some d → d.flatEl = true ∧ Rep w (fun _ => False) 0 c.γ d (vs j) ∧ d.width = rowSz k o ∧ (vs j).cells.size = rowSz k o ∧ cellsAt w b (j * rowSz k o) (vs j))
    (hr : RowIn w (own c L) N c.γ (rowSz k o) xs new) (hnew : new.size = xs.length * rowSz k o) :
    Did c N w0 O0 L w { v := .ref t (L.new t) 0 (els.length + xs.length), wr := [(tb k, (n, .tbl true (T.set i (cs.set o .undef)))), (t, (L.new t, .trow (rowSz k o) (els ++ xs)))] } (.slice (some ⟨b, 0, none⟩) (els.length + xs.length) cap)
      (put w b (splice x (els.length * rowSz k o) new.toList) ty fz) := by
  generalize hsz0 : rowSz k o = sz at *
  have hth : There L k i (some o) := ⟨true, T, _, hT, by unfold cellT; rw [hi]; exact hc, rfl⟩
  have hbO : c.O b := hm.tab.wr k T i (some o) b hT hth hρ
  have hroom : els.length * sz + new.toList.length ≤ x.size := by
    have : (els.length + xs.length) * sz ≤ cap * sz := Nat.mul_le_mul_right _ hle
    rw [Nat.add_mul] at this
    simp; omega
  have hsz : (splice x (els.length * sz) new.toList).size = x.size := splice_size hroom
  have hw : ∀ q, q ≠ b → (put w b (splice x (els.length * sz) new.toList) ty fz).heap[q]? = w.heap[q]? := fun q hq => by rw [put_heap (lt_of_heap hb)]; simp [hq]
  have hbb : (put w b (splice x (els.length * sz) new.toList) ty fz).heap[b]? = some (.cells (splice x (els.length * sz) new.toList) ty fz) := by rw [put_heap (lt_of_heap hb)]; simp
  have hps : (put w b (splice x (els.length * sz) new.toList) ty fz).heap.size = w.heap.size := by simp [put]
  let L2 : Loc := (L.set (tb k) (n, .tbl true (T.set i (cs.set o .undef)))).set t (L.new t, .trow sz (els ++ xs))
  have htk : tb k ≠ t := tb_ne ht0
  have h2t : L2 t = (L.new t, .trow sz (els ++ xs)) := Loc.set_same _ _ _
  have h2k : L2 (tb k) = (n, .tbl true (T.set i (cs.set o .undef))) := by show ((L.set (tb k) _).set t _) (tb k) = _; rw [Loc.set_ne _ _ htk, Loc.set_same]
  have h2 : ∀ q, q ≠ t → q ≠ tb k → L2 q = L q := fun q e e' => by show ((L.set (tb k) _).set t _) q = _; rw [Loc.set_ne _ _ e, Loc.set_ne _ _ e']
  let c2 : Ctx := { c.at t (some b) with O := fun b' => c.O b' ∧ b' ≠ b }
  have hc2t : c2.ι t = some b := by simp [c2, Ctx.at]
  have hc2 : ∀ q, q ≠ t → c2.ι q = c.ι q := fun q e => by simp [c2, Ctx.at, e]
  have hkd : (L (tb k)).2 = .tbl true T := tab_get.1 hT
  have hg : Grow c L w c2 L2 (put w b (splice x (els.length * sz) new.toList) ty fz) := by
    refine ⟨by omega, ?_, ?_, fun _ _ _ h => h, fun _ _ _ _ _ => rfl, stay_upto hT (fun q e => h2 _ (tb_ne ht0) (fun h => e (tb_inj h))) (fun _ _ => rfl) (fun _ _ => rfl), ?_, ?_, ?_⟩
    · intro q hq _
      refine hw q fun e => hq (.inl (e ▸ hbO))
    · rintro q _ (hO | ⟨g', q1, q2⟩)
      · exact .inl hO.1
      · by_cases e : g' = t
        · subst e; rw [hc2t] at q1; cases q1; exact .inl hbO
        · by_cases e' : g' = tb k
          · subst e'; rw [h2k] at q2; cases q2
          · rw [h2 g' e e'] at q2
            exact .inr ⟨g', by rw [← hc2 g' e]; exact q1, q2⟩
    · intro q y T' fz' hq _
      by_cases e : q = b
      · subst e; rw [hb] at hq; cases hq; exact ⟨_, _, hbb, hsz⟩
      · exact ⟨y, fz', by rw [hw q e]; exact hq, rfl⟩
    · intro q
      by_cases e : q = t
      · subst e; rw [h2t]; simp [Loc.new]
      · by_cases e' : q = tb k
        · subst e'; rw [h2k]; exact Nat.le_of_eq hver
        · rw [h2 q e e']; exact Nat.le_refl _
    · intro q hq
      by_cases e : q = t
      · subst e; rw [h2t] at hq; simp [Loc.new] at hq
      · by_cases e' : q = tb k
        · subst e'; rw [h2k, hkd, hc2 _ e]; exact .inr ⟨rfl, rfl, tbOn_clear hi⟩
        · rw [h2 q e e', hc2 q e]; exact .inr ⟨rfl, Compat.refl _⟩
  have hnd : ∀ q, q ≠ t → (L2 q).2 ≠ .dead → (L q).2 ≠ .dead := by
    intro q e hq
    by_cases e' : q = tb k
    · subst e'; rw [hkd]; simp
    · rw [h2 q e e'] at hq; exact hq
  have hmm : Mem c2 N w0 O0 L2 (put w b (splice x (els.length * sz) new.toList) ty fz) := by
    refine ⟨?_, ?_, ?_, ?_, ?_, ?_, ?_, by rw [hps]; exact hm.size, hm.size0, hm.os, hm.tape, hm.output, ?_, fun y hy => by rw [hps]; exact hm.osub y hy.1⟩
    · intro q
      by_cases e : q = t
      · subst e
        rw [hc2t, h2t]
        obtain ⟨vs', hvs⟩ := hr
        refine ⟨_, ty, fz, hbb, fun i hi => by rw [frozen_put hb]; exact hf i (by omega), ?_, fun i => if i < els.length then vs i else vs' (i - els.length), fun i d hd => ?_⟩
        · rw [hsz, List.length_append]
          exact Nat.le_trans (Nat.mul_le_mul_right _ hle) hcap
        · by_cases hi' : i < els.length
          · rw [List.getElem?_append_left (by omega)] at hd
            obtain ⟨f1, p1, f2, p2, p3⟩ := hels i d hd
            simp only [hi', if_true]
            refine ⟨p1.flEl f1 fun _ _ _ h => h, p2, fun q u hu => ?_⟩
            have hq : q < sz := by have := lt_of_cell hu; omega
            rw [put_cell hb, splice_at hroom, if_neg]
            · have := p3 q u hu
              simpa [World.cell?, hb] using this
            · have : (i + 1) * sz ≤ els.length * sz := Nat.mul_le_mul_right _ hi'
              rw [Nat.succ_mul] at this; omega
          · rw [List.getElem?_append_right (by omega)] at hd
            obtain ⟨p1, p2, p3⟩ := hvs (i - els.length) d hd
            simp only [hi', if_false]
            refine ⟨p1.grow hg, p2, fun q u hu => ?_⟩
            have h3 := p3 q u hu
            have hj := lt_of_get hd
            have hq : q < sz := by have := lt_of_cell hu; omega
            have hi2 : i * sz = els.length * sz + (i - els.length) * sz := by rw [← Nat.add_mul]; congr 1; omega
            have hlt : (i - els.length) * sz + q < xs.length * sz := by
              have : (i - els.length + 1) * sz ≤ xs.length * sz := Nat.mul_le_mul_right _ hj
              rw [Nat.succ_mul] at this; omega
            rw [put_cell hb, splice_at hroom, if_pos (by simp; omega), show i * sz + q - els.length * sz = (i - els.length) * sz + q by omega]
            simpa using h3
      · rw [hc2 q e]
        by_cases e' : q = tb k
        · subst e'; rw [h2k]; trivial
        · rw [h2 q e e']
          exact (hm.obj q).grow hg fun y hy hd => hw y fun e3 => (hm.mine q y hy hd).2.2 (e3 ▸ hbO)
    · intro q q' y q1 q2 q3 q4
      by_cases e : q = t <;> by_cases e' : q' = t
      · rw [e, e']
      · subst e
        rw [hc2t] at q1; cases q1
        rw [hc2 q' e'] at q2
        exact absurd hbO (hm.mine q' b q2 (hnd q' e' q4)).2.2
      · subst e'
        rw [hc2t] at q2; cases q2
        rw [hc2 q e] at q1
        exact absurd hbO (hm.mine q b q1 (hnd q e q3)).2.2
      · rw [hc2 q e] at q1; rw [hc2 q' e'] at q2
        exact hm.inj q q' y q1 q2 (hnd q e q3) (hnd q' e' q4)
    · intro q y q1 q2
      rw [hps]
      by_cases e : q = t
      · subst e; rw [hc2t] at q1; cases q1
        obtain ⟨a1, a2⟩ := hm.osub b hbO
        exact ⟨a2.symm, a1, fun h => h.2 rfl⟩
      · rw [hc2 q e] at q1
        obtain ⟨a1, a2, a3⟩ := hm.mine q y q1 (hnd q e q2)
        exact ⟨a1, a2, fun h => a3 h.1⟩
    · intro q y q1 q2 q3
      by_cases e : q = t
      · subst e; rw [h2t] at q3; exact absurd rfl (q3 _ _)
      · rw [hc2 q e] at q1
        refine hm.mineN q y q1 (hnd q e q2) fun sz' els' e2 => ?_
        by_cases e' : q = tb k
        · subst e'; rw [hkd] at e2; cases e2
        · rw [h2 q e e'] at q3; exact q3 _ _ e2
    · refine hm.tab.clear hT hi hc (fun k' => ?_) rfl rfl (fun _ h => h.1) (fun b' h1 h2 => ⟨h1, fun e => h2 (by rw [e]; exact hρ)⟩) (fun q hq => hw q fun e => hq (by rw [e]; exact hρ))
      show tabOf L2 k' = _
      rw [show tabOf L2 k' = tabOf (L.set (tb k) (n, .tbl true (T.set i (cs.set o .undef)))) k' from tabOf_same (Loc.set_ne _ _ (tb_ne ht0))]
      exact tabOf_set
    · intro k'; rw [hc2 _ (tb_ne ht0)]; exact hm.iotab k'
    · intro k'
      by_cases e : k' = k
      · subst e; rw [h2k]; exact .inr ⟨_, _, rfl⟩
      · rw [h2 _ (tb_ne ht0) (fun h => e (tb_inj h))]; exact hm.only k'
    · intro y hy hO
      rw [hw y fun e => ?_]
      · exact hm.keep y hy hO
      · subst e
        rcases (hm.osub _ hbO).2 with h | h
        · exact hO h
        · omega
  refine ⟨c2, hmm, hg, ?_⟩
  have := RowObj.val (c := c2) (L := L2) (w := put w b (splice x (els.length * sz) new.toList) ty fz) (N := N) (sz := sz) (els := els ++ xs) (z := .trow sz (els ++ xs)) (u := .slice (some ⟨b, 0, none⟩) (els.length + xs.length) cap) (.inr rfl) h2t (by
    refine ⟨_, cap, by rw [List.length_append], by simpa using hle, ?_⟩
    by_cases hc0 : cap = 0
    · exact .inl hc0
    · exact .inr ⟨b, _, ty, fz, hc2t, by simp, hbb, by rw [hsz]; simpa using hcap⟩)
  rw [List.length_append] at this
  exact this

/-- A row goes on, in its own block, at another place. -/
theorem more_row (hm : Mem c N w0 O0 L w) {g n t sz len cap : Nat} {els xs : List D} {b : Nat} {x : Array Value} {T : TypeId} {fz : Nat × Nat} {new : Array Value} (ht0 : t < 100000)
    (hL : L.get g n = .arr sz els true) (hι : c.ι g = some b) (hb : w.heap[b]? = some (.cells x T fz)) (hlen : len = els.length) (hcap : cap * sz ≤ x.size) (hle : len + xs.length ≤ cap)
    (hr : RowIn w (own c L) N c.γ sz xs new) (hnew : new.size = xs.length * sz) (hgs : g < 90000) :
    Did c N w0 O0 L w { v := .ref t (L.new t) 0 (len + xs.length), wr := [(g, (n, .dead)), (t, (L.new t, .arr sz (els ++ xs) true))] } (.slice (some ⟨b, 0, none⟩) (len + xs.length) cap)
      (put w b (splice x (len * sz) new.toList) T fz) := by
  obtain ⟨e1, e2⟩ := get_at hL (by simp)
  have hob := hm.get hL (by simp)
  rw [hι] at hob
  obtain ⟨x', T', fz', g2, g3, g4, us, g5⟩ := hob
  rw [hb] at g2; cases g2
  have hmine := hm.mine g b hι (by rw [e2]; simp)
  have hmineN := hm.mineN g b hι (by rw [e2]; simp) (by rw [e2]; simp) hgs
  have hroom : len * sz + new.toList.length ≤ x.size := by
    have : (len + xs.length) * sz ≤ cap * sz := Nat.mul_le_mul_right _ hle
    rw [Nat.add_mul] at this
    simp; omega
  have hsz : (splice x (len * sz) new.toList).size = x.size := splice_size hroom
  have hw : ∀ k, k ≠ b → (put w b (splice x (len * sz) new.toList) T fz).heap[k]? = w.heap[k]? := fun k hk => by rw [put_heap (lt_of_heap hb)]; simp [hk]
  have hbb : (put w b (splice x (len * sz) new.toList) T fz).heap[b]? = some (.cells (splice x (len * sz) new.toList) T fz) := by rw [put_heap (lt_of_heap hb)]; simp
  have hps : (put w b (splice x (len * sz) new.toList) T fz).heap.size = w.heap.size := by simp [put]
  let L2 : Loc := (L.set g (n, .dead)).set t (L.new t, .arr sz (els ++ xs) true)
  have h2t : L2 t = (L.new t, .arr sz (els ++ xs) true) := Loc.set_same _ _ _
  have h2g : g ≠ t → L2 g = (n, .dead) := fun e => by show ((L.set g (n, .dead)).set t _) g = _; rw [Loc.set_ne _ _ e, Loc.set_same]
  have h2 : ∀ k, k ≠ t → k ≠ g → L2 k = L k := fun k e e' => by show ((L.set g (n, .dead)).set t _) k = _; rw [Loc.set_ne _ _ e, Loc.set_ne _ _ e']
  let c2 : Ctx := c.at t (some b)
  have hc2t : c2.ι t = some b := by simp [c2, Ctx.at]
  have hc2 : ∀ k, k ≠ t → c2.ι k = c.ι k := fun k e => by simp [c2, Ctx.at, e]
  have hold : ∀ k, (L2 k).2 ≠ .dead → k ≠ t → (L k).2 ≠ .dead ∧ k ≠ g := by
    intro k hk e
    by_cases e' : k = g
    · subst e'; rw [h2g e] at hk; exact absurd rfl hk
    · rw [h2 k e e'] at hk; exact ⟨hk, e'⟩
  have hg : Grow c L w c2 L2 (put w b (splice x (len * sz) new.toList) T fz) := by
    refine ⟨by omega, ?_, ?_, fun _ _ _ h => h, fun _ _ _ _ _ => rfl, stay_same (fun k => h2 _ (tb_ne ht0) (hm.live_tab (by rw [e2]; rfl) k)) rfl rfl, ?_, ?_, ?_⟩
    · intro k hk _
      refine hw k fun e => hk (.inr ⟨g, by rw [e]; exact hι, by rw [e2]; rfl⟩)
    · rintro k _ (hO | ⟨g', q1, q2⟩)
      · exact .inl hO
      · by_cases e : g' = t
        · subst e; rw [hc2t] at q1; cases q1
          exact .inr ⟨g, hι, by rw [e2]; rfl⟩
        · have hd : (L2 g').2 ≠ .dead := by intro e'; rw [e'] at q2; cases q2
          obtain ⟨_, e'⟩ := hold g' hd e
          rw [h2 g' e e'] at q2
          exact .inr ⟨g', by rw [← hc2 g' e]; exact q1, q2⟩
    · intro k y T' fz' hk _
      by_cases e : k = b
      · subst e; rw [hb] at hk; cases hk; exact ⟨_, _, hbb, hsz⟩
      · exact ⟨y, fz', by rw [hw k e]; exact hk, rfl⟩
    · intro k
      by_cases e : k = t
      · subst e; rw [h2t]; simp [Loc.new]
      · by_cases e' : k = g
        · subst e'; rw [h2g e]; simp [e1]
        · rw [h2 k e e']; exact Nat.le_refl _
    · intro k hk
      by_cases e : k = t
      · subst e; rw [h2t] at hk; simp [Loc.new] at hk
      · by_cases e' : k = g
        · subst e'; rw [h2g e]; exact .inl rfl
        · rw [h2 k e e', hc2 k e]; exact .inr ⟨rfl, Compat.refl _⟩
  have hmm : Mem c2 N w0 O0 L2 (put w b (splice x (len * sz) new.toList) T fz) := by
    refine ⟨?_, ?_, ?_, ?_, ?_, ?_, ?_, by rw [hps]; exact hm.size, hm.size0, hm.os, hm.tape, hm.output, ?_, fun y hy => by rw [hps]; exact hm.osub y hy⟩
    · intro k
      by_cases e : k = t
      · subst e
        rw [hc2t, h2t]
        obtain ⟨vs, hvs⟩ := hr
        refine ⟨_, T, fz, hbb, fun i hi => by rw [frozen_put hb]; exact g3 i (by omega), ?_, fun i => if i < len then us i else vs (i - len), fun i d hd => ?_⟩
        · rw [hsz, List.length_append, ← hlen]
          exact Nat.le_trans (Nat.mul_le_mul_right _ hle) hcap
        · by_cases hi : i < len
          · rw [List.getElem?_append_left (by omega)] at hd
            obtain ⟨p1, p2, p3⟩ := g5 i d hd
            simp only [hi, if_true]
            refine ⟨p1.grow hg, p2, fun q u hu => ?_⟩
            have hq : q < sz := by
              rcases Nat.lt_or_ge q (us i).cells.size with h' | h'
              · omega
              · rw [Array.getElem?_eq_none h'] at hu; cases hu
            rw [put_cell hb, splice_at hroom, if_neg]
            · have := p3 q u hu
              simpa [World.cell?, hb] using this
            · have : (i + 1) * sz ≤ len * sz := Nat.mul_le_mul_right _ hi
              rw [Nat.succ_mul] at this; omega
          · rw [List.getElem?_append_right (by omega), ← hlen] at hd
            obtain ⟨p1, p2, p3⟩ := hvs (i - len) d hd
            simp only [hi, if_false]
            refine ⟨p1.grow hg, p2, fun q u hu => ?_⟩
            have h3 := p3 q u hu
            have hj : i - len < xs.length := by
              rcases Nat.lt_or_ge (i - len) xs.length with h' | h'
              · exact h'
              · rw [List.getElem?_eq_none h'] at hd; cases hd
            have hq : q < sz := by
              rcases Nat.lt_or_ge q (vs (i - len)).cells.size with h' | h'
              · omega
              · rw [Array.getElem?_eq_none h'] at hu; cases hu
            have hi2 : i * sz = len * sz + (i - len) * sz := by rw [← Nat.add_mul]; congr 1; omega
            have hlt : (i - len) * sz + q < xs.length * sz := by
              have : (i - len + 1) * sz ≤ xs.length * sz := Nat.mul_le_mul_right _ hj
              rw [Nat.succ_mul] at this; omega
            rw [put_cell hb, splice_at hroom, if_pos (by simp; omega), show i * sz + q - len * sz = (i - len) * sz + q by omega]
            simpa using h3
      · rw [hc2 k e]
        by_cases e' : k = g
        · subst e'; rw [h2g e]; trivial
        · rw [h2 k e e']
          exact (hm.obj k).grow hg fun y hy hd => hw y fun e3 => e' (hm.inj k g b (by rw [← e3]; exact hy) hι hd (by rw [e2]; simp))
    · intro k k' y q1 q2 q3 q4
      by_cases e : k = t <;> by_cases e' : k' = t
      · rw [e, e']
      · subst e
        rw [hc2t] at q1; cases q1
        obtain ⟨p1, p2⟩ := hold k' q4 e'
        rw [hc2 k' e'] at q2
        exact absurd (hm.inj k' g b q2 hι p1 (by rw [e2]; simp)) p2
      · subst e'
        rw [hc2t] at q2; cases q2
        obtain ⟨p1, p2⟩ := hold k q3 e
        rw [hc2 k e] at q1
        exact absurd (hm.inj k g b q1 hι p1 (by rw [e2]; simp)) p2
      · rw [hc2 k e] at q1; rw [hc2 k' e'] at q2
        exact hm.inj k k' y q1 q2 (hold k q3 e).1 (hold k' q4 e').1
    · intro k y q1 q2
      rw [hps]
      by_cases e : k = t
      · subst e; rw [hc2t] at q1; cases q1; exact hmine
      · rw [hc2 k e] at q1; exact hm.mine k y q1 (hold k q2 e).1
    · intro k y q1 q2 q3
      by_cases e : k = t
      · subst e; rw [hc2t] at q1; cases q1; exact fun _ => hmineN
      · rw [hc2 k e] at q1
        obtain ⟨p1, p2⟩ := hold k q2 e
        rw [h2 k e p2] at q3
        exact hm.mineN k y q1 p1 q3
    · refine hm.tab.stable (fun k => h2 _ (tb_ne ht0) (hm.live_tab (by rw [e2]; rfl) k)) rfl rfl rfl fun k i q y hq hy => hw y ?_
      rintro rfl
      exact hm.not_tab hq hy hmine.1 hmine.2.2
    · intro k; rw [hc2 _ (tb_ne ht0)]; exact hm.iotab k
    · intro k; rw [h2 _ (tb_ne ht0) (hm.live_tab (by rw [e2]; rfl) k)]; exact hm.only k
    · intro y hy hO; rw [hw y (by omega)]; exact hm.keep y hy hO
  refine ⟨c2, hmm, hg, ?_⟩
  have := RowObj.val (c := c2) (L := L2) (w := put w b (splice x (len * sz) new.toList) T fz) (N := N) (sz := sz) (els := els ++ xs) (z := .arr sz (els ++ xs) true) (u := .slice (some ⟨b, 0, none⟩) (len + xs.length) cap) (.inl rfl) h2t (by
    refine ⟨_, cap, by rw [List.length_append, hlen], by simp; omega, ?_⟩
    by_cases hc0 : cap = 0
    · exact .inl hc0
    · exact .inr ⟨b, _, T, fz, hc2t, by simp, hbb, by rw [hsz]; simpa using hcap⟩)
  rw [List.length_append, ← hlen] at this
  exact this

/-- A place of nothing. -/
theorem none_rowZ (t sz : Nat) (a : Option Addr) {wr : Wr} {z : HObj} (hz : RowObj sz [] z) (ht0 : t < 100000) (hm' : Mem c N w0 O0 (L.upd wr) w) (hg' : Grow c L w c (L.upd wr) w) (ht : (L.upd wr t).1 < L.new t) :
    Did c N w0 O0 L w { v := .ref t (L.new t) 0 0, wr := wr ++ [(t, (L.new t, z))] } (.slice a 0 0) w := by
  let L1 := L.upd wr
  let L2 := L1.set t (L.new t, z)
  have h2t : L2 t = (L.new t, z) := Loc.set_same _ _ _
  have h2 : ∀ k, k ≠ t → L2 k = L1 k := fun k e => Loc.set_ne _ _ e
  let c2 : Ctx := c.at t none
  have hc2t : c2.ι t = none := by simp [c2, Ctx.at]
  have hc2 : ∀ k, k ≠ t → c2.ι k = c.ι k := fun k e => by simp [c2, Ctx.at, e]
  have hg : Grow c L1 w c2 L2 w := by
    refine ⟨Nat.le_refl _, fun _ _ _ => rfl, ?_, fun _ _ _ h => h, fun _ _ _ _ _ => rfl, stay_same (fun k => h2 _ (tb_ne ht0)) rfl rfl, fun _ y _ fz h _ => ⟨y, fz, h, rfl⟩, ?_, ?_⟩
    · rintro k _ (hO | ⟨g', q1, q2⟩)
      · exact .inl hO
      · by_cases e : g' = t
        · subst e; rw [hc2t] at q1; cases q1
        · rw [h2 g' e] at q2; exact .inr ⟨g', by rw [← hc2 g' e]; exact q1, q2⟩
    · intro k
      by_cases e : k = t
      · subst e; rw [h2t]; exact Nat.le_of_lt ht
      · rw [h2 k e]; exact Nat.le_refl _
    · intro k hk
      by_cases e : k = t
      · subst e; rw [h2t] at hk; have : (L1 k).1 < L.new k := ht; simp at hk; omega
      · rw [h2 k e, hc2 k e]; exact .inr ⟨rfl, Compat.refl _⟩
  refine ⟨c2, ?_, ?_, ?_⟩
  · rw [Loc.upd_append]
    show Mem c2 N w0 O0 L2 w
    refine ⟨?_, ?_, ?_, ?_, hm'.tab.stable (fun k => h2 _ (tb_ne ht0)) rfl rfl rfl fun _ _ _ _ _ _ => rfl, fun k => by rw [hc2 _ (tb_ne ht0)]; exact hm'.iotab k, fun k => by rw [h2 _ (tb_ne ht0)]; exact hm'.only k, hm'.size, hm'.size0, hm'.os, hm'.tape, hm'.output, hm'.keep, hm'.osub⟩
    · intro k
      by_cases e : k = t
      · subst e; rw [hc2t, h2t]; exact hz.ok.2 rfl
      · rw [hc2 k e, h2 k e]; exact (hm'.obj k).grow hg fun _ _ _ => rfl
    · intro k k' y q1 q2 q3 q4
      by_cases e : k = t
      · subst e; rw [hc2t] at q1; cases q1
      · by_cases e' : k' = t
        · subst e'; rw [hc2t] at q2; cases q2
        · rw [hc2 k e] at q1; rw [hc2 k' e'] at q2
          rw [h2 k e] at q3; rw [h2 k' e'] at q4
          exact hm'.inj k k' y q1 q2 q3 q4
    · intro k y q1 q2
      by_cases e : k = t
      · subst e; rw [hc2t] at q1; cases q1
      · rw [hc2 k e] at q1
        rw [h2 k e] at q2
        exact hm'.mine k y q1 q2
    · intro k y q1 q2 q3
      by_cases e : k = t
      · subst e; rw [hc2t] at q1; cases q1
      · rw [hc2 k e] at q1
        rw [h2 k e] at q2 q3
        exact hm'.mineN k y q1 q2 q3
  · rw [Loc.upd_append]; exact hg'.trans hg
  · rw [Loc.upd_append]
    exact hz.val (L := L2) h2t ⟨a, 0, rfl, Nat.le_refl _, .inl rfl⟩
theorem none_row (t sz : Nat) (a : Option Addr) {wr : Wr} (ht0 : t < 100000) (hm' : Mem c N w0 O0 (L.upd wr) w) (hg' : Grow c L w c (L.upd wr) w) (ht : (L.upd wr t).1 < L.new t) :
    Did c N w0 O0 L w { v := .ref t (L.new t) 0 0, wr := wr ++ [(t, (L.new t, .arr sz [] true))] } (.slice a 0 0) w :=
  none_rowZ t sz a (.inl rfl) ht0 hm' hg' ht

end
end Wf

/-
  What operations do: append, make, copy, literals.
-/
namespace Wf
open Go Go.RowKit

section
variable {c : Ctx} {N : Nat} {w0 : World} {O0 : Nat → Prop} {L Lr : Loc} {w : World}

/-- append, where there is room. -/
theorem append_room {P : Program} {ty ty2 rty e sz sLen sCap n : Nat} {a : Option Addr} {u : Value} {new : Array Value} {i : TypeInfo} (hu : P.underlying ty = some (.slice e)) (hi : P.info? e = some i) (hs : i.size = sz)
    (h2 : (tyElem P ty2).isSome) (hl : Builtin.lenOf u = pure n) (hf : (Builtin.firstCells sz n u).run P w = .ok new w) (hle : sLen + n ≤ sCap) {w' : World}
    (hst : match a with | some a => (storeCells (a.add (sLen * sz)) new.toList).run P w = .ok () w' | none => w' = w) :
    (Builtin.append_ #[ty, ty2] rty #[.slice a sLen sCap, u]).run P w = .ok (.slice a (sLen + n) sCap) w' := by
  obtain ⟨sz2, hsz2⟩ := Option.isSome_iff_exists.1 h2
  obtain ⟨e2, hu2, _⟩ := ty_elem hsz2
  have hsize : ∀ w, (Go.sizeOf e).run P w = .ok sz w := fun w => ty_size (by unfold tySize; simp [hi, hs]) w
  unfold Builtin.append_
  simp [ty_und hu, ty_und hu2, hsize, hl, hle, hf]
  cases a with
  | none => simp at hst; simp [hst]
  | some a => simp at hst; simp [hst]

/-- append, where there is none. -/
theorem append_grow {P : Program} {ty ty2 rty e sz sLen sCap n : Nat} {a : Option Addr} {u zv : Value} {old new : Array Value} {i : TypeInfo} (hu : P.underlying ty = some (.slice e)) (hi : P.info? e = some i) (hs : i.size = sz)
    (hz : i.zero = some zv) (hzs : zv.cells.size = sz) (hb : i.bytes ≤ 4096) (hn : sLen + n ≤ 2 ^ 32)
    (h2 : (tyElem P ty2).isSome) (hl : Builtin.lenOf u = pure n) (hold : ∀ k, (Builtin.firstCells sz sLen (.slice a sLen sCap)).run P (w.drewN k) = .ok old (w.drewN k))
    (hnew : ∀ k, (Builtin.firstCells sz n u).run P (w.drewN k) = .ok new (w.drewN k)) (hgt : sCap < sLen + n) (ho1 : old.size = sLen * sz) (hn1 : new.size = n * sz) :
    ∃ cap x, sLen + n ≤ cap ∧ x.size = cap * sz ∧ (∀ k, k < (sLen + n) * sz → x[k]? = (old ++ new)[k]?) ∧
      (Builtin.append_ #[ty, ty2] rty #[.slice a sLen sCap, u]).run P w = .ok (.slice (some ⟨w.heap.size, 0, none⟩) (sLen + n) cap) (w.drew.alloc (.cells x e)) := by
  obtain ⟨sz2, hsz2⟩ := Option.isSome_iff_exists.1 h2
  obtain ⟨e2, hu2, _⟩ := ty_elem hsz2
  have hsize : ∀ w, (Go.sizeOf e).run P w = .ok sz w := fun w => ty_size (by unfold tySize; simp [hi, hs]) w
  have hinfo : ∀ w, (typeInfo e).run P w = .ok i w := fun w => by simp [typeInfo, hi]
  have hzero : ∀ w, (zeroValue e).run P w = .ok zv w := fun w => by simp [zeroValue, hinfo, hz]
  have hcap := nextslicecap_le (sLen + n) sCap hgt
  have hbig : ¬ (Builtin.nextslicecap (sLen + n) sCap * i.bytes > 2 ^ 48) := by
    have h1 : Builtin.nextslicecap (sLen + n) sCap * i.bytes ≤ (2 * 2 ^ 32 + 2000) * 4096 := Nat.mul_le_mul (by omega) hb
    have h2 : (2 * 2 ^ 32 + 2000) * 4096 ≤ 2 ^ 48 := by decide
    omega
  let cap := sLen + n + w.tape w.drawn (.appendCap (sLen + n) sCap e) % (2 ^ 63 - (sLen + n))
  have hnot : ¬ (sLen + n ≤ sCap) := by omega
  have hmax : ¬ (((sLen + n : Nat) : Int) > IntKind.i64.max ∧ (false = true ∨ i.bytes = 0)) := by
    rintro ⟨h, _⟩
    have : IntKind.i64.max = 9223372036854775807 := by decide
    rw [this] at h; omega
  have hold1 := hold 1
  have hnew1 := hnew 1
  refine ⟨cap, old ++ new ++ Builtin.zeroCells zv.cells (cap - (sLen + n)), Nat.le_add_right _ _, ?_, ?_, ?_⟩
  · simp [Builtin.zeroCells, ho1, hn1, hzs]
    rw [← Nat.add_mul, ← Nat.add_mul]; congr 1; have : sLen + n ≤ cap := Nat.le_add_right _ _; omega
  · intro k hk
    rw [Array.getElem?_append_left]
    rw [Nat.add_mul] at hk; simp [ho1, hn1]; exact hk
  · have hd : w.drewN 1 = w.drew := rfl
    rw [hd] at hold1 hnew1
    have hA : ¬ ((9223372036854775807 : Int) < ↑sLen + ↑n) := by omega
    have hB : ¬ (281474976710656 < Builtin.nextslicecap (sLen + n) sCap * i.bytes) := hbig
    have hF : (Question.appendCap (sLen + n) sCap e).forced = false := rfl
    have hC : (Question.appendCap (sLen + n) sCap e).cut (w.tape w.drawn (.appendCap (sLen + n) sCap e)) = cap := rfl
    unfold Builtin.append_
    simp [ty_und hu, ty_und hu2, hsize, hl, hnot, hinfo, hA, hB, hF, hC, hold1, hnew1, hzero, newRow]

theorem RowIn.append {w : World} {A : Nat → Prop} {N : Nat} {γ : Nat → Nat → Option Nat} {sz : Nat} {a b : List D} {x y z : Array Value} (h : RowIn w A N γ sz a x) (k : RowIn w A N γ sz b y)
    (hx : x.size = a.length * sz) (hy : y.size = b.length * sz) (hz : ∀ k, k < (a.length + b.length) * sz → z[k]? = (x ++ y)[k]?) : RowIn w A N γ sz (a ++ b) z := by
  obtain ⟨us, hu⟩ := h
  obtain ⟨vs, hv⟩ := k
  refine ⟨fun i => if i < a.length then us i else vs (i - a.length), fun i d hd => ?_⟩
  by_cases hi : i < a.length
  · rw [List.getElem?_append_left hi] at hd
    obtain ⟨p1, p2, p3⟩ := hu i d hd
    simp only [hi, if_true]
    refine ⟨p1, p2, fun q u hq => ?_⟩
    have hqs : q < sz := by
      rcases Nat.lt_or_ge q (us i).cells.size with h' | h'
      · omega
      · rw [Array.getElem?_eq_none h'] at hq; cases hq
    have hlt : i * sz + q < a.length * sz := by
      have : (i + 1) * sz ≤ a.length * sz := Nat.mul_le_mul_right _ hi
      rw [Nat.succ_mul] at this; omega
    rw [hz _ (by rw [Nat.add_mul]; omega), Array.getElem?_append_left (by omega)]
    exact p3 q u hq
  · rw [List.getElem?_append_right (by omega)] at hd
    obtain ⟨p1, p2, p3⟩ := hv _ d hd
    simp only [hi, if_false]
    refine ⟨p1, p2, fun q u hq => ?_⟩
    have hj : i - a.length < b.length := by
      rcases Nat.lt_or_ge (i - a.length) b.length with h' | h'
      · exact h'
      · rw [List.getElem?_eq_none h'] at hd; cases hd
    have hqs : q < sz := by
      rcases Nat.lt_or_ge q (vs (i - a.length)).cells.size with h' | h'
      · omega
      · rw [Array.getElem?_eq_none h'] at hq; cases hq
    have hi2 : i * sz = a.length * sz + (i - a.length) * sz := by rw [← Nat.add_mul]; congr 1; omega
    have hlt : (i - a.length) * sz + q < b.length * sz := by
      have : (i - a.length + 1) * sz ≤ b.length * sz := Nat.mul_le_mul_right _ hj
      rw [Nat.succ_mul] at this; omega
    rw [hz _ (by rw [Nat.add_mul]; omega), Array.getElem?_append_right (by omega), hx, show i * sz + q - a.length * sz = (i - a.length) * sz + q by omega]
    exact p3 q u hq

theorem RowIn.grow {c L w c' L' w'} (h : Grow c L w c' L' w') {N sz : Nat} {els : List D} {x : Array Value} (hr : RowIn w (own c L) N c.γ sz els x) : RowIn w' (own c' L') N c'.γ sz els x := by
  obtain ⟨vs, hv⟩ := hr
  exact ⟨vs, fun i d hd => ⟨((hv i d hd).1).grow h, (hv i d hd).2.1, (hv i d hd).2.2⟩⟩

theorem RowIn.nil {w : World} {A : Nat → Prop} {N : Nat} {γ : Nat → Nat → Option Nat} {sz : Nat} {x : Array Value} : RowIn w A N γ sz [] x := ⟨fun _ => undef, by simp⟩

theorem Did.drew {out : Out} {u : Value} {w' : World} (hg : Grow c L w c L w.drew) (h : Did c N w0 O0 L w.drew out u w') : Did c N w0 O0 L w out u w' := by
  obtain ⟨c', h1, h2, h3⟩ := h
  exact ⟨c', h1, hg.trans h2, h3⟩

theorem aappend_ok {P : Program} (hm : Mem c N w0 O0 L w) (hs : Sees Lr L) {t : Nat} (ht0 : t < 100000) (hnew : Lr t = L t) {ty ty2 rty : TypeId} {s x : V} {su xu : Value} {o : Out} (ha : aappend P Lr t ty s x = some o)
    (h2 : (tyElem P ty2).isSome) (hv : Val c L w N s su) (hx : Val c L w N x xu) :
    ∃ u w', (Builtin.append_ #[ty, ty2] rty #[su, xu]).run P w = .ok u w' ∧ Did c N w0 O0 L w o u w' := by
  have hnew' : Lr.new t = L.new t := by unfold Loc.new; rw [hnew]
  unfold aappend at ha
  rw [hnew'] at ha
  cases hxs : elsOf Lr x with
  | none => rw [hxs] at ha; cases ha
  | some xs =>
  rw [hxs] at ha
  dsimp only at ha
  obtain ⟨xa, xcap, rfl, _, _⟩ := els_ok hm hs hxs hx
  have hlen : Builtin.lenOf (.slice xa xs.length xcap) = pure xs.length := rfl
  have htlt : (L t).1 < L.new t := by simp [Loc.new]
  obtain ⟨hdm, hdg⟩ := Mem.drew hm
  have base : ∀ a, su = .slice a 0 0 → ((appendTy P ty xs.length).bind fun sz => if okEls sz xs then some ({ v := .ref t (L.new t) 0 xs.length, wr := [(t, (L.new t, .arr sz xs true))] } : Out) else none) = some o →
      ∃ u w', (Builtin.append_ #[ty, ty2] rty #[su, .slice xa xs.length xcap]).run P w = .ok u w' ∧ Did c N w0 O0 L w o u w' := by
    rintro a rfl ha
    cases hty : appendTy P ty xs.length with
    | none => rw [hty] at ha; cases ha
    | some sz =>
      rw [hty] at ha
      simp only [Option.bind_some] at ha
      split at ha
      · rename_i hok
        injection ha with ha; subst ha
        obtain ⟨e, i, z, zv, t1, t2, t3, t4, t5, t6, t7, t8, t9, t10⟩ := append_ty hty
        obtain ⟨nx, n1, n2, n3, n4⟩ := firstCells_ok (P := P) hm hs hxs hx hok
        by_cases h0 : xs = []
        · subst h0
          have := append_room (P := P) (ty2 := ty2) (rty := rty) (a := a) (sLen := 0) (sCap := 0) (w := w) (w' := w) t1 t2 t3 h2 hlen (n1 w fun _ => rfl) (by simp) (by
            have : nx = #[] := Array.eq_empty_of_size_eq_zero (by simpa using n2)
            subst this
            cases a <;> simp [storeCells])
          exact ⟨_, _, by simpa using this, by simpa using none_row t sz a (wr := []) ht0 hm (Grow.refl ..) htlt⟩
        · have hpos : 0 < xs.length := List.length_pos_iff.2 h0
          obtain ⟨cap, cx, q1, q2, q3, q4⟩ := append_grow (P := P) (ty2 := ty2) (rty := rty) (a := a) (sLen := 0) (sCap := 0) (n := xs.length) (old := #[]) (new := nx) t1 t2 t3 t4
            (by rw [(valD_cells t5).1]; exact t7) t9 (by omega) h2 hlen (fun k => by cases a <;> simp [Builtin.firstCells, loadCells, loadCellsFrom]) (fun k => n1 _ fun _ => rfl) (by omega) (by simp) (by simpa using n2)
          refine ⟨_, _, q4, Did.drew hdg ?_⟩
          have := new_row (t := t) (sz := sz) (els := xs) (x := cx) (T := e) (wr := []) (cap := cap) ht0 (by
            have := RowIn.append (z := cx) (a := []) (x := #[]) RowIn.nil (n3.grow hdg) (by simp) n2 (fun k hk => q3 k (by simpa using hk))
            exact this) hdm (Grow.refl ..) htlt (by omega) (by omega)
          simpa using this
      · cases ha
  cases s with
  | d y =>
    cases y with
    | sl tg l0 =>
      cases tg with
      | nil =>
        cases l0 with
        | cons _ _ => cases ha
        | nil =>
          have hr := hv.dat
          cases hr with
          | sl _ _ _ _ _ _ _ g1 => exact absurd rfl g1
          | slE _ a cap hf hn _ =>
            have := (hn rfl).2; subst this
            exact base a rfl ha
      | full =>
        cases l0 with
        | nil =>
          have hr := hv.dat
          cases hr with
          | sl _ _ _ _ _ _ _ g1 => exact absurd rfl g1
          | slE _ a cap hf hn _ =>
            have := hf rfl; subst this
            exact base a rfl ha
        | cons y l =>
          dsimp only at ha
          cases xs with
          | nil => cases ha
          | cons x1 xr =>
          dsimp only at ha
          cases hty : appendTy P ty ((y :: l).length + (x1 :: xr).length) with
          | none => rw [hty] at ha; cases ha
          | some sz =>
            rw [hty] at ha
            simp only [Option.bind_some] at ha
            split at ha
            · rename_i hok
              injection ha with ha; subst ha
              obtain ⟨e, i, z, zv, t1, t2, t3, t4, t5, t6, t7, t8, t9, t10⟩ := append_ty hty
              obtain ⟨nx, n1, n2, n3, n4⟩ := firstCells_ok (P := P) hm hs hxs hx hok.1
              obtain ⟨ox, o1, o2, o3, o4⟩ := firstCells_ok (P := P) hm hs (l := y :: l) (v := .d (.sl .full (y :: l))) rfl hv hok.2
              have hr := hv.dat
              cases hr with
              | sl _ _ b bo sz' cap' vs g1 g1' g2 g3 g4 g5 g6 g7 g8 =>
                have := g3 rfl; subst this
                obtain ⟨cap, cx, q1, q2, q3, q4⟩ := append_grow (P := P) (ty2 := ty2) (rty := rty) (a := some ⟨b, bo, none⟩) (sLen := (y :: l).length) (sCap := (y :: l).length) (n := (x1 :: xr).length) (old := ox) (new := nx) t1 t2 t3 t4
                  (by rw [(valD_cells t5).1]; exact t7) t9 t10 h2 hlen (fun k => o1 _ fun _ => rfl) (fun k => n1 _ fun _ => rfl) (by simp) o2 n2
                refine ⟨_, _, q4, Did.drew hdg ?_⟩
                have := new_row (t := t) (sz := sz) (els := (y :: l) ++ (x1 :: xr)) (x := cx) (T := e) (wr := []) (cap := cap) ht0
                  (RowIn.append (z := cx) (o3.grow hdg) (n3.grow hdg) o2 n2 q3) hdm (Grow.refl ..) htlt (by omega) (by rw [List.length_append]; exact q1)
                rw [List.length_append] at this
                simpa using this
            · cases ha
      | _ => cases l0 <;> cases ha
    | _ => cases ha
  | ref g n off len =>
    dsimp only at ha
    split at ha
    · rename_i sz' els hy
      cases hty : appendTy P ty (len + xs.length) with
      | none => rw [hty] at ha; cases ha
      | some sz =>
        rw [hty] at ha
        simp only [Option.bind_some] at ha
        split at ha
        · rename_i hok
          obtain ⟨hok, hle, rfl, hgs⟩ := hok
          injection ha with ha; subst ha
          obtain ⟨e, i, z, zv, t1, t2, t3, t4, t5, t6, t7, t8, t9, t10⟩ := append_ty hty
          obtain ⟨nx, n1, n2, n3, n4⟩ := firstCells_ok (P := P) hm hs hxs hx hok
          have hL := hs g n (by rw [hy]; simp)
          rw [hy] at hL
          obtain ⟨e1, e2⟩ := get_at hL (by simp)
          have hne : Lr.get g n ≠ .dead := by rw [hy]; simp
          have helsOf : elsOf Lr (.ref g n 0 len) = some els := by
            simp only [elsOf, hy]; rw [if_pos (by omega)]; simp [hle]
          have hnt : ∀ k, tb k ≠ g := hm.live_tab (by rw [e2]; rfl)
          have hml := Mem.less hm g .dead hnt (.inl rfl)
          have hgl := Grow.less hm g .dead (.inl rfl)
          rw [e1] at hml hgl
          have htl : (((L.upd [(g, (n, HObj.dead))]) t).1) < L.new t := by
            simp only [Loc.upd]
            by_cases hgt : t = g
            · subst hgt; rw [Loc.set_same]; simp [Loc.new, e1]
            · rw [Loc.set_ne _ _ hgt]; exact htlt
          cases hv with
          | ref _ _ _ _ _ k1 k2 k3 =>
            obtain ⟨_, a, cap, rfl, p3, p4⟩ := k2 _ _ _ hL
            by_cases hroom : len + xs.length ≤ cap
            · rcases p4 with rfl | ⟨b, y, T, fz, r1, rfl, r3, r4⟩
              · have hx0 : xs = [] := List.eq_nil_of_length_eq_zero (by omega)
                have hl0 : len = 0 := by omega
                have he0 : els = [] := List.eq_nil_of_length_eq_zero (by omega)
                subst hx0; subst hl0; subst he0
                have hnx : nx = #[] := Array.eq_empty_of_size_eq_zero (by simpa using n2)
                have := append_room (P := P) (ty2 := ty2) (rty := rty) (a := a) (sLen := 0) (sCap := 0) (w := w) (w' := w) t1 t2 t3 h2 hlen (n1 w fun _ => rfl) (by simp) (by
                  subst hnx; cases a <;> simp [storeCells])
                exact ⟨_, _, by simpa using this, by simpa using none_row t sz' a (wr := [(g, (n, .dead))]) ht0 hml hgl htl⟩
              · have hob := hm.get hL (by simp)
                rw [r1] at hob
                obtain ⟨x', T', fz', g2, g3, g4, us, g5⟩ := hob
                rw [r3] at g2; cases g2
                have hsc : len * sz' + nx.toList.length ≤ y.size := by
                  have : (len + xs.length) * sz' ≤ cap * sz' := Nat.mul_le_mul_right _ hroom
                  rw [Nat.add_mul] at this
                  have h0 : (0 + cap) * sz' = cap * sz' := by rw [Nat.zero_add]
                  simp; omega
                have hst := run_storeCells (P := P) (b := b) (o := len * sz') (T := T) (fz := fz) nx.toList 0 y w r3 (by simpa using hsc) (fun j _ hj => g3 j (by simp at hj hsc; omega))
                  (fun u hu => by
                    obtain ⟨k, hk, rfl⟩ := List.mem_iff_getElem.1 hu
                    exact n4 k _ (by simp at hk ⊢))
                have := append_room (P := P) (ty2 := ty2) (rty := rty) (a := some ⟨b, 0 * sz', none⟩) (sLen := len) (sCap := cap) (w := w) (w' := put w b (splice y (len * sz') nx.toList) T fz) t1 t2 t3 h2 hlen (n1 w fun _ => rfl) hroom (by
                  simp only [Addr.add_lit, Nat.zero_mul, Nat.zero_add]; simpa using hst)
                refine ⟨_, _, this, ?_⟩
                have := more_row hm (t := t) (cap := cap) ht0 hL r1 r3 hle (by simpa using r4) hroom n3 n2 hgs
                simpa using this
            · have hold : ∃ ox, (∀ w' : World, (∀ a, w'.cell? a = w.cell? a) → (Builtin.firstCells sz' len (.slice a len cap)).run P w' = .ok ox w') ∧ ox.size = els.length * sz' ∧ RowIn w (own c L) N c.γ sz' els ox := by
                by_cases h0 : len = 0
                · subst h0
                  have he0 : els = [] := List.eq_nil_of_length_eq_zero (by omega)
                  subst he0
                  refine ⟨#[], fun w' _ => ?_, by simp, RowIn.nil⟩
                  cases a <;> simp [Builtin.firstCells, loadCells, loadCellsFrom]
                · rcases p4 with h' | ⟨b, y, T, fz, r1, rfl, r3, r4⟩
                  · omega
                  · have hob := hm.get hL (by simp)
                    rw [r1] at hob
                    obtain ⟨x', T', fz', g2, g3, g4, us, g5⟩ := hob
                    obtain ⟨ox, o1, o2, o3, _⟩ := firstCells_of (P := P) (w := w) (l := els) (b := b) (o := 0 * sz') (cap := cap) (vs := us) (fun i d hd => by
                      obtain ⟨s1, s2, s3⟩ := g5 i d hd
                      rw [Nat.zero_mul, Nat.zero_add]; exact ⟨s1, s2, s3⟩)
                    rw [← hle] at o1
                    exact ⟨ox, o1, o2, o3⟩
              obtain ⟨ox, o1, o2, o3⟩ := hold
              obtain ⟨cap2, cx, q1, q2, q3, q4⟩ := append_grow (P := P) (ty2 := ty2) (rty := rty) (a := a) (sLen := len) (sCap := cap) (n := xs.length) (old := ox) (new := nx) t1 t2 t3 t4
                (by rw [(valD_cells t5).1]; exact t7) t9 t10 h2 hlen (fun k => o1 _ fun _ => rfl) (fun k => n1 _ fun _ => rfl) (by omega) (by rw [o2, hle]) n2
              refine ⟨_, _, q4, Did.drew hdg ?_⟩
              obtain ⟨hdm2, hdg2⟩ := Mem.drew hml
              have := new_row (t := t) (sz := sz') (els := els ++ xs) (x := cx) (T := e) (wr := [(g, (n, .dead))]) (cap := cap2) ht0
                (RowIn.append (z := cx) ((o3.grow hgl).grow hdg2) ((n3.grow hgl).grow hdg2) o2 n2 (fun k hk => q3 k (by rw [hle]; exact hk))) hdm2 (by
                  have := Grow.less hdm g .dead (.inl rfl)
                  rw [e1] at this; exact this) htl (by omega) (by rw [List.length_append]; omega)
              rw [List.length_append, ← hle] at this
              simpa using this
        · cases ha
    · cases ha
  | vref k n i o lo len =>
    dsimp only at ha
    split at ha
    · rename_i T els hTr hy
      obtain ⟨hT, hver⟩ := hs.tab hTr
      have hL := hs.row hy
      cases hty : appendTy P ty (len + xs.length) with
      | none => rw [hty] at ha; cases ha
      | some sz =>
        rw [hty] at ha
        simp only [Option.bind_some] at ha
        split at ha
        · rename_i hok
          obtain ⟨hok, hsz, hle⟩ := hok
          injection ha with ha; subst ha
          obtain ⟨e, i', z, zv, t1, t2, t3, t4, t5, t6, t7, t8, t9, t10⟩ := append_ty hty
          obtain ⟨nx, n1, n2, n3, n4⟩ := firstCells_ok (P := P) hm hs hxs hx hok
          obtain ⟨wr, T', _, hvn, hT2, hcell⟩ := rowOf_spec hL
          rw [hT] at hT2; cases hT2
          obtain ⟨cs, hi, hc⟩ := cellT_spec hcell
          have hset : setT T i o .undef = T.set i (cs.set o .undef) := by unfold setT; rw [hi]
          rw [hset]
          obtain ⟨hml, hgl⟩ := take_row hm hT hvn hi hc
          have htl : (((L.upd [(tb k, (n, .tbl true (T.set i (cs.set o .undef))))]) t).1) < L.new t := by
            simp only [Loc.upd]
            rw [Loc.set_ne _ _ (fun h => tb_ne ht0 h.symm)]; exact htlt
          cases hv with
          | vref _ _ _ _ _ _ _ k1 k2 =>
            obtain ⟨_, a, cap, rfl, p3, p4⟩ := k2 _ hL
            by_cases hroom : len + xs.length ≤ cap
            · rcases p4 with rfl | ⟨b, y, T2, fz, r1, rfl, r3, r4⟩
              · have hx0 : xs = [] := List.eq_nil_of_length_eq_zero (by omega)
                have hl0 : len = 0 := by omega
                have he0 : els = [] := List.eq_nil_of_length_eq_zero (by omega)
                subst hx0; subst hl0; subst he0
                have hnx : nx = #[] := Array.eq_empty_of_size_eq_zero (by simpa using n2)
                have := append_room (P := P) (ty2 := ty2) (rty := rty) (a := a) (sLen := 0) (sCap := 0) (w := w) (w' := w) t1 t2 t3 h2 hlen (n1 w fun _ => rfl) (by simp) (by
                  subst hnx; cases a <;> simp [storeCells])
                exact ⟨_, _, by simpa using this, by simpa using none_rowZ t sz a (wr := [(tb k, (n, .tbl true (T.set i (cs.set o .undef))))]) (z := .trow sz []) (.inr rfl) ht0 hml hgl htl⟩
              · obtain ⟨_, _, cs', b', cap', x', ty', fz', us, f1, f2, f3, f4, f5, f6, f7, f8, f9, f10⟩ := hm.rowAt hL (.inr (by rw [r1]; simp))
                rw [hT] at f1; cases f1
                rw [hi] at f3; cases f3
                rw [r1] at f5; cases f5
                rw [r3] at f6; cases f6
                subst hsz
                generalize hszz : rowSz k o = sz' at *
                have hcap : cap * sz' ≤ y.size := by simpa using r4
                have hsc : len * sz' + nx.toList.length ≤ y.size := by
                  have : (len + xs.length) * sz' ≤ cap * sz' := Nat.mul_le_mul_right _ hroom
                  rw [Nat.add_mul] at this
                  simp; omega
                have hst := run_storeCells (P := P) (b := b) (o := len * sz') (T := T2) (fz := fz) nx.toList 0 y w r3 (by simpa using hsc) (fun j _ hj => f7 j (by simp at hj hsc; omega))
                  (fun u hu => by
                    obtain ⟨k, hk, rfl⟩ := List.mem_iff_getElem.1 hu
                    exact n4 k _ (by simp at hk ⊢))
                have := append_room (P := P) (ty2 := ty2) (rty := rty) (a := some ⟨b, 0 * sz', none⟩) (sLen := len) (sCap := cap) (w := w) (w' := put w b (splice y (len * sz') nx.toList) T2 fz) t1 t2 t3 h2 hlen (n1 w fun _ => rfl) hroom (by
                  simp only [Addr.add_lit, Nat.zero_mul, Nat.zero_add]; simpa using hst)
                refine ⟨_, _, this, ?_⟩
                subst hszz
                have := more_rowT hm (t := t) (cap := cap) ht0 hT hvn hi hc r1 r3 f7 hcap (by omega) f10 n3 n2
                rw [← hle] at this
                simpa using this
            · have hold : ∃ ox, (∀ w' : World, (∀ a, w'.cell? a = w.cell? a) → (Builtin.firstCells sz len (.slice a len cap)).run P w' = .ok ox w') ∧ ox.size = els.length * sz ∧ RowIn w (own c L) N c.γ sz els ox := by
                by_cases h0 : len = 0
                · subst h0
                  have he0 : els = [] := List.eq_nil_of_length_eq_zero (by omega)
                  subst he0
                  refine ⟨#[], fun w' _ => ?_, by simp, RowIn.nil⟩
                  cases a <;> simp [Builtin.firstCells, loadCells, loadCellsFrom]
                · rcases p4 with h' | ⟨b, y, T2, fz, r1, rfl, r3, r4⟩
                  · omega
                  · obtain ⟨_, _, cs', b', cap', x', ty', fz', us, f1, f2, f3, f4, f5, f6, f7, f8, f9, f10⟩ := hm.rowAt hL (.inr (by rw [r1]; simp))
                    rw [r1] at f5; cases f5
                    obtain ⟨ox, o1, o2, o3, _⟩ := firstCells_of (P := P) (w := w) (A := own c L) (N := N) (γ := c.γ) (l := els) (b := b) (o := 0 * rowSz k o) (sz := rowSz k o) (cap := cap) (vs := us) (fun i d hd => by
                      obtain ⟨s0, s1, _, s2, s3⟩ := f10 i d hd
                      rw [Nat.zero_mul, Nat.zero_add]; exact ⟨s1.flEl s0 fun _ _ _ h => h, s2, s3⟩)
                    rw [← hle] at o1
                    rw [hsz]
                    exact ⟨ox, o1, o2, o3⟩
              obtain ⟨ox, o1, o2, o3⟩ := hold
              obtain ⟨cap2, cx, q1, q2, q3, q4⟩ := append_grow (P := P) (ty2 := ty2) (rty := rty) (a := a) (sLen := len) (sCap := cap) (n := xs.length) (old := ox) (new := nx) t1 t2 t3 t4
                (by rw [(valD_cells t5).1]; exact t7) t9 t10 h2 hlen (fun k => o1 _ fun _ => rfl) (fun k => n1 _ fun _ => rfl) (by omega) (by rw [o2, hle]) n2
              refine ⟨_, _, q4, Did.drew hdg ?_⟩
              obtain ⟨hdm2, hdg2⟩ := Mem.drew hml
              obtain ⟨_, hgd⟩ := take_row hdm hT hvn hi hc
              have := new_rowZ (t := t) (sz := sz) (els := els ++ xs) (x := cx) (T := e) (wr := [(tb k, (n, .tbl true (T.set i (cs.set o .undef))))]) (z := .trow sz (els ++ xs)) (cap := cap2) (.inr rfl) ht0
                (RowIn.append (z := cx) ((o3.grow hgl).grow hdg2) ((n3.grow hgl).grow hdg2) o2 n2 (fun k hk => q3 k (by rw [hle]; exact hk))) hdm2 hgd htl (by omega) (by rw [List.length_append]; omega)
              rw [List.length_append, ← hle] at this
              simpa using this
        · cases ha
    · cases ha
  | _ => cases ha

end
end Wf

/-
  What operations do: make, copy, literals.
-/
namespace Wf
open Go Go.RowKit

theorem wrap_small {n : Int} (h0 : 0 ≤ n) (h1 : n ≤ 2 ^ 47) : IntKind.i64.wrap n = n := by
  have h2 : n % (2 ^ 64 : Int) = n := Int.emod_eq_of_lt h0 (by omega)
  show (if (true && decide (n % (2 ^ 64 : Int) ≥ (2 ^ 63 : Int))) = true then n % (2 ^ 64 : Int) - (2 ^ 64 : Int) else n % (2 ^ 64 : Int)) = n
  rw [h2, if_neg]
  simp; omega

section
variable {c : Ctx} {N : Nat} {w0 : World} {O0 : Nat → Prop} {L Lr : Loc} {w : World}

theorem ty_zero {P : Program} {t : TypeId} {z : D} (h : tyZero P t = some z) : ∃ i zv, P.info? t = some i ∧ i.zero = some zv ∧ valD zv = some z := by
  unfold tyZero at h
  cases hi : P.info? t with
  | none => rw [hi] at h; cases h
  | some i =>
    rw [hi] at h
    simp only [Option.bind_some] at h
    cases hz : i.zero with
    | none => rw [hz] at h; cases h
    | some zv => rw [hz] at h; exact ⟨i, zv, rfl, hz, h⟩

theorem amakeSlice_ok {P : Program} (hm : Mem c N w0 O0 L w) {t : Nat} (ht0 : t < 100000) (hnew : Lr t = L t) {ty : TypeId} {n k : V} {nu ku : Value} {o : Out} (ha : amakeSlice P Lr t ty n k = some o)
    (hn : Val c L w N n nu) (hk : Val c L w N k ku) : ∃ u w', (Instr.makeSlice ty nu ku).run P w = .ok u w' ∧ Did c N w0 O0 L w o u w' := by
  have hnew' : Lr.new t = L.new t := by unfold Loc.new; rw [hnew]
  unfold amakeSlice at ha
  rw [hnew'] at ha
  split at ha
  rotate_left
  · cases ha
  rename_i e n k hu
  cases hz : tyZero P e with
  | none => rw [hz] at ha; cases ha
  | some z =>
  cases hsz : tySize P e with
  | none => rw [hz, hsz] at ha; cases ha
  | some sz =>
  cases hi : P.info? e with
  | none => rw [hz, hsz, hi] at ha; cases ha
  | some i =>
  rw [hz, hsz, hi] at ha
  dsimp only at ha
  split at ha
  rotate_left
  · cases ha
  rename_i hc
  obtain ⟨c1, rfl, c3, c4, c5, c6⟩ := hc
  injection ha with ha; subst ha
  have := hn.int; subst this
  have := hk.int; subst this
  obtain ⟨i', zv, z1, z2, z3⟩ := ty_zero hz
  rw [hi] at z1; cases z1
  obtain ⟨v1, v2, v3⟩ := valD_cells z3
  have hw := wrap_small c1 c4
  have hbb : ¬ ((n : Int) < 0 ∨ (i.bytes : Int) * n > 2 ^ 48) := by
    rintro (h | h)
    · omega
    · rw [Int.mul_comm] at h; omega
  let x : Array Value := (Array.range (n.toNat * sz)).map fun j => zv.cells[j % zv.cells.size]!
  have hxsz : x.size = n.toNat * sz := by simp [x]
  have hrun : (Instr.makeSlice ty (.int .i64 n) (.int .i64 n)).run P w = .ok (.slice (some ⟨w.heap.size, 0, none⟩) n.toNat n.toNat) (w.alloc (.cells x e)) := by
    have hA : ¬ (n < 0) := by omega
    have hB : ¬ ((281474976710656 : Int) < ↑i.bytes * n) := by intro h; exact hbb (.inr h)
    have hsize : ∀ w, (Go.sizeOf e).run P w = .ok sz w := fun w => ty_size hsz w
    by_cases h0 : n.toNat * sz = 0
    · have hx0 : x = #[] := Array.eq_empty_of_size_eq_zero (by rw [hxsz]; exact h0)
      have hn0 : n = 0 := by
        rcases Nat.mul_eq_zero.1 h0 with h | h
        · omega
        · omega
      subst hn0
      simp [Instr.makeSlice, ty_und hu, asInt, asIntOf, typeInfo, hi, hw, hsize, newRow, hx0, Go.Array.range_zero']
    · have hz' : ∀ w, (zeroValue e).run P w = .ok zv w := fun w => by simp [zeroValue, typeInfo, hi, z2]
      simp only [Instr.makeSlice, Sem.run_bind, ty_und hu, asInt, asIntOf, typeInfo, hi, hw, Sem.run_pure, Result.andThen_ok, run_program]
      simp [hA, hB, hsize, hz', newRow, h0, x]
  refine ⟨_, _, hrun, ?_⟩
  have := new_row (t := t) (sz := sz) (els := List.replicate n.toNat z) (x := x) (T := e) (wr := []) (cap := n.toNat) ht0 ⟨fun _ => zv, fun j d hd => by
    have hj : j < n.toNat := by
      rcases Nat.lt_or_ge j n.toNat with h | h
      · exact h
      · rw [List.getElem?_eq_none (by simpa using h)] at hd; cases hd
    simp [hj] at hd
    subst hd
    refine ⟨v3 _ _ _ _, (by rw [v1]; exact c5 : zv.cells.size = sz), fun q u hq => ?_⟩
    have hqs : q < sz := by
      rcases Nat.lt_or_ge q zv.cells.size with h' | h'
      · omega
      · rw [Array.getElem?_eq_none h'] at hq; cases hq
    have hlt : j * sz + q < n.toNat * sz := by
      have : (j + 1) * sz ≤ n.toNat * sz := Nat.mul_le_mul_right _ hj
      rw [Nat.succ_mul] at this; omega
    have hmod : (j * sz + q) % zv.cells.size = q := by rw [v1, c5, Nat.mul_comm, Nat.mul_add_mod, Nat.mod_eq_of_lt hqs]
    simp only [x, Array.getElem?_map]
    rw [Array.getElem?_eq_getElem (by simpa using hlt)]
    simp only [Option.map_some, Array.getElem_range, hmod]
    have hqz : q < zv.cells.size := by omega
    rw [Array.getElem?_eq_getElem hqz] at hq
    rw [getElem!_pos zv.cells q hqz]; exact hq⟩ hm (Grow.refl ..) (by simp [Loc.upd, Loc.new]) (by rw [hxsz]; exact Nat.le_refl _) (by simp)
  simpa using this

/-- Into a row of single cells. -/
theorem write_row1 (hm : Mem c N w0 O0 L w) {g l off : Nat} {els ys : List D} {b : Nat} {x : Array Value} {T : TypeId} {fz : Nat × Nat} {vs : List Value} {r : V} {ru : Value}
    (hL : L.get g l = .arr 1 els true) (hι : c.ι g = some b) (hb : w.heap[b]? = some (.cells x T fz)) (ho : off + ys.length ≤ els.length) (hr : Reps w (own c L) N c.γ ys vs) (h1 : ∀ v ∈ vs, v.oneCell' = true)
    (hrv : ∀ c L w, Val c L w N r ru) :
    Did c N w0 O0 L w { v := r, wr := [(g, (l, .arr 1 (els.take off ++ ys ++ els.drop (off + ys.length)) true))] } ru (put w b (splice x off vs) T fz) := by
  obtain ⟨e1, e2⟩ := get_at hL (by simp)
  have hob := hm.get hL (by simp)
  rw [hι] at hob
  obtain ⟨x', T', fz', g2, g3, g4, us, g5⟩ := hob
  rw [hb] at g2; cases g2
  have hvl := hr.1
  have hsz : (splice x off vs).size = x.size := splice_size (by omega)
  have hw : ∀ k, k ≠ b → (put w b (splice x off vs) T fz).heap[k]? = w.heap[k]? := fun k hk => by rw [put_heap (lt_of_heap hb)]; simp [hk]
  have hbb : (put w b (splice x off vs) T fz).heap[b]? = some (.cells (splice x off vs) T fz) := by rw [put_heap (lt_of_heap hb)]; simp
  have hlen : (els.take off ++ ys ++ els.drop (off + ys.length)).length = els.length := by simp; omega
  have hz : ∀ y T' fz', w.heap[b]? = some (.cells y T' fz') → ∃ y' fz'', (put w b (splice x off vs) T fz).heap[b]? = some (.cells y' T' fz'') ∧ y'.size = y.size := by
    intro y T' fz' hy; rw [hb] at hy; cases hy; exact ⟨_, _, hbb, hsz⟩
  have hcp : Compat (L g).2 (.arr 1 (els.take off ++ ys ++ els.drop (off + ys.length)) true) := by rw [e2]; exact ⟨rfl, hlen⟩
  have hg := Grow.write hm (x := .arr 1 (els.take off ++ ys ++ els.drop (off + ys.length)) true) hι (by rw [e2]; rfl) hcp (by simp [put]) hw hz
  have hmm := Mem.write hm (x := .arr 1 (els.take off ++ ys ++ els.drop (off + ys.length)) true) hι (by rw [e2]; simp) (by rw [e2]; rfl) hcp (by simp [put]) hw hz rfl rfl rfl
    ⟨_, T, fz, hbb, fun k hk => by rw [frozen_put hb]; exact g3 k (by omega), by rw [hsz, hlen]; exact g4,
      fun i => if off ≤ i ∧ i < off + ys.length then vs.getD (i - off) undef else us i, by
      intro i d hd
      rw [list_splice ho] at hd
      by_cases hi : off ≤ i ∧ i < off + ys.length
      · rw [if_pos hi] at hd
        simp only [if_pos hi]
        have hj : i - off < vs.length := by omega
        have hv : vs[i - off]? = some (vs.getD (i - off) undef) := by simp [hj]
        have ho1 := h1 _ (List.mem_of_getElem? hv)
        refine ⟨(hr.2 _ _ _ hd hv).grow hg, by rw [cells_of_one ho1]; rfl, fun q u hu => ?_⟩
        rw [cells_of_one ho1] at hu
        cases q with
        | zero =>
          simp only [List.getElem?_toArray, List.getElem?_cons_zero, Option.some.injEq] at hu
          rw [Nat.mul_one, Nat.add_zero, put_cell hb, splice_at (by omega), if_pos (by omega), hv, hu]
        | succ q => simp at hu
      · rw [if_neg hi] at hd
        simp only [if_neg hi]
        obtain ⟨p1, p2, p3⟩ := g5 i d hd
        refine ⟨p1.grow hg, p2, fun q u hu => ?_⟩
        have hq : q = 0 := by
          rcases Nat.lt_or_ge q (us i).cells.size with h' | h'
          · omega
          · rw [Array.getElem?_eq_none h'] at hu; cases hu
        subst hq
        have := p3 0 u hu
        rw [Nat.mul_one, Nat.add_zero] at this ⊢
        rw [put_cell hb, splice_at (by omega), if_neg (by omega)]
        simpa [World.cell?, hb] using this⟩
  rw [e1] at hg hmm
  exact ⟨c, hmm, hg, hrv _ _ _⟩

/-- What copy reads. -/
theorem src_ok {P : Program} (hm : Mem c N w0 O0 L w) (hs : Sees Lr L) {ty2 : TypeId} {x : V} {xu : Value} {xs : List D} (he : srcOf P Lr ty2 x = some xs) (hv : Val c L w N x xu) (hc : xs.all (fun d => d.cell) = true) (n : Nat) (hn : n ≤ xs.length) :
    Builtin.lenOf xu = pure xs.length ∧ ∃ nx, (Builtin.firstCells 1 n xu).run P w = .ok nx w ∧ nx.size = n ∧ Reps w (own c L) N c.γ (xs.take n) nx.toList ∧ ∀ v ∈ nx.toList, v.oneCell' = true := by
  have hsl : elsOf Lr x = some xs → Builtin.lenOf xu = pure xs.length ∧ ∃ nx, (Builtin.firstCells 1 n xu).run P w = .ok nx w ∧ nx.size = n ∧ Reps w (own c L) N c.γ (xs.take n) nx.toList ∧ ∀ v ∈ nx.toList, v.oneCell' = true := by
    intro hxs
    obtain ⟨xa, xcap, rfl, xc, hrow⟩ := els_ok hm hs hxs hv
    refine ⟨rfl, ?_⟩
    have hln : (xs.take n).length = n := by simp; omega
    rcases hrow with rfl | ⟨b, bo, sz', vs, rfl, _, _, h⟩
    · have : n = 0 := by simpa using hn
      subst this
      refine ⟨#[], ?_, by simp, by simpa using Reps.nil, by simp⟩
      cases xa <;> simp [Builtin.firstCells, loadCells, loadCellsFrom]
    · have h' : ∀ (i : Nat) (d : D), (xs.take n)[i]? = some d → Rep w (own c L) N c.γ d (vs i) ∧ (vs i).cells.size = 1 ∧ cellsAt w b (bo + i * 1) (vs i) ∧ (vs i).oneCell' = true := by
        intro i d hd
        rw [List.getElem?_take] at hd
        split at hd
        · obtain ⟨q1, q2, q3⟩ := h i d hd
          have hcell : d.cell = true := by
            rw [List.all_eq_true] at hc
            exact hc d (List.mem_of_getElem? hd)
          have ho := q1.cell hcell
          have hs1 : (vs i).cells.size = 1 := by rw [cells_of_one ho]; rfl
          have : sz' = 1 := by omega
          subst this
          exact ⟨q1, hs1, q3, ho⟩
        · cases hd
      obtain ⟨nx, n1, n2, ⟨us, n3⟩, n4⟩ := firstCells_of (P := P) (w := w) (l := xs.take n) (b := b) (o := bo) (cap := xcap) (vs := vs) fun i d hd => ⟨(h' i d hd).1, (h' i d hd).2.1, (h' i d hd).2.2.1⟩
      have n1' := n1 w fun _ => rfl
      rw [Nat.mul_one, hln] at n2
      rw [hln] at n1'
      refine ⟨nx, by simpa [Builtin.firstCells] using n1', n2, ⟨by simp [n2]; omega, fun i d v hd hv => ?_⟩, ?_⟩
      · obtain ⟨r1, r2, r3⟩ := n3 i d hd
        have ho := r1.cell (by
          rw [List.getElem?_take] at hd
          split at hd
          · rw [List.all_eq_true] at hc; exact hc d (List.mem_of_getElem? hd)
          · cases hd)
        have := r3 0 (us i) (by rw [cells_of_one ho]; rfl)
        rw [Nat.mul_one, Nat.add_zero] at this
        have hv' : nx[i]? = some v := by simpa using hv
        rw [this] at hv'; cases hv'; exact r1
      · intro v hv
        obtain ⟨k, hk, rfl⟩ := List.mem_iff_getElem.1 hv
        obtain ⟨i, d, q, r1, r2⟩ := n4 k (nx.toList[k]) (by simp)
        have ho := (h' i d r1).2.2.2
        rw [cells_of_one ho] at r2
        cases q with
        | zero =>
          have e5 : nx.toList[k] = vs i := by simpa using r2.symm
          rw [e5]; exact ho
        | succ q => simp at r2
  unfold srcOf at he
  split at he
  · rename_i s
    split at he
    rotate_left
    · cases he
    injection he with he; subst he
    have hst := hv.dat
    cases hst with
    | str =>
    have hlen : (strEls s).length = s.size := by simp [strEls]
    rw [hlen] at hn
    have hnx : ((s.extract 0 n).data.map fun b => Value.int .u8 b.toNat).toList = (s.data.toList.map fun b => Value.int .u8 b.toNat).take n := by
      simp
    refine ⟨by rw [hlen]; rfl, _, rfl, ?_, ?_, ?_⟩
    · simp; omega
    · rw [hnx]
      refine ⟨by simp [strEls], fun i d v hd hv => ?_⟩
      rw [List.getElem?_take] at hd hv
      split at hd
      rotate_left
      · cases hd
      rename_i hi
      rw [if_pos hi] at hv
      unfold strEls at hd
      rw [List.getElem?_map] at hd hv
      cases hb : s.data.toList[i]? with
      | none => rw [hb] at hd; cases hd
      | some b =>
        rw [hb] at hd hv
        simp at hd hv; subst hd; subst hv
        exact .int _ _
    · rw [hnx]
      intro v hv
      have := List.mem_of_mem_take hv
      obtain ⟨b, _, rfl⟩ := List.mem_map.1 this
      rfl
  · split at he
    · cases he
    · exact hsl he

theorem copy_run {P : Program} {ty : TypeId} {tys : List TypeId} {rty e : TypeId} {a : Option Addr} {len cap n m : Nat} {xu : Value} {nx : Array Value} {w w' : World} (hu : P.underlying ty = some (.slice e)) (hsize : ∀ w, (Go.sizeOf e).run P w = .ok 1 w)
    (h1 : Builtin.lenOf xu = pure m) (hn : Nat.min m len = n) (h2 : (Builtin.firstCells 1 n xu).run P w = .ok nx w) (hst : ∀ b, a = some b → (storeCells b nx.toList).run P w = .ok () w') (hno : a = none → w' = w) :
    (Builtin.copy_ (ty :: tys).toArray rty #[.slice a len cap, xu]).run P w = .ok (goInt n) w' := by
  simp only [Builtin.copy_]
  simp [ty_und hu, hsize, h1]
  rw [hn, h2]
  cases a with
  | none => simp [hno rfl]
  | some b => simp [hst b rfl]

theorem acopy_ok {P : Program} (hm : Mem c N w0 O0 L w) (hs : Sees Lr L) {ty rty ty2 : TypeId} {tys : List TypeId} {s x : V} {su xu : Value} {o : Out} (ha : acopy P Lr ty ty2 s x = some o)
    (hv : Val c L w N s su) (hx : Val c L w N x xu) :
    ∃ u w', (Builtin.copy_ (ty :: tys).toArray rty #[su, xu]).run P w = .ok u w' ∧ Did c N w0 O0 L w o u w' := by
  unfold acopy at ha
  split at ha
  · rename_i g n off len xs ez hxs hty
    split at ha
    rotate_left
    · cases ha
    rename_i sz els hy
    split at ha
    rotate_left
    · cases ha
    rename_i hc
    obtain ⟨c1, rfl, rfl, c4⟩ := hc
    injection ha with ha; subst ha
    have hL := hs g n (by rw [hy]; simp)
    rw [hy] at hL
    obtain ⟨e, hu, he⟩ := ty_elem hty
    cases hv with
    | ref _ _ _ _ _ k1 k2 k3 =>
    obtain ⟨_, a, cap, rfl, p3, p4⟩ := k2 _ _ _ hL
    have hmin : Nat.min xs.length len = (xs.take len).length := by rw [List.length_take]; exact Nat.min_comm _ _
    have hmin2 : min xs.length len = (xs.take len).length := hmin
    obtain ⟨hlen, nx, n1, n2, n3, n4⟩ := src_ok (P := P) hm hs hxs hx c4 (xs.take len).length (by simp; omega)
    rw [show xs.take (xs.take len).length = xs.take len by rw [← hmin2]; simp [List.take_eq_take_min (i := len), Nat.min_comm]] at n3
    have hsize : ∀ w, (Go.sizeOf e).run P w = .ok 1 w := fun w => ty_size he w
    have hri : ∀ c L w, Val c L w N (.d (.int .i64 ((min xs.length len : Nat) : Int))) (goInt ((xs.take len).length : Nat)) := by
      intro c L w; rw [hmin2]; exact .d _ _ (.int _ _)
    by_cases h0 : (xs.take len).length = 0
    · have hnx : nx = #[] := Array.eq_empty_of_size_eq_zero (by omega)
      subst hnx
      have hxt : xs.take len = [] := List.eq_nil_of_length_eq_zero h0
      refine ⟨_, _, copy_run hu hsize hlen hmin n1 (w' := w) (fun b _ => by simp [storeCells]) (fun _ => rfl), ?_⟩
      have he2 : els.take off ++ xs.take len ++ els.drop (off + (xs.take len).length) = els := by rw [hxt]; simp
      rw [he2]
      obtain ⟨e1, e2⟩ := get_at hL (by simp)
      have hset : L.set g (n, .arr 1 els true) = L := by
        funext k; by_cases hk : k = g
        · subst hk; rw [Loc.set_same]; exact Prod.ext e1.symm e2.symm
        · rw [Loc.set_ne _ _ hk]
      refine ⟨c, ?_, ?_, hri _ _ _⟩
      · simp only [Loc.upd, hset]; exact hm
      · simp only [Loc.upd, hset]; exact Grow.refl ..
    · rcases p4 with rfl | ⟨b, y, T, fz, r1, rfl, r3, r4⟩
      · simp at h0; omega
      · have hob := hm.get hL (by simp)
        rw [r1] at hob
        obtain ⟨x', T', fz', g2, g3, g4, us, g5⟩ := hob
        rw [r3] at g2; cases g2
        have hle : off + (xs.take len).length ≤ els.length := by simp; omega
        have hst := run_storeCells (P := P) (b := b) (o := off) (T := T) (fz := fz) nx.toList 0 y w r3 (by simp; omega) (fun j _ hj => g3 j (by simp at hj; omega)) n4
        refine ⟨_, _, copy_run hu hsize hlen hmin n1 (fun q hq => by cases hq; rw [Nat.mul_one]; exact hst) (by simp), ?_⟩
        exact write_row1 hm hL r1 r3 hle n3 n4 hri
  · rename_i g n off len xs ez hxs hty
    split at ha
    rotate_left
    · cases ha
    rename_i ag ds hy
    split at ha
    rotate_left
    · cases ha
    rename_i hc
    obtain ⟨c1, rfl, c4⟩ := hc
    injection ha with ha; subst ha
    have hL := hs g n (by rw [hy]; simp)
    rw [hy] at hL
    obtain ⟨e, hu, he⟩ := ty_elem hty
    cases hv with
    | bref _ _ _ _ _ k1 k2 =>
    obtain ⟨_, b, cap, r1, p3, rfl⟩ := k2 _ (by rw [hL]; rfl)
    have hmin : Nat.min xs.length len = (xs.take len).length := by rw [List.length_take]; exact Nat.min_comm _ _
    have hmin2 : min xs.length len = (xs.take len).length := hmin
    obtain ⟨hlen, nx, n1, n2, n3, n4⟩ := src_ok (P := P) hm hs hxs hx c4 (xs.take len).length (by simp; omega)
    rw [show xs.take (xs.take len).length = xs.take len by rw [← hmin2]; simp [List.take_eq_take_min (i := len), Nat.min_comm]] at n3
    have hsize : ∀ w, (Go.sizeOf e).run P w = .ok 1 w := fun w => ty_size he w
    have hri : ∀ c L w, Val c L w N (.d (.int .i64 ((min xs.length len : Nat) : Int))) (goInt ((xs.take len).length : Nat)) := by
      intro c L w; rw [hmin2]; exact .d _ _ (.int _ _)
    obtain ⟨b', y, T, fz, g1, r3, g3, g4, g5⟩ := hm.get hL (by simp)
    rw [r1] at g1; cases g1
    have hle : off + (xs.take len).length ≤ ds.length := by simp; omega
    have hst := run_storeCells (P := P) (b := b) (o := off) (T := T) (fz := fz) nx.toList 0 y w r3 (by simp; omega) (fun j _ hj => g3 j (by simp at hj; omega)) n4
    refine ⟨_, _, copy_run hu hsize hlen hmin n1 (fun q hq => by cases hq; exact hst) (by simp), ?_⟩
    obtain ⟨c', d1, d2, d3⟩ := write_cells (z := .box ag (ds.take off ++ xs.take len ++ ds.drop (off + (xs.take len).length))) (vs := (xs.take len).map .d) (off := off) hm hL rfl (by simp [HObj.cellsV]) r1 r3 (by simp; omega) (fun i v u hv hu => by
        rw [List.getElem?_map] at hv
        cases hd : (xs.take len)[i]? with
        | none => rw [hd] at hv; cases hv
        | some d => rw [hd] at hv; simp at hv; subst hv; exact .d _ _ (n3.2 i d u hd hu)) n4 (by simpa using hle)
    exact ⟨c', d1, d2, hri _ _ _⟩
  · cases ha

end
end Wf

/-
  What operations do: literals, boxes, maps.
-/
namespace Wf
open Go Go.RowKit

theorem fold_set (off : Nat) : ∀ (vs : List Value) (j : Nat) (x : Array Value), off + j + vs.length ≤ x.size →
    (vs.zipIdx j).foldl (fun cs p => cs.setIfInBounds (off + p.2) p.1) x = splice x (off + j) vs
  | [], j, x, _ => by simp [splice_nil]
  | v :: vs, j, x, h => by
    simp only [List.zipIdx_cons, List.foldl_cons]
    simp at h
    rw [fold_set off vs (j + 1) (x.setIfInBounds (off + j) v) (by simp; omega), show off + (j + 1) = off + j + 1 by omega]
    exact splice_cons (by simp; omega)

theorem fold_set_arr (off : Nat) (vs x : Array Value) (h : off + vs.size ≤ x.size) :
    vs.zipIdx.foldl (fun cs p => cs.setIfInBounds (off + p.2) p.1) x = splice x off vs.toList := by
  have := fold_set off vs.toList 0 x (by simpa using h)
  rw [← Array.foldl_toList, Array.toList_zipIdx]
  simpa using this

theorem fill_step {place : Nat → Option (Nat × Nat)} {x : Array Value} {i off size : Nat} {v : Value} {rest : List (Nat × Value)} (hp : place i = some (off, size)) (hv : v.cells.size = size) (ho : off + size ≤ x.size) :
    Instr.fill place x ((i, v) :: rest) = Instr.fill place (splice x off v.cells.toList) rest := by
  have := fold_set_arr off v.cells x (by omega)
  simp only [Instr.fill, hp, hv]
  rw [if_neg (by simp; omega)]
  rw [← this]

/-- Parts, one behind the other. -/
theorem fill_row {sz : Nat} : ∀ (vs : List Value) (k : Nat) (x : Array Value), (∀ v ∈ vs, v.cells.size = sz) → (k + vs.length) * sz ≤ x.size →
    ∃ x', Instr.fill (fun i => some (i * sz, sz)) x ((vs.zipIdx k).map fun p => (p.2, p.1)) = some x' ∧ x'.size = x.size ∧
      (∀ (i : Nat) (v : Value), vs[i]? = some v → ∀ (q : Nat) (u : Value), v.cells[q]? = some u → x'[(k + i) * sz + q]? = some u) ∧ ∀ j, j < k * sz → x'[j]? = x[j]?
  | [], k, x, _, _ => ⟨x, rfl, rfl, by simp, fun _ _ => rfl⟩
  | v :: vs, k, x, hv, h => by
    have hvs : v.cells.size = sz := hv v (by simp)
    have hk : k * sz + sz ≤ x.size := by
      have : (k + 1) * sz ≤ (k + (v :: vs).length) * sz := Nat.mul_le_mul_right _ (by simp)
      rw [Nat.succ_mul] at this; omega
    have hroom : k * sz + v.cells.toList.length ≤ x.size := by simp; omega
    obtain ⟨x', h1, h2, h3, h4⟩ := fill_row vs (k + 1) (splice x (k * sz) v.cells.toList) (fun u hu => hv u (by simp [hu])) (by
      rw [splice_size hroom]; simp at h; rw [show k + 1 + vs.length = k + (vs.length + 1) by omega]; exact h)
    refine ⟨x', ?_, by rw [h2, splice_size hroom], ?_, ?_⟩
    · simp only [List.zipIdx_cons, List.map_cons]
      rw [fill_step rfl hvs hk]; exact h1
    · intro i u hu q y hy
      cases i with
      | zero =>
        simp at hu; subst hu
        have hq : q < sz := by
          rcases Nat.lt_or_ge q v.cells.size with h' | h'
          · omega
          · rw [Array.getElem?_eq_none h'] at hy; cases hy
        rw [Nat.add_zero, h4 _ (by rw [Nat.succ_mul]; omega), splice_at hroom, if_pos (by simp; omega), show k * sz + q - k * sz = q by omega]
        simpa using hy
      | succ i =>
        have := h3 i u (by simpa using hu) q y hy
        rwa [show k + 1 + i = k + (i + 1) by omega] at this
    · intro j hj
      rw [h4 j (by rw [Nat.succ_mul]; omega), splice_at hroom, if_neg (by omega)]

section
variable {c : Ctx} {N : Nat} {w0 : World} {O0 : Nat → Prop} {L Lr : Loc} {w : World}

/-- A new block that is nobody's. -/
theorem Mem.anon (h : Mem c N w0 O0 L w) (o : Obj) : Grow c L w c L (w.alloc o) ∧ Mem c N w0 O0 L (w.alloc o) := by
  have hold : ∀ b, b < w.heap.size → (w.alloc o).heap[b]? = w.heap[b]? := fun b hb => Below.heap_alloc w o b hb
  have hg : Grow c L w c L (w.alloc o) := by
    refine ⟨by simp, fun b _ hb => hold b hb, fun _ _ h => h, fun _ _ _ h => h, fun _ _ _ _ _ => rfl, fun _ h => ⟨h, rfl, rfl⟩, ?_, fun _ => Nat.le_refl _, fun _ _ => .inr ⟨rfl, Compat.refl _⟩⟩
    intro b y T fz hb _
    exact ⟨y, fz, by rw [hold b (lt_of_heap hb)]; exact hb, rfl⟩
  refine ⟨hg, fun g => (h.obj g).grow hg fun b hb hd => hold b (h.mine g b hb hd).2.1, h.inj, fun g b h1 h2 => ?_, h.mineN, ?_, h.iotab, h.only, ?_, h.size0, h.os, h.tape, h.output, fun b hb hO => ?_, fun b hb => ?_⟩
  · obtain ⟨a1, a2, a3⟩ := h.mine g b h1 h2; exact ⟨a1, by simp; omega, a3⟩
  · exact h.tab.stable (fun k => rfl) rfl rfl rfl fun k i q b h1 h2 => hold b (by obtain ⟨o, ho⟩ := h.tab.block h1 h2; exact lt_of_heap ho)
  · have := h.size; simp; omega
  · rw [hold b (by have := h.size; omega)]; exact h.keep b hb hO
  · obtain ⟨a1, a2⟩ := h.osub b hb; exact ⟨by simp; omega, a2⟩

theorem abuildSlice_ok {P : Program} (hm : Mem c N w0 O0 L w) (hs : Sees Lr L) {t : TypeId} {n : Nat} {parts : List (Nat × V)} {us : List Value} {o : Out} (ha : abuildSlice P Lr t n parts = some o)
    (hv : Vals c L w N (parts.map (·.2)) us) :
    ∃ u w', (Instr.buildSlice t n ((parts.map (·.1)).zip us).toArray).run P w = .ok u w' ∧ Did c N w0 O0 L w o u w' := by
  unfold abuildSlice at ha
  cases hty : appendTy P t n with
  | none => rw [hty] at ha; cases ha
  | some sz =>
  cases htd : toDs Lr (parts.map (·.2)) with
  | none => rw [hty, htd] at ha; cases ha
  | some p =>
  obtain ⟨ds, wr⟩ := p
  rw [hty, htd] at ha
  dsimp only at ha
  split at ha
  rotate_left
  · cases ha
  rename_i hc
  obtain ⟨c1, c2, c3⟩ := hc
  injection ha with ha; subst ha
  obtain ⟨m1, m2, m3, _⟩ := toDs_ok _ _ _ _ L hm hs.weak htd hv
  obtain ⟨e, i, z, zv, t1, t2, t3, t4, t5, t6, t7, t8, t9, t10⟩ := append_ty hty
  have hpl : parts.length = n := by have := congrArg List.length c1; simpa using this
  have hul : us.length = n := by rw [hv.1]; simpa using hpl
  have hdl : ds.length = n := by rw [← m3.1]; exact hul
  have hus : ∀ u ∈ us, u.cells.size = sz ∧ ∀ (q : Nat) (y : Value), u.cells[q]? = some y → y.oneCell' = true := by
    intro u hu
    obtain ⟨k, hk, rfl⟩ := List.mem_iff_getElem.1 hu
    have hd : ds[k]? = some (ds[k]'(by omega)) := by simp
    obtain ⟨o1, o2⟩ := okEls_spec c3 hd
    have := (m3.2 k _ _ hd (List.getElem?_eq_getElem hk)).cells o2
    exact ⟨by omega, this.2⟩
  have hzip : (parts.map (·.1)).zip us = (us.zipIdx 0).map fun p => (p.2, p.1) := by
    rw [c1]
    apply List.ext_getElem?
    intro k
    simp only [List.getElem?_map, List.getElem?_zipIdx]
    by_cases hk : k < n
    · have h1 : us[k]? = some (us[k]'(by omega)) := by simp
      have h2 : (List.range n)[k]? = some k := by simp [hk]
      have h3 : ((List.range n).zip us)[k]? = some (k, us[k]'(by omega)) := List.getElem?_zip_eq_some.2 ⟨h2, h1⟩
      rw [h3]
      simp [h1]
    · rw [List.getElem?_eq_none (show us.length ≤ k by omega), List.getElem?_eq_none (by simp; omega)]
      rfl
  let x0 : Array Value := (Array.range (n * sz)).map fun j => (if n * sz = 0 then #[] else zv.cells)[j % (if n * sz = 0 then (#[] : Array Value) else zv.cells).size]!
  have hx0 : x0.size = n * sz := by simp [x0]
  obtain ⟨x, f1, f2, f3, _⟩ := fill_row (sz := sz) us 0 x0 (fun u hu => (hus u hu).1) (by rw [hx0, hul, Nat.zero_add]; exact Nat.le_refl _)
  have hsize : ∀ w, (Go.sizeOf e).run P w = .ok sz w := fun w => ty_size (by unfold tySize; simp [t2, t3]) w
  have hzero : ∀ w, (zeroValue e).run P w = .ok zv w := fun w => by simp [zeroValue, typeInfo, t2, t4]
  have hrun : (Instr.buildSlice t n ((parts.map (·.1)).zip us).toArray).run P w = .ok (.slice (some ⟨w.heap.size, 0, none⟩) n n) (w.alloc (.cells x e)) := by
    have hbig : ¬ (n * sz > 2 ^ 24) := by omega
    rw [hzip]
    unfold Instr.buildSlice
    simp only [Sem.run_bind, ty_und t1, Result.andThen_ok, hsize, hbig, if_false]
    by_cases h0 : n * sz = 0
    · have e1 : x0 = (Array.range (n * sz)).map fun j => (#[] : Array Value)[j % (#[] : Array Value).size]! := by simp only [x0, h0, if_true]
      simp only [h0, if_true, Sem.run_bind, Sem.run_pure, Result.andThen_ok]
      rw [e1, h0] at f1
      simp only [f1, newRow, Sem.run_bind, Sem.run_pure, Result.andThen_ok, run_newObj, World.alloc_eq]
    · have e1 : x0 = (Array.range (n * sz)).map fun j => zv.cells[j % zv.cells.size]! := by simp only [x0, h0, if_false]
      simp only [h0, if_false, Sem.run_bind, hzero, Sem.run_pure, Result.andThen_ok]
      rw [e1] at f1
      simp only [f1, newRow, Sem.run_bind, Sem.run_pure, Result.andThen_ok, run_newObj, World.alloc_eq]
  refine ⟨_, _, hrun, ?_⟩
  -- the new row is nobody's: it is read alone
  obtain ⟨hgrow, hmem⟩ := m1.anon (.cells x e)
  refine ⟨c, hmem, m2.trans hgrow, .d _ _ ?_⟩
  have hnot : ¬ own c (L.upd wr) w.heap.size := by
    rintro (ho | ⟨g, h1, h2⟩)
    · have := (m1.osub _ ho).1; omega
    · have := (m1.mine g _ h1 (by intro e; rw [e] at h2; cases h2)).2.1; omega
  by_cases hn : n = 0
  · subst hn
    have : ds = [] := List.eq_nil_of_length_eq_zero hdl
    subst this
    exact .slE _ _ _ (fun _ => rfl) (fun h => nomatch h) (by simp)
  · have := Rep.sl (w := w.alloc (.cells x e)) (A := own c (L.upd wr)) (N := N) (γ := c.γ) .full ds w.heap.size 0 sz n (fun i => us.getD i undef) (by intro e; rw [e] at hdl; simp at hdl; omega) (by simp) (by omega) (fun _ => hdl.symm)
      hnot (fun _ => m1.size) (by simp) (fun i d hd => by
        have hi : i < us.length := by
          rcases Nat.lt_or_ge i ds.length with h | h
          · omega
          · rw [List.getElem?_eq_none h] at hd; cases hd
        exact (m3.2 i d _ hd (by simp [hi])).grow hgrow)
      (fun i hi => by
        have hu : us[i]? = some (us.getD i undef) := by simp [show i < us.length by omega]
        refine ⟨(hus _ (List.mem_of_getElem? hu)).1, fun q y hy => ?_⟩
        rw [World.cell?_alloc_new, Nat.zero_add]
        have := f3 i _ hu q y hy
        rwa [Nat.zero_add] at this)
    rw [hdl] at this
    exact this

end
end Wf

/-
  What operations do: struct literals, boxes.
-/
namespace Wf
open Go Go.RowKit

def CellsRep (w : World) (A : Nat → Prop) (N : Nat) (γ : Nat → Nat → Option Nat) (ds : List D) (x : Array Value) : Prop :=
  x.size = ds.length ∧ ∀ (i : Nat) (d : D) (u : Value), ds[i]? = some d → x[i]? = some u → Rep w A N γ d u ∧ u.oneCell' = true

theorem CellsRep.splice {w : World} {A N γ} {ds xs : List D} {x : Array Value} {off : Nat} {vs : List Value} (h : CellsRep w A N γ ds x) (hr : Reps w A N γ xs vs) (h1 : ∀ v ∈ vs, v.oneCell' = true)
    (ho : off + xs.length ≤ ds.length) : CellsRep w A N γ (ds.take off ++ xs ++ ds.drop (off + xs.length)) (splice x off vs) := by
  have hvl := hr.1
  have hx := h.1
  refine ⟨by rw [splice_size (by omega), hx]; simp; omega, fun i d u hd hu => ?_⟩
  rw [list_splice ho] at hd
  rw [splice_at (by omega), hvl] at hu
  split at hd
  · rename_i hi
    rw [if_pos hi] at hu
    exact ⟨hr.2 _ _ _ hd hu, h1 u (List.mem_of_getElem? hu)⟩
  · rename_i hi
    rw [if_neg hi] at hu
    exact h.2 i d u hd hu

theorem lay_fill {w : World} {A N γ} {pl pl' : Nat → Option (Nat × Nat)} (hp : ∀ i p, pl i = some p → pl' i = some p) : ∀ (is : List Nat) (ds : List D) (us : List Value) (cs cs' : List D) (x : Array Value),
    lay pl cs (is.zip ds) = some cs' → Reps w A N γ ds us → CellsRep w A N γ cs x → ∃ x', Instr.fill pl' x (is.zip us) = some x' ∧ CellsRep w A N γ cs' x'
  | [], ds, us, cs, cs', x, h, _, hc => by simp [lay] at h; subst h; exact ⟨x, by simp [Instr.fill], hc⟩
  | i :: is, [], us, cs, cs', x, h, hr, hc => by
    simp [lay] at h; subst h
    have : us = [] := hr.nil_inv
    subst this
    exact ⟨x, by simp [Instr.fill], hc⟩
  | i :: is, d :: ds, us, cs, cs', x, h, hr, hc => by
    obtain ⟨u, us', rfl, hu, hus⟩ := hr.cons_inv
    simp only [List.zip_cons_cons, lay] at h ⊢
    cases hpi : pl i with
    | none => rw [hpi] at h; cases h
    | some p =>
      obtain ⟨off, size⟩ := p
      rw [hpi] at h
      dsimp only at h
      have hx := hc.1
      by_cases hag : ∃ xs, d = .agg xs
      · obtain ⟨xs, rfl⟩ := hag
        dsimp only at h
        split at h
        · rename_i hc2
          obtain ⟨q1, q2⟩ := hc2
          cases hu' : u with
          | agg vs =>
            rw [hu'] at hu
            obtain ⟨r1, r2⟩ := reps_agg hu
            have hvs : vs.size = size := by have := r1.1; simp at this; omega
            rw [fill_step (hp _ _ hpi) (by simpa [Value.cells] using hvs) (by omega)]
            refine lay_fill hp is ds us' _ cs' _ h hus ?_
            have := hc.splice r1 r2 (off := off) (by omega)
            rw [q1] at this; exact this
          | _ => rw [hu'] at hu; cases hu
        · cases h
      · have hd : d.cell = true ∧ (if size = 1 ∧ off + 1 ≤ cs.length then lay pl (cs.set off d) (is.zip ds) else none) = some cs' := by
          cases d <;> first | exact ⟨rfl, h⟩ | cases h | exact absurd ⟨_, rfl⟩ hag
        obtain ⟨hcell, h'⟩ := hd
        split at h'
        · rename_i hc2
          obtain ⟨rfl, q2⟩ := hc2
          have ho := hu.cell hcell
          obtain ⟨o1, o2, o3⟩ := one_cells ho
          rw [fill_step (hp _ _ hpi) o2 (by omega), o1]
          refine lay_fill hp is ds us' _ cs' _ h' hus ?_
          have := hc.splice (reps_one hu) (by simpa using ho) (off := off) (by simp; omega)
          simp only [List.length_singleton] at this
          rw [← set_splice (by omega)] at this; exact this
        · cases h'

theorem mapM_run {α β : Type} {P : Program} {w : World} {f : α → Sem β} {g : α → β} : ∀ (l : List α), (∀ x ∈ l, (f x).run P w = .ok (g x) w) → (l.mapM f).run P w = .ok (l.map g) w
  | [], _ => by simp
  | x :: l, h => by
    have := mapM_run (f := f) (g := g) l (fun y hy => h y (by simp [hy]))
    simp [List.mapM_cons, h x (by simp), this]

section
variable {c : Ctx} {N : Nat} {w0 : World} {O0 : Nat → Prop} {L Lr : Loc} {w : World}

def CellsV (c : Ctx) (L : Loc) (w : World) (N : Nat) (us : List V) (x : Array Value) : Prop :=
  x.size = us.length ∧ ∀ (i : Nat) (v : V) (u : Value), us[i]? = some v → x[i]? = some u → Val c L w N v u ∧ u.oneCell' = true

theorem CellsV.splice {us vs : List V} {x : Array Value} {off : Nat} {ws : List Value} (h : CellsV c L w N us x) (hr : Vals c L w N vs ws) (h1 : ∀ v ∈ ws, v.oneCell' = true)
    (ho : off + vs.length ≤ us.length) : CellsV c L w N (us.take off ++ vs ++ us.drop (off + vs.length)) (splice x off ws) := by
  have hvl := hr.1
  have hx := h.1
  refine ⟨by rw [splice_size (by omega), hx]; simp; omega, fun i d u hd hu => ?_⟩
  rw [list_splice ho] at hd
  rw [splice_at (by omega), hvl] at hu
  split at hd
  · rename_i hi
    rw [if_pos hi] at hu
    exact ⟨hr.2 _ _ _ hd hu, h1 u (List.mem_of_getElem? hu)⟩
  · rename_i hi
    rw [if_neg hi] at hu
    exact h.2 i d u hd hu

theorem layV_fill {pl pl' : Nat → Option (Nat × Nat)} (hs : Sees Lr L) (hp : ∀ i p, pl i = some p → pl' i = some p) : ∀ (parts : List (Nat × V)) (us : List Value) (ds : List D) (ks : List Nat) (vs : List V) (st' : List D × List Nat × List V) (x : Array Value),
    layV pl (ds, ks, vs) parts = some st' → (∀ p ∈ parts, okRef Lr p.2 = true) → Vals c L w N (parts.map (·.2)) us → CellsV c L w N (ovs ks vs (ds.map .d)) x →
    ∃ x', Instr.fill pl' x ((parts.map (·.1)).zip us) = some x' ∧ CellsV c L w N (ovs st'.2.1 st'.2.2 (st'.1.map .d)) x'
  | [], us, ds, ks, vs, st', x, h, _, _, hc => by
    simp [layV] at h; subst h; exact ⟨x, by simp [Instr.fill], hc⟩
  | (i, v) :: parts, us, ds, ks, vs, st', x, h, hok, hr, hc => by
    obtain ⟨u, us', rfl, hu, hus⟩ := Vals.cons_inv hr
    have hok' : ∀ p ∈ parts, okRef Lr p.2 = true := fun p hp => hok p (by simp [hp])
    have hokv : okRef Lr v = true := hok (i, v) (by simp)
    simp only [List.map_cons, List.zip_cons_cons, layV] at h ⊢
    cases hpi : pl i with
    | none => rw [hpi] at h; cases h
    | some p =>
    obtain ⟨off, size⟩ := p
    rw [hpi] at h
    dsimp only at h
    have hx := hc.1
    rw [ovs_len, List.length_map] at hx
    have one : ∀ {ds' : List D} {ks' : List Nat} {vs' : List V}, u.oneCell' = true → size = 1 → off + 1 ≤ ds.length →
        ovs ks' vs' (ds'.map .d) = (ovs ks vs (ds.map .d)).take off ++ [v] ++ (ovs ks vs (ds.map .d)).drop (off + [v].length) →
        layV pl (ds', ks', vs') parts = some st' → ∃ x', Instr.fill pl' x ((i, u) :: (parts.map (·.1)).zip us') = some x' ∧ CellsV c L w N (ovs st'.2.1 st'.2.2 (st'.1.map .d)) x' := by
      intro ds' ks' vs' ho hsz hle he hl
      subst hsz
      obtain ⟨o1, o2, o3⟩ := one_cells ho
      rw [fill_step (hp _ _ hpi) o2 (by omega), o1]
      refine layV_fill hs hp parts us' _ _ _ st' _ hl hok' hus ?_
      rw [he]
      exact hc.splice (vs := [v]) (ws := [u]) ⟨rfl, fun j v' u' hv' hu' => by
        cases j with
        | zero => simp at hv' hu'; subst hv'; subst hu'; exact hu
        | succ j => simp at hv'⟩ (by simpa using ho) (by rw [ovs_len]; simpa using hle)
    have other : (if size = 1 ∧ off + 1 ≤ ds.length ∧ v.one = true then layV pl (ds, off :: (ovOut off 1 ks vs).1, v :: (ovOut off 1 ks vs).2) parts else none) = some st' →
        ∃ x', Instr.fill pl' x ((i, u) :: (parts.map (·.1)).zip us') = some x' ∧ CellsV c L w N (ovs st'.2.1 st'.2.2 (st'.1.map .d)) x' := by
      intro h1
      split at h1
      · rename_i hc1
        obtain ⟨q1, q2, q3⟩ := hc1
        exact one (okRef_one hs hokv q3 hu) q1 q2 (ovs_put1 ds ks vs v off (by omega)) h1
      · cases h1
    cases v with
    | d z =>
      by_cases hagg : ∃ xs, z = .agg xs
      · obtain ⟨xs, rfl⟩ := hagg
        dsimp only at h
        split at h
        · rename_i hc1
          obtain ⟨q1, q2⟩ := hc1
          obtain ⟨ws, rfl, w1, _⟩ := hu.datAgg
          obtain ⟨r1, r2⟩ := reps_agg hu.dat
          rw [fill_step (hp _ _ hpi) (by simp only [Value.cells]; omega) (by omega)]
          refine layV_fill hs hp parts us' _ _ _ st' _ h hok' hus ?_
          have := ovs_put ds xs ks vs off (by omega)
          rw [q1] at this
          rw [this]
          refine hc.splice (vs := xs.map .d) (ws := ws.toList) ⟨by simpa using r1.1, fun j v' u' hv' hu' => ?_⟩ r2 (by rw [ovs_len]; simp; omega)
          rw [List.getElem?_map] at hv'
          cases hd : xs[j]? with
          | none => rw [hd] at hv'; cases hv'
          | some d => rw [hd] at hv'; simp at hv'; subst hv'; exact .d _ _ (r1.2 j d u' hd hu')
        · cases h
      · have h' : z.cell = true ∧ (if size = 1 ∧ off + 1 ≤ ds.length then layV pl (ds.set off z, ovOut off 1 ks vs) parts else none) = some st' := by
          cases z <;> first | exact ⟨rfl, h⟩ | cases h | exact absurd ⟨_, rfl⟩ hagg
        obtain ⟨hcell, h'⟩ := h'
        split at h'
        · rename_i hc1
          obtain ⟨q1, q2⟩ := hc1
          refine one (hu.dat.cell hcell) q1 q2 ?_ h'
          rw [set_splice (by omega)]
          have := ovs_put ds [z] ks vs off (by simp; omega)
          simp only [List.length_singleton, List.map_cons, List.map_nil] at this ⊢
          exact this
        · cases h'
    | agg xs ks' vs' =>
      dsimp only at h
      split at h
      · rename_i hc1
        obtain ⟨q1, q2, q3⟩ := hc1
        subst q1
        obtain ⟨w1, w2, w3⟩ := okOv_spec q3
        cases hu with
        | agg _ _ _ ws a1 a2 a3 =>
        rw [fill_step (hp _ _ hpi) (by simpa [Value.cells] using a1) (by omega)]
        refine layV_fill hs hp parts us' _ _ _ st' _ h hok' hus ?_
        rw [ovs_put2 ds xs ks ks' vs vs' off q2 w2 w3]
        refine hc.splice (vs := ovs ks' vs' (xs.map .d)) (ws := ws.toList) ⟨by rw [ovs_len]; simpa using a1, fun j v' u' hv' hu' => a2 j v' u' hv' (by simpa using hu')⟩ (fun u' hu' => ?_) (by rw [ovs_len, ovs_len]; simpa using q2)
        obtain ⟨j, hj, rfl⟩ := List.mem_iff_getElem.1 hu'
        exact a3 j _ (by simp at hj ⊢)
      · cases h
    | _ => exact other h

theorem abuild_ok {P : Program} (hm : Mem c N w0 O0 L w) (hs : Sees Lr L) {t : TypeId} {parts : List (Nat × V)} {us : List Value} {o : V} (ha : abuild P Lr t parts = some o)
    (hv : Vals c L w N (parts.map (·.2)) us) :
    ∃ u, (Instr.build t ((parts.map (·.1)).zip us).toArray).run P w = .ok u w ∧ Val c L w N o u := by
  unfold abuild at ha
  split at ha
  rotate_left
  · cases ha
  rename_i zs pl hz hpl
  obtain ⟨i, zv, z1, z2, z3⟩ := ty_zero hz
  obtain ⟨v1, v2, v3⟩ := valD_cells z3
  have hzero : ∀ w, (zeroValue t).run P w = .ok zv w := fun w => by simp [zeroValue, typeInfo, z1, z2]
  have hcr : CellsRep w (own c L) N c.γ zs zv.cells := by
    have hr := v3 w (own c L) N c.γ
    refine ⟨by simpa [D.width] using v1, fun k d u hd hu => ⟨?_, v2 rfl k u hu⟩⟩
    cases hzv : zv with
    | agg vs =>
      rw [hzv] at hr hu
      cases hr with
      | agg _ _ q1 q2 q3 => exact q2 k d u hd hu
    | _ => rw [hzv] at hr; cases hr
  -- what the parts come to
  have hfill : ∀ pl' : Nat → Option (Nat × Nat), (∀ i p, pl i = some p → pl' i = some p) → ∃ x', Instr.fill pl' zv.cells ((parts.map (·.1)).zip us) = some x' ∧ Val c L w N o (.agg x') := by
    intro pl' hp
    split at ha
    · rename_i ds hdat
      cases hl : lay pl zs ((parts.map (·.1)).zip ds) with
      | none => rw [hl] at ha; cases ha
      | some cs =>
      rw [hl] at ha
      injection ha with ha; subst ha
      have hmap := dat_map hdat
      rw [hmap] at hv
      have hr : Reps w (own c L) N c.γ ds us := ⟨by simpa using hv.1, fun j d u hd hu => (hv.2 j (.d d) u (by simp [hd]) hu).dat⟩
      obtain ⟨x', f1, f2⟩ := lay_fill hp _ _ us _ _ zv.cells hl hr hcr
      refine ⟨x', f1, .d _ _ (.agg _ _ f2.1 (fun i d v hd hv => (f2.2 i d v hd hv).1) fun i v hv => ?_)⟩
      have hi : i < cs.length := by have := lt_of_cell hv; have := f2.1; omega
      exact (f2.2 i _ v (List.getElem?_eq_getElem hi) hv).2
    · split at ha
      rotate_left
      · cases ha
      rename_i hall
      cases hl : layV pl (zs, [], []) parts with
      | none => rw [hl] at ha; cases ha
      | some st' =>
      rw [hl] at ha
      injection ha with ha; subst ha
      obtain ⟨x', f1, f2⟩ := layV_fill (c := c) (w := w) (N := N) hs hp parts us zs [] [] st' zv.cells hl (fun p hp => by rw [List.all_eq_true] at hall; exact hall p hp) hv ⟨by rw [ovs_len]; simpa using hcr.1, fun j v u hv hu => by
        rw [ovs_nil, List.getElem?_map] at hv
        cases hd : zs[j]? with
        | none => rw [hd] at hv; cases hv
        | some d =>
          rw [hd] at hv; simp at hv; subst hv
          exact ⟨.d _ _ (hcr.2 j d u hd hu).1, (hcr.2 j d u hd hu).2⟩⟩
      have hlen := f2.1
      rw [ovs_len, List.length_map] at hlen
      refine ⟨x', f1, Val.mk hlen (fun i v u hv hu => (f2.2 i v u hv hu).1) fun i u hu => ?_⟩
      have hi := lt_of_cell hu
      exact (f2.2 i ((ovs st'.2.1 st'.2.2 (st'.1.map .d))[i]'(by rw [ovs_len, List.length_map]; omega)) u (List.getElem?_eq_getElem _) hu).2
  unfold placesOf at hpl
  split at hpl
  · rename_i fs hu
    split at hpl
    · rename_i hall
      injection hpl with hpl; subst hpl
      have hsz : ∀ f ∈ fs.toList, ∃ n, tySize P f.type = some n := by
        intro f hf
        obtain ⟨k, hk, rfl⟩ := List.mem_iff_getElem.1 hf
        rw [List.all_eq_true] at hall
        have := hall k (by simp at hk ⊢; exact hk)
        obtain ⟨⟨off, n⟩, hn⟩ := Option.isSome_iff_exists.1 this
        obtain ⟨fs', x, h1, h2, _, h4⟩ := ty_fld hn
        rw [hu] at h1; cases h1
        refine ⟨n, ?_⟩
        have : fs[k]? = some (fs.toList[k]) := by simp
        rw [this] at h2; cases h2; exact h4
      let g : Field → Nat × Nat := fun f => (f.offset, (tySize P f.type).getD 0)
      have hmap : (fs.mapM fun (f : Field) => do pure (f.offset, ← Go.sizeOf f.type) : Sem (Array (Nat × Nat))).run P w = .ok (fs.toList.map g).toArray w := by
        rw [Array.mapM_eq_mapM_toList]
        have := mapM_run (P := P) (w := w) (f := fun (f : Field) => (do pure (f.offset, ← Go.sizeOf f.type) : Sem (Nat × Nat))) (g := g) fs.toList (by
          intro f hf
          obtain ⟨n, hn⟩ := hsz f hf
          simp [ty_size hn, g, hn])
        rw [Sem.run_map, this]
        rfl
      obtain ⟨x', f1, f2⟩ := hfill (fun i => (fs.toList.map g).toArray[i]?) (by
        rintro k ⟨off, n⟩ hk
        obtain ⟨fs', x, h1, h2, rfl, h4⟩ := ty_fld hk
        rw [hu] at h1; cases h1
        simp [h2, g, h4])
      refine ⟨.agg x', ?_, f2⟩
      unfold Instr.build
      simp only [Sem.run_bind, hzero, Result.andThen_ok, ty_und hu]
      rw [hmap]
      simp only [Result.andThen_ok]
      rw [f1]
      rfl
    · cases hpl
  · rename_i n e hu
    cases hsz : tySize P e with
    | none => rw [hsz] at hpl; cases hpl
    | some sz =>
      rw [hsz] at hpl
      injection hpl with hpl; subst hpl
      obtain ⟨x', f1, f2⟩ := hfill (fun i => some (i * sz, sz)) (fun _ _ h => h)
      refine ⟨.agg x', ?_, f2⟩
      unfold Instr.build
      simp only [Sem.run_bind, hzero, Result.andThen_ok, ty_und hu, ty_size hsz]
      rw [f1]
      rfl
  · cases hpl

end
end Wf

/-
  Keys that are pairs.
-/
namespace Wf
open Go

theorem ty_map {P : Program} {t : TypeId} {k : MK} {et : TypeId} (h : tyMap P t = some (k, et)) : ∃ kt, P.underlying t = some (.map kt et) ∧ tyKey P kt = some k := by
  unfold tyMap at h
  split at h
  · rename_i kt et' hu
    cases hk : tyKey P kt with
    | none => rw [hk] at h; cases h
    | some k' =>
      rw [hk] at h; simp at h; obtain ⟨rfl, rfl⟩ := h
      exact ⟨kt, hu, hk⟩
  · cases h
theorem findNow_spec {kk : IntKind} {n : Int} : ∀ (m : List MapEntry) (es : List (Int × D)) (i0 : Nat), m.length = es.length → (∀ (i : Nat) (e : MapEntry) (p : Int × D), m[i]? = some e → es[i]? = some p → e.key = .int kk p.1) →
    (∃ (j : Nat) (e : MapEntry) (x : D), Instr.findNow (.int kk) (.int kk n) m i0 = some (some (i0 + j, e.val)) ∧ m[j]? = some e ∧ es[j]? = some (n, x) ∧ findD n es = some x ∧ (∀ y, setD n y es = es.set j (n, y))) ∨
    (Instr.findNow (.int kk) (.int kk n) m i0 = some none ∧ findD n es = none ∧ ∀ y, setD n y es = es ++ [(n, y)])
  | [], [], _, _, _ => .inr ⟨rfl, rfl, fun _ => rfl⟩
  | [], _ :: _, _, h, _ => by simp at h
  | _ :: _, [], _, h, _ => by simp at h
  | e :: m, (a, x) :: es, i0, h, hk => by
    have hk0 := hk 0 e (a, x) (by simp) (by simp)
    by_cases hn : n = a
    · subst hn
      refine .inl ⟨0, e, x, ?_, by simp, by simp, by simp [findD], fun y => by simp [setD]⟩
      simp [Instr.findNow, hk0, Instr.sameNow]
    · have hne : (n == a) = false := by simpa using hn
      rcases findNow_spec m es (i0 + 1) (by simpa using h) (fun i e' p h1 h2 => hk (i + 1) e' p (by simpa using h1) (by simpa using h2)) with ⟨j, e', x', h1, h2, h3, h4, h5⟩ | ⟨h1, h2, h3⟩
      · refine .inl ⟨j + 1, e', x', ?_, by simpa using h2, by simpa using h3, by simp [findD, hn, h4], fun y => by simp [setD, hn, h5 y]⟩
        simp only [Instr.findNow, hk0, Instr.sameNow, if_true, hne]
        rw [h1]; congr 3; omega
      · refine .inr ⟨?_, by simp [findD, hn, h2], fun y => by simp [setD, hn, h3 y]⟩
        simp only [Instr.findNow, hk0, Instr.sameNow, if_true, hne]
        exact h1

theorem checkKey_int {w : World} {P : Program} {kt : TypeId} {k : IntKind} (e : Bool) (f : Nat) (n : Int) (h : P.underlying kt = some (.int k)) : (Instr.checkKey e (f + 1) kt (.int k n)).run P w = .ok () w := by
  simp [Instr.checkKey, ty_und h]

theorem part_pair {P : Program} {e : TypeId} {w : World} (h2 : P.underlying e = some (.int .i64)) (a b : Int) :
    (part e #[.int .i64 a, .int .i64 b] 0).run P w = .ok (.int .i64 a) w ∧ (part e #[.int .i64 a, .int .i64 b] 1).run P w = .ok (.int .i64 b) w := by
  have : (isAgg e).run P w = .ok false w := by unfold isAgg; simp [ty_und h2]
  constructor <;> simp [part, this]
theorem checkKey_pair {P : Program} {kt e : TypeId} {w : World} (h1 : P.underlying kt = some (.array 2 e)) (h2 : P.underlying e = some (.int .i64)) (h3 : tySize P e = some 1) (em : Bool) (f : Nat) (a b : Int) :
    (Instr.checkKey em (f + 2) kt (pairV a b)).run P w = .ok () w := by
  obtain ⟨p0, p1⟩ := part_pair (P := P) (w := w) h2 a b
  have hs := ty_size h3 w
  simp [Instr.checkKey, ty_und h1, ty_und h2, pairV, Std.Legacy.Range.forIn_eq_forIn_range', List.range', hs, p0, p1]
theorem equalIn_int {P : Program} {e : TypeId} {w : World} (h2 : P.underlying e = some (.int .i64)) (f : Nat) (x y : Int) : (Op.equalIn (f + 1) e (.int .i64 x) (.int .i64 y)).run P w = .ok (x == y) w := by
  simp [Op.equalIn, ty_und h2]
theorem equalIn_pair {P : Program} {kt e : TypeId} {w : World} (h1 : P.underlying kt = some (.array 2 e)) (h2 : P.underlying e = some (.int .i64)) (h3 : tySize P e = some 1) (f : Nat) (a b c d : Int) :
    (Op.equalIn (f + 1 + 1) kt (pairV a b) (pairV c d)).run P w = .ok (decide (a = c ∧ b = d)) w := by
  have p0 := fun a b => (part_pair (P := P) (w := w) h2 a b).1
  have p1 := fun a b => (part_pair (P := P) (w := w) h2 a b).2
  have hs := ty_size h3 w
  have he := fun x y => equalIn_int (w := w) h2 f x y
  unfold Op.equalIn
  by_cases e1 : a = c <;> by_cases e2 : b = d <;> simp [ty_und h1, pairV, Std.Legacy.Range.forIn_eq_forIn_range', List.range', hs, p0, p1, he, e1, e2]
theorem equal_pair {P : Program} {kt e : TypeId} {w : World} (h1 : P.underlying kt = some (.array 2 e)) (h2 : P.underlying e = some (.int .i64)) (h3 : tySize P e = some 1) (a b c d : Int) :
    (Op.equal kt (pairV a b) (pairV c d)).run P w = .ok (decide (a = c ∧ b = d)) w := equalIn_pair h1 h2 h3 9998 a b c d
theorem findAsking_spec {P : Program} {kt e : TypeId} {w : World} (h1 : P.underlying kt = some (.array 2 e)) (h2 : P.underlying e = some (.int .i64)) (h3 : tySize P e = some 1) (a b : Int) : ∀ (m : List MapEntry) (es : List (Int × D)) (i0 : Nat), m.length = es.length →
    (∀ (i : Nat) (e : MapEntry) (p : Int × D), m[i]? = some e → es[i]? = some p → ∃ x y, p.1 = pairKey x y ∧ e.key = pairV x y) →
    (∃ (j : Nat) (e : MapEntry) (x : D), (Instr.findAsking kt (pairV a b) m i0).run P w = .ok (some (i0 + j, e.val)) w ∧ m[j]? = some e ∧ es[j]? = some (pairKey a b, x) ∧ findD (pairKey a b) es = some x ∧ (∀ y, setD (pairKey a b) y es = es.set j (pairKey a b, y))) ∨
    ((Instr.findAsking kt (pairV a b) m i0).run P w = .ok none w ∧ findD (pairKey a b) es = none ∧ ∀ y, setD (pairKey a b) y es = es ++ [(pairKey a b, y)])
  | [], [], _, _, _ => .inr ⟨rfl, rfl, fun _ => rfl⟩
  | [], _ :: _, _, h, _ => by simp at h
  | _ :: _, [], _, h, _ => by simp at h
  | en :: m, (k, x) :: es, i0, h, hk => by
    obtain ⟨c, d, k1, k2⟩ := hk 0 en (k, x) (by simp) (by simp)
    simp only at k1; subst k1
    have heq := equal_pair (w := w) h1 h2 h3 a b c d
    by_cases hn : a = c ∧ b = d
    · obtain ⟨rfl, rfl⟩ := hn
      refine .inl ⟨0, en, x, ?_, by simp, by simp, by simp [findD], fun y => by simp [setD]⟩
      simp [Instr.findAsking, k2, heq]
    · have hne : ¬ pairKey a b = pairKey c d := fun e => hn ((pairKey_inj ..).1 e)
      rcases findAsking_spec h1 h2 h3 a b m es (i0 + 1) (by simpa using h) (fun i e' p h1 h2 => hk (i + 1) e' p (by simpa using h1) (by simpa using h2)) with ⟨j, e', x', h1, h2, h3, h4, h5⟩ | ⟨h1, h2, h3⟩
      · refine .inl ⟨j + 1, e', x', ?_, by simpa using h2, by simpa using h3, by simp [findD, hne, h4], fun y => by simp [setD, hne, h5 y]⟩
        simp only [Instr.findAsking, k2, Sem.run_bind, heq, Result.andThen_ok, hn, decide_false, Bool.false_eq_true, if_false]
        rw [h1]; congr 3; omega
      · refine .inr ⟨?_, by simp [findD, hne, h2], fun y => by simp [setD, hne, h3 y]⟩
        simp only [Instr.findAsking, k2, Sem.run_bind, heq, Result.andThen_ok, hn, decide_false, Bool.false_eq_true, if_false]
        exact h1
theorem tyInt_und {P : Program} {t : TypeId} {k : IntKind} (h : tyInt P t = some k) : P.underlying t = some (.int k) := by
  unfold tyInt at h
  split at h
  · rename_i k' hk
    injection h with h; subst h; exact hk
  · cases h
theorem check_key {P : Program} {kt : TypeId} {mk : MK} (h : tyKey P kt = some mk) {n : Int} {ku : Value} (hk : KeyIs mk n ku) (em : Bool) (w : World) : (Instr.checkKey em 10000 kt ku).run P w = .ok () w := by
  unfold tyKey at h
  split at h
  · rename_i k hu
    injection h with h; subst h
    cases hk
    exact checkKey_int em 9999 n hu
  · rename_i m e hu
    split at h
    · rename_i hc
      injection h with h; subst h
      obtain ⟨a, b, _, rfl⟩ := hk
      obtain ⟨rfl, h2, h3⟩ := hc
      exact checkKey_pair hu (tyInt_und h2) h3 em 9998 a b
    · cases h
  · cases h
theorem find_key {P : Program} {kt : TypeId} {mk : MK} (h : tyKey P kt = some mk) {n : Int} {ku : Value} (hk : KeyIs mk n ku) (w : World) (m : List MapEntry) (es : List (Int × D)) (hlen : m.length = es.length)
    (hes : ∀ (i : Nat) (e : MapEntry) (p : Int × D), m[i]? = some e → es[i]? = some p → KeyIs mk p.1 e.key) :
    (∃ (j : Nat) (e : MapEntry) (x : D), (Instr.findKey kt ku m).run P w = .ok (some (j, e.val)) w ∧ m[j]? = some e ∧ es[j]? = some (n, x) ∧ findD n es = some x ∧ (∀ y, setD n y es = es.set j (n, y))) ∨
    ((Instr.findKey kt ku m).run P w = .ok none w ∧ findD n es = none ∧ ∀ y, setD n y es = es ++ [(n, y)]) := by
  unfold tyKey at h
  split at h
  · rename_i k hu
    injection h with h; subst h
    cases hk
    rcases findNow_spec (n := n) m es 0 hlen hes with ⟨j, e, x, f1, f2, f3, f4, f5⟩ | ⟨f1, f2, f3⟩
    · exact .inl ⟨j, e, x, by simp [Instr.findKey, ty_und hu, f1], f2, f3, f4, f5⟩
    · exact .inr ⟨by simp [Instr.findKey, ty_und hu, f1], f2, f3⟩
  · rename_i q e hu
    split at h
    · rename_i hc
      injection h with h; subst h
      obtain ⟨a, b, rfl, rfl⟩ := hk
      obtain ⟨rfl, h2, h3⟩ := hc
      have hn : Instr.findNow (.array 2 e) (pairV a b) m 0 = none ∨ m = [] := by
        cases m with
        | nil => exact .inr rfl
        | cons x m => exact .inl (by simp [Instr.findNow, Instr.sameNow])
      rcases hn with hn | rfl
      · rcases findAsking_spec (w := w) hu (tyInt_und h2) h3 a b m es 0 hlen hes with ⟨j, e, x, f1, f2, f3, f4, f5⟩ | ⟨f1, f2, f3⟩
        · exact .inl ⟨j, e, x, by simpa [Instr.findKey, ty_und hu, hn] using f1, f2, f3, f4, f5⟩
        · exact .inr ⟨by simpa [Instr.findKey, ty_und hu, hn] using f1, f2, f3⟩
      · have : es = [] := by cases es with
          | nil => rfl
          | cons _ _ => simp at hlen
        subst this
        exact .inr ⟨by simp [Instr.findKey, ty_und hu, Instr.findNow], rfl, fun _ => rfl⟩
    · cases h
  · cases h
theorem keyOf_is {c : Ctx} {N : Nat} {L : Loc} {w : World} {mk : MK} {k : V} {n : Int} {ku : Value} (h : keyOf mk k = some n) (hk : Val c L w N k ku) : KeyIs mk n ku := by
  unfold keyOf at h
  split at h
  · split at h
    · rename_i e; subst e; injection h with h; subst h; exact hk.int
    · cases h
  · injection h with h; subst h
    have := hk.dat
    cases this with
    | agg _ vs h1 h2 =>
      refine ⟨_, _, rfl, ?_⟩
      obtain ⟨v0, e0⟩ : ∃ v, vs[0]? = some v := ⟨vs[0]'(by rw [h1]; simp), by simp⟩
      obtain ⟨v1, e1⟩ : ∃ v, vs[1]? = some v := ⟨vs[1]'(by rw [h1]; simp), by simp⟩
      have r0 := h2 0 _ _ rfl e0
      have r1 := h2 1 _ _ rfl e1
      cases r0; cases r1
      unfold pairV
      congr 1
      apply Array.ext_getElem?
      intro i
      match i with
      | 0 => simpa using e0
      | 1 => simpa using e1
      | i + 2 => rw [Array.getElem?_eq_none (by rw [h1]; simp)]; simp
  · cases h
theorem same_bits {mk : MK} {n : Int} {u v : Value} (h : KeyIs mk n u) (h' : KeyIs mk n v) : Instr.sameBits 10000 v u = true := by
  cases mk with
  | int k => cases h; cases h'; simp [Instr.sameBits]
  | pair =>
    obtain ⟨a, b, e, rfl⟩ := h
    obtain ⟨c, d, e', rfl⟩ := h'
    rw [e] at e'
    obtain ⟨rfl, rfl⟩ := (pairKey_inj ..).1 e'
    simp [Instr.sameBits, pairV]
end Wf

/-
  What operations do: boxes, maps.
-/
namespace Wf
open Go Go.RowKit

section
variable {c : Ctx} {N : Nat} {w0 : World} {O0 : Nat → Prop} {L Lr : Loc} {w : World}

theorem heap_new (w : World) (o : Obj) : (w.alloc o).heap[w.heap.size]? = some o := by
  show (w.heap.push o)[w.heap.size]? = _
  simp

theorem upd_not {wr : Wr} : ∀ {L : Loc} {g : Nat}, g ∉ wr.map (·.1) → L.upd wr g = L g := by
  induction wr with
  | nil => intro L g _; rfl
  | cons p wr ih =>
    intro L g h
    simp at h
    simp only [Loc.upd]
    rw [ih (by simpa using h.2), Loc.set_ne _ _ h.1]

theorem new_cells (hm : Mem c N w0 O0 L w) {t : Nat} (ht0 : t < 100000) {z : HObj} {us : List V} (hz : z.cellsV = some us) {x : Array Value} {T : TypeId} (hx : CellsV c L w N us x) :
    Did c N w0 O0 L w { v := .ptr t (L.new t) 0, wr := [(t, (L.new t, z))] } (.pointer (some ⟨w.heap.size, 0, none⟩)) (w.alloc (.cells x T)) := by
  have ht : (L t).1 < L.new t := by simp [Loc.new]
  have hg := Grow.alloc hm (.cells x T) t (L.new t) z ht0 ht
  refine ⟨c.at t (some w.heap.size), Mem.alloc hm (.cells x T) t (L.new t) z ht0 ht ?_, hg, ?_⟩
  · exact (ObjOk.cellsV hz).2 ⟨w.heap.size, x, T, (0, 0), rfl, heap_new w _, fun i _ => World.frozen?_alloc_new w x T i, hx.1, fun i d u hd hu => ⟨((hx.2 i d u hd hu).1).grow hg, (hx.2 i d u hd hu).2⟩⟩
  · exact .ptr _ _ _ _ (by simp [Loc.upd, Loc.set_same]) fun _ => ⟨w.heap.size, by simp [Ctx.at], rfl⟩

theorem CellsRep.cellsV {ds : List D} {x : Array Value} (h : CellsRep w (own c L) N c.γ ds x) : CellsV c L w N (ds.map .d) x :=
  ⟨by simpa using h.1, fun i v u hv hu => by
    rw [List.getElem?_map] at hv
    cases hd : ds[i]? with
    | none => rw [hd] at hv; cases hv
    | some d => rw [hd] at hv; simp at hv; subst hv; exact ⟨.d _ _ (h.2 i d u hd hu).1, (h.2 i d u hd hu).2⟩⟩

theorem new_box (hm : Mem c N w0 O0 L w) {t : Nat} (ht0 : t < 100000) {a : Bool} {ds : List D} {x : Array Value} {T : TypeId} (hx : CellsRep w (own c L) N c.γ ds x) :
    Did c N w0 O0 L w { v := .ptr t (L.new t) 0, wr := [(t, (L.new t, .box a ds))] } (.pointer (some ⟨w.heap.size, 0, none⟩)) (w.alloc (.cells x T)) :=
  new_cells hm ht0 rfl hx.cellsV

theorem new_vbox (hm : Mem c N w0 O0 L w) {t : Nat} (ht0 : t < 100000) {a : Bool} {ds : List D} {ks : List Nat} {vs : List V} {x : Array Value} {T : TypeId} (hx : CellsV c L w N (ovs ks vs (ds.map .d)) x) :
    Did c N w0 O0 L w { v := .ptr t (L.new t) 0, wr := [(t, (L.new t, .vbox a ds ks vs))] } (.pointer (some ⟨w.heap.size, 0, none⟩)) (w.alloc (.cells x T)) :=
  new_cells hm ht0 rfl hx

theorem new_map (hm : Mem c N w0 O0 L w) {t : Nat} (ht0 : t < 100000) {k : MK} :
    Did c N w0 O0 L w { v := .map t (L.new t), wr := [(t, (L.new t, .map k []))] } (.map (some w.heap.size)) (w.alloc (.map #[] 0)) := by
  have ht : (L t).1 < L.new t := by simp [Loc.new]
  have hg := Grow.alloc hm (.map #[] 0) t (L.new t) (.map k []) ht0 ht
  refine ⟨c.at t (some w.heap.size), Mem.alloc hm (.map #[] 0) t (L.new t) (.map k []) ht0 ht ?_, hg, ?_⟩
  · exact ⟨w.heap.size, #[], 0, rfl, heap_new w _, rfl, by simp⟩
  · exact .map _ _ _ (by simp [Loc.upd, Loc.set_same]) fun _ => ⟨w.heap.size, by simp [Ctx.at], rfl⟩

/-- A map of a table, and what it is in memory. -/
theorem Mem.mapAt (hm : Mem c N w0 O0 L w) {k n i o : Nat} {kk : MK} {es : List (Int × D)} (hr : mapOf L k n i o = some (kk, es)) :
    ∃ (wr : Bool) (T : Tb) (cs : List D) (b : Nat) (me : Array MapEntry) (ck : Nat), tabOf L k = some (wr, T) ∧ (L (tb k)).1 = n ∧ T[i]? = some cs ∧ cs[o]? = some (.mp .own kk es) ∧ c.ρ k i o = some b ∧ w.heap[b]? = some (.map me ck) ∧ me.size = es.length ∧
      ∀ (i : Nat) (e : MapEntry) (p : Int × D), me[i]? = some e → es[i]? = some p → KeyIs kk p.1 e.key ∧ p.2.flatEl = true ∧ Rep w (fun _ => False) 0 c.γ p.2 e.val := by
  obtain ⟨wr, T, t1, t2, t3, t4⟩ := mapOf_spec hr
  obtain ⟨cs, c1, c2⟩ := cellT_spec t4
  obtain ⟨b', x, ty, fz, q1, q2, q3, q4, q5⟩ := hm.tab.obj k wr T i cs t3 c1
  obtain ⟨y, hy⟩ := get_some_of_size q4 c2
  have hc := (q5 o _ y c2 hy).2
  generalize c.ρ k i o = β at hc ⊢
  cases hc with
  | flat _ _ h => simp [D.flat] at h
  | mp kk' es' b2 m2 k2 g1 g2 g3 g4 => exact ⟨wr, T, cs, b2, m2, k2, t3, t2, c1, c2, g1, g2, g3, g4⟩

/-- The entries of a map, in memory. -/
theorem es_ok (hm : Mem c N w0 O0 L w) (hs : Sees Lr L) {v : V} {u : Value} {kk : MK} {es : List (Int × D)} (he : esOf Lr v = some (kk, es)) (hv : Val c L w N v u) :
    ∃ b me ck, u = .map (some b) ∧ w.heap[b]? = some (.map me ck) ∧ me.size = es.length ∧ ∀ (i : Nat) (e : MapEntry) (p : Int × D), me[i]? = some e → es[i]? = some p → KeyIs kk p.1 e.key ∧ Rep w (own c L) N c.γ p.2 e.val := by
  have he := hs.es he
  cases v with
  | d y =>
    cases y with
    | mp t k' es' =>
      simp [esOf] at he
      obtain ⟨rfl, rfl⟩ := he
      have hr := hv.dat
      cases hr with
      | mp _ _ _ b m ck g1 g2 g3 g4 g5 g6 g7 => exact ⟨b, m, ck, rfl, g4, g5, fun i e p a b => ⟨g6 i e p a b, g7 i e p a b⟩⟩
    | _ => cases he
  | map g n =>
    simp only [esOf] at he
    cases hx : L.get g n <;> rw [hx] at he <;> simp at he
    obtain ⟨rfl, rfl⟩ := he
    obtain ⟨b, m, ck, h1, h2, h3, h4⟩ := hm.get hx (by simp)
    cases hv with
    | map _ _ _ k1 k2 =>
      obtain ⟨b', e1, rfl⟩ := k2 (by rw [hx]; simp)
      rw [h1] at e1; cases e1
      exact ⟨b, m, ck, rfl, h2, h3, h4⟩
  | vmap k n i o =>
    simp only [esOf] at he
    obtain ⟨wr, T, cs, b, me, ck, t1, t2, t3, t4, t5, t6, t7, t8⟩ := hm.mapAt he
    cases hv with
    | vmap _ _ _ _ _ k1 k2 =>
      obtain ⟨b', e1, rfl⟩ := k2 _ he
      rw [t5] at e1; cases e1
      exact ⟨b, me, ck, rfl, t6, t7, fun i e p a b => ⟨(t8 i e p a b).1, (t8 i e p a b).2.2.flEl (t8 i e p a b).2.1 fun _ _ _ h => h⟩⟩
  | _ => cases he

theorem alookup_ok {P : Program} (hm : Mem c N w0 O0 L w) (hs : Sees Lr L) {t : TypeId} {m k v : V} {mu ku : Value} {ok : Bool} (ha : alookup P Lr t m k ok = some v) (hv : Val c L w N m mu) (hk : Val c L w N k ku) :
    ∃ u, (Instr.lookup t mu ku ok).run P w = .ok u w ∧ Val c L w N v u := by
  unfold alookup at ha
  split at ha
  rotate_left
  · cases ha
  rename_i kk et mk es hty hes
  split at ha
  rotate_left
  · cases ha
  rename_i z n hz hko
  split at ha
  rotate_left
  · cases ha
  rename_i hc
  subst hc
  have hkey := keyOf_is hko hk
  obtain ⟨b, me, ck, rfl, h2, h3, h4⟩ := es_ok hm hs hes hv
  obtain ⟨kt, t1, t2⟩ := ty_map hty
  obtain ⟨i, zv, z1, z2, z3⟩ := ty_zero hz
  have hzero : ∀ w, (zeroValue et).run P w = .ok zv w := fun w => by simp [zeroValue, typeInfo, z1, z2]
  have hget : (getObj b).run P w = .ok (.map me ck) w := by simp [getObj, Sem.run, h2]
  have hf := find_key t2 hkey w me.toList es (by simpa using h3) (fun i e p a b => (h4 i e p (by simpa using a) b).1)
  rcases hf with ⟨j, e, x, f1, f2, f3, f4, f5⟩ | ⟨f1, f2, f3⟩
  · rw [f4] at ha
    injection ha with ha; subst ha
    have hr := (h4 j e _ (by simpa using f2) f3).2
    have hrun : (Instr.lookup t (.map (some b)) ku ok).run P w = .ok (if ok then .tuple #[e.val, .bool true] else e.val) w := by
      simp [Instr.lookup, ty_und t1, hget, check_key t2 hkey, f1]
    refine ⟨_, hrun, ?_⟩
    cases ok with
    | true =>
      refine .d _ _ (.tup _ _ rfl fun i d v hd hv => ?_)
      match i with
      | 0 => simp at hd hv; subst hd; subst hv; exact hr
      | 1 => simp at hd hv; subst hd; subst hv; exact .bool _
      | i + 2 => simp at hd
    | false => exact .d _ _ hr
  · rw [f2] at ha
    injection ha with ha; subst ha
    have hr := (valD_cells z3).2.2 w (own c L) N c.γ
    have hrun : (Instr.lookup t (.map (some b)) ku ok).run P w = .ok (if ok then .tuple #[zv, .bool false] else zv) w := by
      simp [Instr.lookup, ty_und t1, hget, check_key t2 hkey, f1, hzero]
    refine ⟨_, hrun, ?_⟩
    cases ok with
    | true =>
      refine .d _ _ (.tup _ _ rfl fun i d v hd hv => ?_)
      match i with
      | 0 => simp at hd hv; subst hd; subst hv; exact hr
      | 1 => simp at hd hv; subst hd; subst hv; exact .bool _
      | i + 2 => simp at hd
    | false => exact .d _ _ hr

/-- The block of a map, written. -/
theorem map_put {P : Program} {t kt et : TypeId} {mk : MK} {n : Int} {ku vu : Value} {es : List (Int × D)} {me : Array MapEntry} {ck b : Nat} {R : D → Value → Prop} (t1 : P.underlying t = some (.map kt et)) (t2 : tyKey P kt = some mk) (hkey : KeyIs mk n ku)
    (h2 : w.heap[b]? = some (.map me ck)) (h3 : me.size = es.length) (h4 : ∀ (i : Nat) (e : MapEntry) (p : Int × D), me[i]? = some e → es[i]? = some p → KeyIs mk p.1 e.key ∧ R p.2 e.val) {x : D} (hx : R x vu) :
    ∃ m' k', (Instr.mapUpdate t (.map (some b)) ku vu).run P w = .ok () { w with heap := w.heap.setIfInBounds b (.map m' k') } ∧ m'.size = (setD n x es).length ∧
      ∀ (i : Nat) (e : MapEntry) (p : Int × D), m'[i]? = some e → (setD n x es)[i]? = some p → KeyIs mk p.1 e.key ∧ R p.2 e.val := by
  have hget : (getObj b).run P w = .ok (.map me ck) w := by simp [getObj, Sem.run, h2]
  have hset : ∀ (m' : Array MapEntry) (k' : Nat), (setObj b (.map m' k')).run P w = .ok () { w with heap := w.heap.setIfInBounds b (.map m' k') } := fun m' k' => by simp [setObj, Sem.run, h2]
  have hf := find_key t2 hkey w me.toList es (by simpa using h3) (fun i e p a b => (h4 i e p (by simpa using a) b).1)
  have hchk := check_key t2 hkey false w
  rcases hf with ⟨j, e, x', f1, f2, f3, f4, f5⟩ | ⟨f1, f2, f3⟩
  · have he : me[j]? = some e := by simpa using f2
    have hsame : Instr.sameBits 10000 e.key ku = true := same_bits hkey (h4 j e _ he f3).1
    refine ⟨me.modify j fun e => { e with key := ku, val := vu }, ck, ?_, by rw [f5]; simpa using h3, ?_⟩
    · simp [Instr.mapUpdate, ty_und t1, hget, hchk, f1, Instr.keyThatStays, he, hsame, hset]
    · intro i e' p he' hp
      rw [f5, List.getElem?_set] at hp
      rw [Array.getElem?_modify] at he'
      by_cases hij : j = i
      · subst hij
        have hlt : j < es.length := lt_of_get f3
        simp [hlt] at hp; subst hp
        rw [if_pos rfl, he] at he'
        simp at he'; subst he'
        exact ⟨hkey, hx⟩
      · rw [if_neg hij] at hp he'
        exact h4 i e' p he' hp
  · refine ⟨me.push { key := ku, val := vu, born := ck }, ck + 1, ?_, by rw [f3]; simp [h3], ?_⟩
    · simp [Instr.mapUpdate, ty_und t1, hget, hchk, f1, hset]
    · intro i e' p he' hp
      rw [f3] at hp
      rw [Array.getElem?_push] at he'
      by_cases hi : i = me.size
      · subst hi
        rw [if_pos rfl] at he'
        rw [List.getElem?_append_right (by omega), h3, Nat.sub_self] at hp
        simp at he' hp; subst he'; subst hp
        exact ⟨hkey, hx⟩
      · rw [if_neg hi] at he'
        have hlt : i < es.length := by
          rcases Nat.lt_or_ge i me.size with h | h
          · omega
          · rw [Array.getElem?_eq_none h] at he'; cases he'
        rw [List.getElem?_append_left hlt] at hp
        exact h4 i e' p he' hp

theorem amapUpdate_ok {P : Program} (hm : Mem c N w0 O0 L w) (hs : Sees Lr L) {t : TypeId} {m k v : V} {mu ku vu : Value} {o : Out} (ha : amapUpdate P Lr t m k v = some o) (hv : Val c L w N m mu) (hk : Val c L w N k ku) (hx : Val c L w N v vu) :
    ∃ w', (Instr.mapUpdate t mu ku vu).run P w = .ok () w' ∧ Did c N w0 O0 L w o undef w' := by
  unfold amapUpdate at ha
  split at ha
  · rename_i kk et g l hty
    split at ha
    rotate_left
    · cases ha
    rename_i mk es x wr n hy htd hko
    split at ha
    rotate_left
    · cases ha
    rename_i hc
    obtain ⟨rfl, hgi⟩ := hc
    injection ha with ha; subst ha
    have hkey := keyOf_is hko hk
    have hL := hs g l (by rw [hy]; simp)
    rw [hy] at hL
    obtain ⟨m1, m2, m3⟩ := toD_ok hm hs htd hx
    have hLg : (L.upd wr) g = L g := upd_not hgi
    have hL2 : (L.upd wr).get g l = .map mk es := by unfold Loc.get; rw [hLg]; exact hL
    obtain ⟨e1, e2⟩ := get_at hL2 (by simp)
    obtain ⟨b, me, ck, h1, h2, h3, h4⟩ := m1.get hL2 (by simp)
    obtain ⟨kt, t1, t2⟩ := ty_map hty
    cases hv with
    | map _ _ _ k1 k2 =>
    obtain ⟨b', e3, rfl⟩ := k2 (by rw [hL]; simp)
    rw [h1] at e3; cases e3
    have hb := lt_of_heap h2
    obtain ⟨m', k', hrun, hsz, hes⟩ := map_put t1 t2 hkey h2 h3 h4 m3
    refine ⟨_, hrun, ?_⟩
    have hw : ∀ k, k ≠ b → (({ w with heap := w.heap.setIfInBounds b (.map m' k') } : World)).heap[k]? = w.heap[k]? := fun k hk => by simp [Array.getElem?_setIfInBounds_ne (Ne.symm hk)]
    have hbb : (({ w with heap := w.heap.setIfInBounds b (.map m' k') } : World)).heap[b]? = some (.map m' k') := by simp [hb]
    have hz : ∀ y T' fz', w.heap[b]? = some (.cells y T' fz') → ∃ y' fz'', (({ w with heap := w.heap.setIfInBounds b (.map m' k') } : World)).heap[b]? = some (.cells y' T' fz'') ∧ y'.size = y.size := by
      intro y T' fz' hy; rw [h2] at hy; cases hy
    have hg := Grow.write m1 (x := .map mk (setD n x es)) h1 (by rw [e2]; rfl) (by rw [e2]; rfl) (by simp) hw hz
    have hmm := Mem.write m1 (x := .map mk (setD n x es)) h1 (by rw [e2]; simp) (by rw [e2]; rfl) (by rw [e2]; rfl) (by simp) hw hz rfl rfl rfl
      ⟨b, m', k', rfl, hbb, hsz, fun i e p he hp => ⟨(hes i e p he hp).1, ((hes i e p he hp).2).grow hg⟩⟩
    rw [e1] at hg hmm
    refine ⟨c, ?_, ?_, undef_val⟩
    · rw [Loc.upd_append]; exact hmm
    · rw [Loc.upd_append]; exact m2.trans hg
  · rename_i kk et q l i o hty
    split at ha
    rotate_left
    · cases ha
    rename_i x T mk es n hT hmo hko
    split at ha
    rotate_left
    · cases ha
    rename_i hc
    obtain ⟨rfl, hfl⟩ := hc
    injection ha with ha; subst ha
    have hkey := keyOf_is hko hk
    have hT' := (hs.tab hT).1
    have hmo' := hs.mapRow hmo
    obtain ⟨wr, T0, cs, b, me, ck, q1, q2, q3, q4, q5, h2, h3, h4⟩ := hm.mapAt hmo'
    rw [hT'] at q1; cases q1
    obtain ⟨kt, t1, t2⟩ := ty_map hty
    cases hv with
    | vmap _ _ _ _ _ k1 k2 =>
    obtain ⟨b', e3, rfl⟩ := k2 _ hmo'
    rw [q5] at e3; cases e3
    have hb := lt_of_heap h2
    obtain ⟨m', k', hrun, hsz, hes⟩ := map_put (R := fun d u => d.flatEl = true ∧ Rep w (fun _ => False) 0 c.γ d u) t1 t2 hkey h2 h3 h4 (x := x) ⟨hfl, hx.dat.flEl hfl fun _ _ _ h => h⟩
    refine ⟨_, hrun, ?_⟩
    have hw : ∀ k, k ≠ b → (({ w with heap := w.heap.setIfInBounds b (.map m' k') } : World)).heap[k]? = w.heap[k]? := fun k hk => by simp [Array.getElem?_setIfInBounds_ne (Ne.symm hk)]
    have hbb : (({ w with heap := w.heap.setIfInBounds b (.map m' k') } : World)).heap[b]? = some (.map m' k') := by simp [hb]
    have hth : There L q i (some o) := ⟨true, T, _, hT', by unfold cellT; rw [q3]; exact q4, rfl⟩
    have hO : c.O b := hm.tab.wr q T i (some o) b hT' hth q5
    have hil := lt_of_get q3
    have hol := lt_of_get q4
    have hset : setT T i o (.mp .own mk (setD n x es)) = T.set i (cs.set o (.mp .own mk (setD n x es))) := by unfold setT; rw [q3]
    have htab : TabRel (L.set (tb q) (l, .tbl true (T.set i (cs.set o (.mp .own mk (setD n x es)))))) c (fun b => b < N ∧ ¬ O0 b) { w with heap := w.heap.setIfInBounds b (.map m' k') } := by
      refine hm.tab.setRow hT' q3 q4 rfl rfl q5 hw fun u hu => ?_
      cases hu with
      | flat _ _ h => simp [D.flat] at h
      | mp kk' es' b2 m2 k2 g1 g2 g3 g4 =>
        cases g1
        exact .mp _ _ b m' k' rfl hbb hsz fun i e p he hp => ⟨(hes i e p he hp).1, (hes i e p he hp).2.1, (hes i e p he hp).2.2.flEl (hes i e p he hp).2.1 fun _ _ _ h => h⟩
    have hon : TbOn T (T.set i (cs.set o (.mp .own mk (setD n x es)))) := fun i' o' => by
      rw [cellT_set hil]
      by_cases ei : i' = i
      · subst ei
        rw [if_pos rfl, List.getElem?_set]
        have hcT : cellT T i' o' = cs[o']? := by unfold cellT; rw [q3]; rfl
        rw [hcT]
        by_cases eo : o = o'
        · subst eo
          rw [if_pos rfl, if_pos hol]
          refine ⟨fun l h => (by cases h), fun k es' h => ⟨es, ?_⟩⟩
          injection h with h; injection h with h1 h2; subst h2; exact q4
        · rw [if_neg eo]
          exact ⟨fun l h => ⟨l, h, rfl⟩, fun k es h => ⟨es, h⟩⟩
      · rw [if_neg ei]
        exact ⟨fun l h => ⟨l, h, rfl⟩, fun k es h => ⟨es, h⟩⟩
    obtain ⟨m1, m2⟩ := Mem.tab_upd hm hT' (kl := []) (by simp) (c' := c) rfl rfl (fun _ h => h) (fun _ h => .inl h) hO (by simp) hw (by
        intro y T' fz' hy; rw [h2] at hy; cases hy) rfl rfl rfl (ver := l) (by omega) (fun _ => ⟨hon, fun _ _ _ => rfl⟩) (fun _ _ _ _ => rfl) htab
    rw [hset]
    exact ⟨c, m1, m2, undef_val⟩
  · cases ha

end
end Wf

