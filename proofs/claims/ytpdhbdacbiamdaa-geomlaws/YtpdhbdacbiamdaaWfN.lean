/-
  What operations do: rows that are read whole; append.
-/
import Derived.Test.YtpdhbdacbiamdaaWfM
set_option linter.unusedVariables false
set_option linter.unusedSimpArgs false
set_option linter.unnecessarySimpa false
namespace Wf
open Go Go.RowKit

/-- A row of elements in an array of cells. -/
def RowIn (w : World) (A : Nat → Prop) (N : Nat) (γ : Nat → Option Addr) (sz : Nat) (els : List D) (x : Array Value) : Prop :=
  ∃ vs : Nat → Value, ∀ (i : Nat) (d : D), els[i]? = some d → Rep w A N γ d (vs i) ∧ (vs i).cells.size = sz ∧ ∀ (q : Nat) (u : Value), (vs i).cells[q]? = some u → x[i * sz + q]? = some u

section
variable {M : GM} {c : Ctx} {N : Nat} {w0 : World} {O0 : Nat → Prop} {L Lr : Loc} {G : M.S} {w : World}

/-- The elements of a slice, in memory. -/
theorem els_ok (hm : Mem M c N w0 O0 L G w) (hs : Sees Lr L) {v : V} {u : Value} {l : List D} (he : elsOf Lr v = some l) (hv : Val c L w N v u) :
    ∃ a cap, u = .slice a l.length cap ∧ l.length ≤ cap ∧ (l = [] ∨ ∃ b o sz, ∃ vs : Nat → Value, a = some ⟨b, o, none⟩ ∧ b < w.heap.size ∧ ¬ c.O b ∧
      ∀ (i : Nat) (d : D), l[i]? = some d → Rep w (own c L) N c.γ d (vs i) ∧ (vs i).cells.size = sz ∧ cellsAt w b (o + i * sz) (vs i)) := by
  have he := hs.els he
  cases v with
  | d y =>
    cases y with
    | sl t l' =>
      simp [elsOf] at he; subst he
      have hr := hv.dat
      cases hr with
      | slE _ a cap _ => exact ⟨a, cap, rfl, by simp, .inl rfl⟩
      | sl _ _ b o sz cap vs g1 g2 g3 g4 g5 g6 g7 g8 =>
        refine ⟨_, cap, rfl, g2, .inr ⟨b, o, sz, vs, rfl, g6, fun h => g4 (.inl h), fun i d hd => ?_⟩⟩
        have hi : i < l'.length := by
          rcases Nat.lt_or_ge i l'.length with h | h
          · exact h
          · rw [List.getElem?_eq_none h] at hd; cases hd
        exact ⟨g7 i d hd, (g8 i hi).1, (g8 i hi).2⟩
    | _ => cases he
  | ref g n off len =>
    simp only [elsOf] at he
    cases hx : L.get g n with
    | arr sz els lv =>
      rw [hx] at he
      dsimp only at he
      split at he
      · rename_i hle
        injection he with he; subst he
        cases hv with
        | ref _ _ _ _ _ k1 k2 =>
          obtain ⟨_, a, cap, rfl, h4, h5⟩ := k2 _ _ _ hx
          have hlen : ((els.drop off).take len).length = len := by simp; omega
          refine ⟨a, cap, by rw [hlen], by rw [hlen]; exact h4, ?_⟩
          by_cases h0 : len = 0
          · exact .inl (by subst h0; simp)
          · rcases h5 with h5 | ⟨b, y, T, fz, q1, rfl, q3, q4⟩
            · omega
            · have hob := hm.get hx (by simp)
              rw [q1] at hob
              obtain ⟨x', T', fz', g2, g3, g4, us, g5⟩ := hob
              obtain ⟨_, e2⟩ := get_at hx (by simp)
              have hmine := hm.mine g b q1 (by rw [e2]; simp)
              refine .inr ⟨b, off * sz, sz, fun i => us (off + i), rfl, hmine.2.1, hmine.2.2, fun i d hd => ?_⟩
              obtain ⟨p1, p2, p3⟩ := g5 _ d (drop_take_get hd)
              refine ⟨p1, p2, fun q u hu => ?_⟩
              have := p3 q u hu
              rwa [Nat.add_mul] at this
      · cases he
    | _ => rw [hx] at he; cases he
  | bref g n off len =>
    simp only [elsOf] at he
    cases hx : L.get g n with
    | box ag ds =>
      rw [hx] at he
      dsimp only at he
      split at he
      · rename_i hle
        injection he with he; subst he
        cases hv with
        | bref _ _ _ _ _ k1 k2 =>
          obtain ⟨p1, b, p2, rfl⟩ := k2 _ (by rw [hx]; rfl)
          have hlen : ((ds.drop off).take len).length = len := by simp; omega
          obtain ⟨b', x, T, fz, h1, h2, h3, h4, h5⟩ := hm.get hx (by simp)
          rw [p2] at h1; cases h1
          obtain ⟨_, e2⟩ := get_at hx (by simp)
          have hmine := hm.mine g b p2 (by rw [e2]; simp)
          refine ⟨_, _, by rw [hlen], by rw [hlen]; omega, .inr ⟨b, off, 1, fun i => x.getD (off + i) undef, rfl, hmine.2.1, hmine.2.2, fun i d hd => ?_⟩⟩
          have hd' := drop_take_get hd
          have hi : off + i < x.size := by
            rcases Nat.lt_or_ge (off + i) ds.length with h | h
            · omega
            · rw [List.getElem?_eq_none h] at hd'; cases hd'
          have hxi : x[off + i]? = some (x.getD (off + i) undef) := by simp [hi]
          obtain ⟨r1, r2⟩ := h5 _ d _ hd' hxi
          refine ⟨r1, by rw [cells_of_one r2]; rfl, fun q u hu => ?_⟩
          rw [cells_of_one r2] at hu
          cases q with
          | zero =>
            simp only [List.getElem?_toArray, List.getElem?_cons_zero, Option.some.injEq] at hu
            rw [Nat.mul_one, Nat.add_zero]
            refine cells_in h2 ?_
            rw [← hu]; exact hxi
          | succ q => simp at hu
      · cases he
    | _ => rw [hx] at he; cases he
  | _ => cases he

theorem okEls_spec {sz : Nat} {l : List D} (h : okEls sz l = true) {i : Nat} {d : D} (hd : l[i]? = some d) : d.width = sz ∧ (d.cell = true ∨ d.isAgg = true) := by
  unfold okEls at h
  rw [List.all_eq_true] at h
  have := h d (List.mem_of_getElem? hd)
  simpa using this

theorem firstCells_of {P : Program} {A : Nat → Prop} {γ : Nat → Option Addr} {l : List D} {b o sz cap : Nat} {vs : Nat → Value}
    (h : ∀ (i : Nat) (d : D), l[i]? = some d → Rep w A N γ d (vs i) ∧ (vs i).cells.size = sz ∧ cellsAt w b (o + i * sz) (vs i)) :
    ∃ x, (∀ w' : World, (∀ a, w'.cell? a = w.cell? a) → (Builtin.firstCells sz l.length (.slice (some ⟨b, o, none⟩) l.length cap)).run P w' = .ok x w') ∧ x.size = l.length * sz ∧ RowIn w A N γ sz l x ∧
      ∀ (k : Nat) (y : Value), x[k]? = some y → ∃ (i : Nat) (d : D) (q : Nat), l[i]? = some d ∧ (vs i).cells[q]? = some y := by
  let f : Nat → Value := fun k => ((vs (k / sz)).cells[k % sz]?).getD undef
  have hf : ∀ (i q : Nat) (d : D) (u : Value), l[i]? = some d → (vs i).cells[q]? = some u → f (i * sz + q) = u := by
    intro i q d u hd hu
    have hq : q < sz := by
      rcases Nat.lt_or_ge q (vs i).cells.size with h' | h'
      · rw [(h i d hd).2.1] at h'; exact h'
      · rw [Array.getElem?_eq_none h'] at hu; cases hu
    have e1 : (i * sz + q) / sz = i := by
      rw [Nat.mul_comm, Nat.mul_add_div (by omega), Nat.div_eq_of_lt hq]; omega
    have e2 : (i * sz + q) % sz = q := by rw [Nat.mul_comm, Nat.mul_add_mod, Nat.mod_eq_of_lt hq]
    simp only [f, e1, e2, hu, Option.getD_some]
  have hk : ∀ k, k < l.length * sz → ∃ d u, l[k / sz]? = some d ∧ (vs (k / sz)).cells[k % sz]? = some u ∧ k = k / sz * sz + k % sz := by
    intro k hk
    have h0 : 0 < sz := by
      rcases Nat.eq_zero_or_pos sz with h' | h'
      · rw [h'] at hk; simp at hk
      · exact h'
    have h1 : k / sz < l.length := by rw [Nat.div_lt_iff_lt_mul h0]; exact hk
    have h2 : k % sz < (vs (k / sz)).cells.size := by rw [(h _ _ (List.getElem?_eq_getElem h1)).2.1]; exact Nat.mod_lt _ h0
    exact ⟨_, _, List.getElem?_eq_getElem h1, Array.getElem?_eq_getElem h2, by rw [Nat.mul_comm]; exact (Nat.div_add_mod k sz).symm⟩
  refine ⟨((List.range (l.length * sz)).map f).toArray, ?_, by simp, ⟨vs, fun i d hd => ⟨(h i d hd).1, (h i d hd).2.1, fun q u hu => ?_⟩⟩, ?_⟩
  · intro w' hw'
    simp only [Builtin.firstCells]
    refine run_loadCells w' _ _ f fun j hj => ?_
    rw [hw']
    obtain ⟨d, u, h1, h2, h3⟩ := hk j hj
    have := (h _ d h1).2.2 _ u h2
    rw [Addr.add_lit]
    have e : f j = u := by rw [h3]; exact hf _ _ d u h1 h2
    rw [e]
    rw [show o + j = o + j / sz * sz + j % sz by omega]; exact this
  · have hi : i < l.length := by
      rcases Nat.lt_or_ge i l.length with h' | h'
      · exact h'
      · rw [List.getElem?_eq_none h'] at hd; cases hd
    have hq : q < sz := by
      rcases Nat.lt_or_ge q (vs i).cells.size with h' | h'
      · rw [(h i d hd).2.1] at h'; exact h'
      · rw [Array.getElem?_eq_none h'] at hu; cases hu
    have hlt : i * sz + q < l.length * sz := by
      have : (i + 1) * sz ≤ l.length * sz := Nat.mul_le_mul_right _ hi
      rw [Nat.succ_mul] at this; omega
    simp [hlt, hf i q d u hd hu]
  · intro k y hy
    have hlt : k < l.length * sz := by
      rcases Nat.lt_or_ge k (l.length * sz) with h' | h'
      · exact h'
      · rw [Array.getElem?_eq_none (by simpa using h')] at hy; cases hy
    obtain ⟨d, u, h1, h2, h3⟩ := hk k hlt
    simp [hlt] at hy
    rw [h3, hf _ _ d u h1 h2] at hy
    subst hy
    exact ⟨_, d, _, h1, h2⟩

/-- All cells of a slice, read. -/
theorem firstCells_ok {P : Program} (hm : Mem M c N w0 O0 L G w) (hs : Sees Lr L) {v : V} {u : Value} {l : List D} {sz : Nat} (he : elsOf Lr v = some l) (hv : Val c L w N v u) (hok : okEls sz l = true) :
    ∃ x, (∀ w' : World, (∀ a, w'.cell? a = w.cell? a) → (Builtin.firstCells sz l.length u).run P w' = .ok x w') ∧ x.size = l.length * sz ∧ RowIn w (own c L) N c.γ sz l x ∧ ∀ (k : Nat) (y : Value), x[k]? = some y → y.oneCell' = true := by
  obtain ⟨a, cap, rfl, hc, h⟩ := els_ok hm hs he hv
  rcases h with rfl | ⟨b, o, sz', vs, rfl, hb, _, h⟩
  · refine ⟨#[], ?_, by simp, ⟨fun _ => undef, by simp⟩, by simp⟩
    intro w' _
    cases a with
    | none => simp [Builtin.firstCells]
    | some a => simp [Builtin.firstCells, loadCells, loadCellsFrom]
  · by_cases h0 : l = []
    · subst h0
      exact ⟨#[], fun w' _ => by simp [Builtin.firstCells, loadCells, loadCellsFrom], by simp, ⟨fun _ => undef, by simp⟩, by simp⟩
    · have hsz : ∀ (i : Nat) (d : D), l[i]? = some d → (vs i).cells.size = sz ∧ ∀ (q : Nat) (u : Value), (vs i).cells[q]? = some u → u.oneCell' = true := by
        intro i d hd
        obtain ⟨h1, h2⟩ := okEls_spec hok hd
        have := ((h i d hd).1).cells h2
        exact ⟨by omega, this.2⟩
      have hzz : sz' = sz := by
        cases l with
        | nil => exact absurd rfl h0
        | cons d r => rw [← (h 0 d (by simp)).2.1]; exact (hsz 0 d (by simp)).1
      subst hzz
      obtain ⟨x, h1, h2, h3, h4⟩ := firstCells_of (P := P) (cap := cap) h
      refine ⟨x, h1, h2, h3, fun k y hy => ?_⟩
      obtain ⟨i, d, q, p1, p2⟩ := h4 k y hy
      exact (hsz i d p1).2 q y p2

theorem nextslicecap_le (n c : Nat) (h : c < n) : Builtin.nextslicecap n c ≤ 2 * n + 2000 := by
  have hg : ∀ r c, Builtin.growBy n r c ≤ max c (2 * n + 2000) := by
    intro r
    induction r with
    | zero => intro c; simp only [Builtin.growBy]; omega
    | succ r ih =>
      intro c
      simp only [Builtin.growBy]
      split
      · omega
      · have := ih (c + (c + 768) / 4); omega
  unfold Builtin.nextslicecap
  split
  · omega
  · split
    · omega
    · have := hg 4 c; omega

theorem append_ty {P : Program} {ty n sz : Nat} (h : appendTy P ty n = some sz) : ∃ e i z zv, P.underlying ty = some (.slice e) ∧ P.info? e = some i ∧ i.size = sz ∧ i.zero = some zv ∧ valD zv = some z ∧
    0 < sz ∧ z.width = sz ∧ (z.cell || z.isAgg) = true ∧ i.bytes ≤ 4096 ∧ n ≤ 2 ^ 32 := by
  unfold appendTy at h
  split at h
  · rename_i e hu
    cases hi : P.info? e with
    | none => rw [hi] at h; cases h
    | some i =>
    cases hz : tyZero P e with
    | none => rw [hi, hz] at h; cases h
    | some z =>
      rw [hi, hz] at h
      dsimp only at h
      split at h
      · rename_i hc
        injection h with h; subst h
        unfold tyZero at hz
        rw [hi] at hz
        simp only [Option.bind_some] at hz
        cases hzz : i.zero with
        | none => rw [hzz] at hz; cases hz
        | some zv => rw [hzz] at hz; exact ⟨e, i, z, zv, hu, hi, rfl, hzz, hz, hc⟩
      · cases h
  · cases h

theorem valD_cells {v : Value} {d : D} (h : valD v = some d) : v.cells.size = d.width ∧ ((d.cell || d.isAgg) = true → ∀ (i : Nat) (u : Value), v.cells[i]? = some u → u.oneCell' = true) ∧ ∀ w A N γ, Rep w A N γ d v := by
  have one : ∀ {v : Value} {d : D}, cellD v = some d → d.cell = true ∧ v.oneCell' = true ∧ d.width = 1 ∧ ∀ w A N γ, Rep w A N γ d v := by
    intro v d hd
    cases v with
    | int k n => simp [cellD] at hd; subst hd; exact ⟨rfl, rfl, rfl, fun _ _ _ _ => .int _ _⟩
    | bool b => simp [cellD] at hd; subst hd; exact ⟨rfl, rfl, rfl, fun _ _ _ _ => .bool _⟩
    | string s => simp [cellD] at hd; subst hd; exact ⟨rfl, rfl, rfl, fun _ _ _ _ => .str _⟩
    | pointer a => cases a <;> simp [cellD] at hd; subst hd; exact ⟨rfl, rfl, rfl, fun _ _ _ _ => .nilp⟩
    | slice a l k =>
      cases a with
      | some a => simp [cellD] at hd
      | none =>
        cases l with
        | succ l => simp [cellD] at hd
        | zero =>
          cases k with
          | succ k => simp [cellD] at hd
          | zero => simp [cellD] at hd; subst hd; exact ⟨rfl, rfl, rfl, fun _ _ _ _ => .slE _ _ _ (fun _ => rfl)⟩
    | nilFunc => simp [cellD] at hd; subst hd; exact ⟨rfl, rfl, rfl, fun _ _ _ _ => .nilfn⟩
    | _ => simp [cellD] at hd
  by_cases hag : ∃ cs, v = .agg cs
  · obtain ⟨cs, rfl⟩ := hag
    simp only [valD] at h
    cases hm : cs.toList.mapM cellD with
    | none => rw [hm] at h; cases h
    | some ds =>
      rw [hm] at h; simp at h; subst h
      have key : ∀ (l : List Value) (ds : List D), l.mapM cellD = some ds → l.length = ds.length ∧ ∀ (i : Nat) (d : D) (v : Value), ds[i]? = some d → l[i]? = some v → cellD v = some d := by
        intro l
        induction l with
        | nil => intro ds h; simp at h; subst h; simp
        | cons v l ih =>
          intro ds h
          simp only [List.mapM_cons] at h
          cases h1 : cellD v with
          | none => rw [h1] at h; cases h
          | some d =>
            rw [h1] at h
            cases h2 : l.mapM cellD with
            | none => rw [h2] at h; cases h
            | some r =>
              rw [h2] at h
              injection h with h; subst h
              obtain ⟨p1, p2⟩ := ih r h2
              refine ⟨by simp [p1], fun i d' v' hd hv => ?_⟩
              cases i with
              | zero => simp at hd hv; subst hd; subst hv; exact h1
              | succ i => exact p2 i d' v' (by simpa using hd) (by simpa using hv)
      obtain ⟨p1, p2⟩ := key _ _ hm
      have hsz : cs.size = ds.length := by simpa using p1
      refine ⟨by simp [Value.cells, D.width, hsz], fun _ i u hu => ?_, fun w A N γ => .agg _ _ hsz ?_ ?_⟩
      · simp only [Value.cells] at hu
        have hi : i < ds.length := by
          rcases Nat.lt_or_ge i cs.size with h' | h'
          · omega
          · rw [Array.getElem?_eq_none h'] at hu; cases hu
        exact (one (p2 i _ u (List.getElem?_eq_getElem hi) (by simpa using hu))).2.1
      · intro i d v hd hv; exact (one (p2 i d v hd (by simpa using hv))).2.2.2 _ _ _ _
      · intro i u hu
        have hi : i < ds.length := by
          rcases Nat.lt_or_ge i cs.size with h' | h'
          · omega
          · rw [Array.getElem?_eq_none h'] at hu; cases hu
        exact (one (p2 i _ u (List.getElem?_eq_getElem hi) (by simpa using hu))).2.1
  · have h' : cellD v = some d := by
      cases v <;> first | exact h | exact absurd ⟨_, rfl⟩ hag
    obtain ⟨h1, h2, h3, h4⟩ := one h'
    refine ⟨by rw [cells_of_one h2, h3]; rfl, fun _ i u hu => ?_, h4⟩
    rw [cells_of_one h2] at hu
    cases i with
    | zero => simp at hu; subst hu; exact h2
    | succ i => simp at hu

end
end Wf
