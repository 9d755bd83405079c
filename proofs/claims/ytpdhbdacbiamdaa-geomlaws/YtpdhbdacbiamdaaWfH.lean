/-
  What operations do: loads and places.
-/
import Derived.Test.YtpdhbdacbiamdaaWfG
set_option linter.unusedVariables false
set_option linter.unusedSimpArgs false
set_option linter.unnecessarySimpa false
namespace Wf
open Go Go.RowKit

/-- A part of a row of cells. -/
theorem part_rep {w : World} {A : Nat → Prop} {N : Nat} {γ : Nat → Option Addr} {ag : Bool} {n off : Nat} {ds : List D} {d : D} {x : Array Value}
    (hp : partD ag n off ds = some d) (hz : x.size = ds.length)
    (hx : ∀ (i : Nat) (d : D) (u : Value), ds[i]? = some d → x[i]? = some u → Rep w A N γ d u ∧ u.oneCell' = true) :
    ∃ v, Rep w A N γ d v ∧ (if ag then v = .agg (x.extract off (off + n)) ∧ (x.extract off (off + n)).size = n else x[off]? = some v ∧ v.oneCell' = true) ∧
      ∀ (j : Nat) (u : Value), v.cells[j]? = some u → x[off + j]? = some u := by
  unfold partD at hp
  cases ag with
  | true =>
    simp only [if_true] at hp
    split at hp
    · rename_i hle
      simp at hp; subst hp
      have hsz : (x.extract off (off + n)).size = n := by simp; omega
      refine ⟨.agg (x.extract off (off + n)), .agg _ _ (by rw [hsz]; simp; omega) ?_ ?_, by rw [if_pos rfl]; exact ⟨rfl, hsz⟩, ?_⟩
      · intro i e u he hu
        rw [List.getElem?_take] at he
        split at he
        · rw [List.getElem?_drop] at he
          rw [Array.getElem?_extract] at hu
          split at hu
          · exact (hx (off + i) e u he hu).1
          · cases hu
        · cases he
      · intro i u hu
        rw [Array.getElem?_extract] at hu
        split at hu
        · rename_i hi
          have hlt : off + i < x.size := by omega
          exact (hx (off + i) (ds[off + i]'(by omega)) u (by simp) hu).2
        · cases hu
      · intro j u hu
        simp only [Value.cells] at hu
        rw [Array.getElem?_extract] at hu
        split at hu
        · exact hu
        · cases hu
    · cases hp
  | false =>
    simp only [Bool.false_eq_true, if_false] at hp
    have hlt : off < ds.length := by
      rcases Nat.lt_or_ge off ds.length with h | h
      · exact h
      · rw [List.getElem?_eq_none h] at hp; cases hp
    have hxo : x[off]? = some (x[off]'(by omega)) := by simp
    obtain ⟨h1, h2⟩ := hx off d _ hp hxo
    refine ⟨_, h1, by simp only [Bool.false_eq_true, if_false]; exact ⟨hxo, h2⟩, fun j u hu => ?_⟩
    rw [cells_of_one h2] at hu
    cases j with
    | zero => simp at hu; subst hu; simpa using hxo
    | succ j => simp at hu

theorem cells_in {w : World} {b o : Nat} {x : Array Value} {T : TypeId} {fz : Nat × Nat} (hb : w.heap[b]? = some (.cells x T fz)) {u : Value} (h : x[o]? = some u) : w.cell? ⟨b, o, none⟩ = some u := by
  simp [World.cell?, hb, h]

theorem lt_of_heap {w : World} {b : Nat} {o : Obj} (h : w.heap[b]? = some o) : b < w.heap.size := by
  rcases Nat.lt_or_ge b w.heap.size with h' | h'
  · exact h'
  · rw [Array.getElem?_eq_none h'] at h; cases h

section
variable {M : GM} {c : Ctx} {N : Nat} {w0 : World} {O0 : Nat → Prop} {L Lr : Loc} {G : M.S} {w : World}

theorem Mem.get (h : Mem M c N w0 O0 L G w) {g n : Nat} {x : HObj} (hx : L.get g n = x) (hd : x ≠ .dead) : ObjOk c L w N (c.ι g) x := by
  obtain ⟨_, rfl⟩ := get_at hx hd
  exact h.obj g

theorem aload_ok {P : Program} (hM : M.Ok) (hm : Mem M c N w0 O0 L G w) (hs : Sees Lr L) {Go : Option M.S} (hG : ∀ s, Go = some s → s = G) {t : TypeId} {p v : V} {u : Value}
    (ha : aload P M Lr Go t p = some v) (hp : Val c L w N p u) : ∃ u', (Instr.loadAt t u).run P w = .ok u' w ∧ Val c L w N v u' := by
  unfold aload at ha
  cases hag : tyAgg P t with
  | none => rw [hag] at ha; cases ha
  | some ag =>
  cases hn : tySize P t with
  | none => rw [hag, hn] at ha; cases ha
  | some n =>
  rw [hag, hn] at ha
  dsimp only at ha
  -- a value at a place
  have fin : ∀ {b o : Nat} {u' : Value}, u = .pointer (some ⟨b, o, none⟩) → (if ag then ∃ vs, u' = .agg vs ∧ vs.size = n else u'.oneCell' = true) → cellsAt w b o u' →
      (Instr.loadAt t u).run P w = .ok u' w := by
    rintro b o u' rfl h1 h2
    simp only [Instr.loadAt, Instr.sureAddr, Sem.run_bind, Sem.run_pure, Result.andThen_ok, run_loadVar hag hn h1 h2]
  cases p with
  | d x =>
    cases x with
    | at_ x =>
      dsimp only at ha
      split at ha
      · rename_i hc
        obtain ⟨h1, h2, h3⟩ := hc
        simp at ha; subst ha
        have hr := hp.dat
        cases hr with
        | at_ d v' b o g1 g2 g3 g4 =>
          refine ⟨v', fin rfl ?_ g3, .d _ _ g4⟩
          cases ag with
          | true =>
            cases x <;> simp [D.isAgg] at h1
            cases g4 with
            | agg cs vs k1 k2 k3 => simp [D.width] at h2; simp; omega
          | false =>
            simp only [Bool.false_eq_true, if_false]
            exact g4.cell (by simpa using h3)
      · cases ha
    | h k off =>
      dsimp only at ha
      cases Go with
      | none => simp at ha
      | some s =>
        have := hG s rfl; subst this
        simp only [Option.bind_some] at ha
        cases hl : M.load s k off n with
        | none => rw [hl] at ha; cases ha
        | some ds =>
          rw [hl] at ha
          simp only [Option.bind_some] at ha
          obtain ⟨hlen, b, o, hk, hc⟩ := hM.load hm.glob hl
          have hr := hp.dat
          cases hr with
          | h n' off' b' o' hk' =>
            rw [hk] at hk'; simp at hk'; obtain ⟨rfl, rfl⟩ := hk'
            cases ag with
            | true =>
              simp at ha; subst ha
              let f : Nat → Value := fun i => (w.cell? ⟨b, o + off + i, none⟩).getD undef
              let vs : Array Value := ((List.range n).map f).toArray
              have hf : ∀ (i : Nat) (d : D), ds[i]? = some d → d.flat = true ∧ w.cell? ⟨b, o + off + i, none⟩ = some (f i) ∧ (f i).oneCell' = true ∧ ∀ A N, Rep w A N c.γ d (f i) := by
                intro i d hd
                obtain ⟨h1, v, h2, h3, h4⟩ := hc i d hd
                have : f i = v := by simp [f, h2]
                rw [this]; exact ⟨h1, h2, h3, h4⟩
              have hvs : ∀ (i : Nat) (u : Value), vs[i]? = some u → i < n ∧ u = f i := by
                intro i u hu
                have hi : i < n := by
                  rcases Nat.lt_or_ge i n with h | h
                  · exact h
                  · rw [Array.getElem?_eq_none (by simp [vs]; exact h)] at hu; cases hu
                refine ⟨hi, ?_⟩
                simp [vs, hi] at hu; exact hu.symm
              refine ⟨.agg vs, fin rfl (by simp [vs]) ?_, .d _ _ (.agg _ _ (by simp [vs, hlen]) ?_ ?_)⟩
              · intro j u hu
                obtain ⟨h1, rfl⟩ := hvs j u hu
                exact (hf j ds[j] (by simp)).2.1
              · intro i d u hd hu
                obtain ⟨h1, rfl⟩ := hvs i u hu
                exact (hf i d hd).2.2.2 _ _
              · intro i u hu
                obtain ⟨h1, rfl⟩ := hvs i u hu
                exact (hf i ds[i] (by simp)).2.2.1
            | false =>
              simp only [Bool.false_eq_true, if_false] at ha
              cases ds with
              | nil => cases ha
              | cons d r =>
                cases r with
                | cons _ _ => cases ha
                | nil =>
                  simp at ha; subst ha
                  obtain ⟨h1, v, h2, h3, h4⟩ := hc 0 d (by simp)
                  refine ⟨v, fin rfl (by simpa using h3) ?_, .d _ _ (h4 _ _)⟩
                  intro j u hu
                  rw [cells_of_one h3] at hu
                  cases j with
                  | zero => simp at hu; subst hu; simpa using h2
                  | succ j => simp at hu
    | _ => cases ha
  | ptr g l off =>
    dsimp only at ha
    have hg := hs g l
    cases hx : Lr.get g l with
    | box ag' ds =>
      rw [hx] at ha
      dsimp only at ha
      have hL := hg (by rw [hx]; simp)
      rw [hx] at hL
      obtain ⟨b, x, T, fz, h1, h2, h3, h4, h5⟩ := hm.get hL (by simp)
      cases hp with
      | ptr _ _ _ _ k1 k2 =>
        obtain ⟨b', e1, rfl⟩ := k2 (by rw [hL]; simp)
        rw [h1] at e1; cases e1
        cases hpd : partD ag n off ds with
        | none => rw [hpd] at ha; cases ha
        | some d =>
          rw [hpd] at ha; simp at ha; subst ha
          obtain ⟨v, r1, r2, r3⟩ := part_rep hpd h4 h5
          refine ⟨v, fin rfl ?_ (fun j u hu => cells_in h2 (r3 j u hu)), .d _ _ r1⟩
          cases ag with
          | true => simp at r2; simpa using ⟨_, r2.1, by simpa using r2.2⟩
          | false => simp at r2; simpa using r2.2
    | vbox v' =>
      rw [hx] at ha
      dsimp only at ha
      split at ha
      · rename_i hc; obtain ⟨rfl, rfl⟩ := hc
        simp at ha; subst ha
        have hL := hg (by rw [hx]; simp)
        rw [hx] at hL
        obtain ⟨b, u', T, fz, h1, h2, h3, h4, h5⟩ := hm.get hL (by simp)
        cases hp with
        | ptr _ _ _ _ k1 k2 =>
          obtain ⟨b', e1, rfl⟩ := k2 (by rw [hL]; simp)
          rw [h1] at e1; cases e1
          refine ⟨u', fin rfl (by simpa using h4) ?_, h5⟩
          intro j y hy
          rw [cells_of_one h4] at hy
          exact cells_in h2 (by simpa using hy)
      · cases ha
    | _ => rw [hx] at ha; cases ha
  | ept g l i off =>
    dsimp only at ha
    have hg := hs g l
    cases hx : Lr.get g l with
    | arr sz els lv =>
      rw [hx] at ha
      dsimp only at ha
      have hL := hg (by rw [hx]; simp)
      rw [hx] at hL
      have hob := hm.get hL (by simp)
      cases he : els[i]? with
      | none => rw [he] at ha; cases ha
      | some e =>
      rw [he] at ha
      simp only [Option.bind_some] at ha
      have hi : i < els.length := by
        rcases Nat.lt_or_ge i els.length with h | h
        · exact h
        · rw [List.getElem?_eq_none h] at he; cases he
      cases hp with
      | ept _ _ _ _ _ k1 k2 =>
        obtain ⟨b, e1, rfl⟩ := k2 _ _ _ hL hi
        rw [e1] at hob
        obtain ⟨x, T, fz, h2, h3, h4, vs, h5⟩ := hob
        obtain ⟨r1, r2, r3⟩ := h5 i e he
        have one : ∀ x : D, e = x → x.cell = true → ag = false ∧ off = 0 → v = .d x → ∃ u', (Instr.loadAt t (.pointer (some ⟨b, i * sz + off, none⟩))).run P w = .ok u' w ∧ Val c L w N v u' := by
          rintro x rfl hcell ⟨rfl, rfl⟩ rfl
          refine ⟨vs i, fin rfl (by simpa using r1.cell hcell) r3, .d _ _ r1⟩
        cases e with
        | agg cs =>
          dsimp only at ha
          cases hpd : partD ag n off cs with
          | none => rw [hpd] at ha; cases ha
          | some d =>
            rw [hpd] at ha; simp at ha; subst ha
            cases r1' : vs i with
            | agg ys =>
              rw [r1'] at r1 r3
              cases r1 with
              | agg _ _ q1 q2 q3 =>
                obtain ⟨v, p1, p2, p3⟩ := part_rep hpd q1 (fun i d u hd hu => ⟨q2 i d u hd hu, q3 i u hu⟩)
                refine ⟨v, fin rfl ?_ (fun j u hu => ?_), .d _ _ p1⟩
                · cases ag with
                  | true => simp at p2; simpa using ⟨_, p2.1, by simpa using p2.2⟩
                  | false => simp at p2; simpa using p2.2
                · have := r3 (off + j) u (p3 j u hu)
                  rw [← Nat.add_assoc] at this; exact this
            | _ => rw [r1'] at r1; cases r1
        | undef => cases ha
        | tup _ => cases ha
        | _ =>
          dsimp only at ha
          split at ha
          · rename_i hc
            exact one _ rfl rfl hc (by simpa using ha.symm)
          · cases ha
    | _ => rw [hx] at ha; cases ha
  | _ => cases ha

end
end Wf
