/-
  What operations do: a store, whole.
-/
import Derived.Test.YtpdhbdacbiamdaaWfJ
set_option linter.unusedVariables false
set_option linter.unusedSimpArgs false
set_option linter.unnecessarySimpa false
namespace Wf
open Go Go.RowKit

section
variable {M : GM} {c : Ctx} {N : Nat} {w0 : World} {O0 : Nat → Prop} {L Lr : Loc} {G : M.S} {w : World}

theorem one_cells {v : Value} (h : v.oneCell' = true) : v.cells.toList = [v] ∧ v.cells.size = 1 ∧ ∀ (i : Nat) (u : Value), v.cells[i]? = some u → u.oneCell' = true := by
  rw [cells_of_one h]
  refine ⟨rfl, rfl, fun i u hu => ?_⟩
  cases i with
  | zero => simp at hu; subst hu; exact h
  | succ i => simp at hu

theorem sl_of_ref {g n off len : Nat} {sz : Nat} {els : List D} {lv : Bool} {u : Value} (hL : L.get g n = .arr sz els lv) (hv : Val c L w N (.ref g n off len) u) : u.oneCell' = true := by
  cases hv with
  | ref _ _ _ _ _ k1 k2 =>
    obtain ⟨_, a, cap, rfl, _⟩ := k2 _ _ _ hL
    rfl

theorem astore_ok {P : Program} (hM : M.Ok) (hm : Mem M c N w0 O0 L G w) (hs : Sees Lr L) {Go : Option M.S} (hG : ∀ s, Go = some s → s = G) {t : TypeId} {p v : V} {u uv : Value} {out : Out M.S}
    (ha : astore P M Lr Go t p v = some out) (hp : Val c L w N p u) (hv : Val c L w N v uv) (hvr : ∀ g n off len, v = .ref g n off len → ∃ sz els lv, Lr.get g n = .arr sz els lv) :
    ∃ w', (Instr.storeAt t u uv).run P w = .ok () w' ∧ Did M c N w0 O0 L G w out undef w' := by
  unfold astore at ha
  cases hag : tyAgg P t with
  | none => rw [hag] at ha; cases ha
  | some ag =>
  cases hn : tySize P t with
  | none => rw [hag, hn] at ha; cases ha
  | some n =>
  rw [hag, hn] at ha
  dsimp only at ha
  have href : ∀ g n off len, v = .ref g n off len → uv.oneCell' = true := by
    rintro g n off len rfl
    obtain ⟨sz, els, lv, h⟩ := hvr _ _ _ _ rfl
    have hL := hs g n (by rw [h]; simp)
    rw [h] at hL
    exact sl_of_ref hL hv
  cases p with
  | ptr g l off =>
    dsimp only at ha
    have hg := hs g l
    cases hx : Lr.get g l with
    | box a ds =>
      rw [hx] at ha
      have hL := hg (by rw [hx]; simp)
      rw [hx] at hL
      obtain ⟨b, x, T, fz, h1, h2, h3, h4⟩ := hm.box hL
      cases hp with
      | ptr _ _ _ _ k1 k2 =>
      obtain ⟨b', e1, rfl⟩ := k2 (by rw [hL]; simp)
      rw [h1] at e1; cases e1
      have one : ∀ {z : D}, v = .d z → ag = false ∧ n = 1 ∧ z.cell = true ∧ off < ds.length →
          ∃ w', (Instr.storeAt t (.pointer (some ⟨b, off, none⟩)) uv).run P w = .ok () w' ∧ Did M c N w0 O0 L G w { v := .d (.tup []), wr := [(g, (l, .box a (ds.set off z)))] } undef w' := by
        rintro z rfl ⟨rfl, rfl, hz, ho⟩
        have ho1 := hv.dat.cell hz
        obtain ⟨o1, o2, o3⟩ := one_cells ho1
        have := write_box hM hm hL h1 h2 (xs := [z]) (vs := [uv]) (off := off) (reps_one hv.dat) (by simpa using ho1) (by simp; omega)
        simp only [List.length_singleton] at this
        rw [← set_splice ho] at this
        exact ⟨_, by rw [storeAt_run hn h2 o2 (by omega) h3 o3, o1], this⟩
      cases v with
      | d z =>
        cases z with
        | agg xs =>
          dsimp only at ha
          split at ha
          · rename_i hc
            obtain ⟨rfl, hc2, hc3⟩ := hc
            injection ha with ha; subst ha
            obtain ⟨vs, rfl, q1, q2, q3⟩ := hv.agg
            obtain ⟨r1, r2⟩ := reps_agg hv.dat
            have := write_box hM hm hL h1 h2 (off := off) r1 r2 (by omega)
            rw [hc2] at this
            exact ⟨_, storeAt_run hn h2 (by simp [Value.cells]; omega) (by omega) h3 q3, this⟩
          · cases ha
        | _ =>
          dsimp only at ha
          split at ha
          · rename_i hc
            simp at ha; subst ha
            exact one rfl hc
          · cases ha
      | ref g' l' off' len' =>
        dsimp only at ha
        split at ha
        · rename_i hc
          obtain ⟨rfl, rfl, rfl, hd1, rfl⟩ := hc
          simp at ha; subst ha
          have ho1 := href _ _ _ _ rfl
          obtain ⟨o1, o2, o3⟩ := one_cells ho1
          have hx1 : ∃ y, x = #[y] := by
            have h5 : x.size = 1 := by omega
            exact ⟨x[0], by
              apply Array.ext (by simpa using h5)
              intro i hi hi'
              have : i = 0 := by omega
              subst this; rfl⟩
          obtain ⟨y, rfl⟩ := hx1
          have := write_one hM hm (z := .vbox (.ref g' l' off' len')) (v := uv) hL rfl h1 h2 h3 ho1 hd1 (.inr ⟨_, rfl, hv⟩)
          exact ⟨_, by rw [storeAt_run hn h2 o2 (by simp) h3 o3, o1], this⟩
        · cases ha
      | _ => cases ha
    | vbox q =>
      rw [hx] at ha
      have hL := hg (by rw [hx]; simp)
      rw [hx] at hL
      obtain ⟨b, u0, T, fz, h1, h2, h3, h4, h5⟩ := hm.get hL (by simp)
      cases hp with
      | ptr _ _ _ _ k1 k2 =>
      obtain ⟨b', e1, rfl⟩ := k2 (by rw [hL]; simp)
      rw [h1] at e1; cases e1
      cases v with
      | d z =>
        cases z with
        | agg xs => dsimp only at ha; split at ha <;> simp_all [D.cell]
        | _ =>
          dsimp only at ha
          split at ha
          · rename_i hc
            obtain ⟨rfl, rfl, hz, rfl⟩ := hc
            simp at ha; subst ha
            have ho1 := hv.dat.cell hz
            obtain ⟨o1, o2, o3⟩ := one_cells ho1
            have := write_one hM hm (z := .box false [_]) (v := uv) hL rfl h1 h2 h3 ho1 rfl (.inl ⟨_, rfl, hv.dat⟩)
            exact ⟨_, by rw [storeAt_run hn h2 o2 (by simp) (by simpa using h3) o3, o1], this⟩
          · cases ha
      | ref g' l' off' len' =>
        dsimp only at ha
        split at ha
        · rename_i hc
          obtain ⟨rfl, rfl, rfl⟩ := hc
          simp at ha; subst ha
          have ho1 := href _ _ _ _ rfl
          obtain ⟨o1, o2, o3⟩ := one_cells ho1
          have := write_one hM hm (z := .vbox (.ref g' l' off' len')) (v := uv) hL rfl h1 h2 h3 ho1 (by simp [Compat]) (.inr ⟨_, rfl, hv⟩)
          exact ⟨_, by rw [storeAt_run hn h2 o2 (by simp) (by simpa using h3) o3, o1], this⟩
        · cases ha
      | _ => cases ha
    | _ => rw [hx] at ha; cases ha
  | ept g l i off =>
    dsimp only at ha
    have hg := hs g l
    cases hx : Lr.get g l with
    | arr sz els lv =>
      rw [hx] at ha
      cases lv with
      | false => cases ha
      | true =>
      have hL := hg (by rw [hx]; simp)
      rw [hx] at hL
      dsimp only at ha
      cases he : els[i]? with
      | none => rw [he] at ha; cases ha
      | some e =>
      rw [he] at ha
      have hi : i < els.length := by
        rcases Nat.lt_or_ge i els.length with h | h
        · exact h
        · rw [List.getElem?_eq_none h] at he; cases he
      have hob := hm.get hL (by simp)
      cases hp with
      | ept _ _ _ _ _ k1 k2 =>
      obtain ⟨b, e1, rfl⟩ := k2 _ _ _ hL hi
      rw [e1] at hob
      obtain ⟨x, T, fz, h2, h3, h4, us, h5⟩ := hob
      have hlt : i * sz + sz ≤ x.size := by
        have : (i + 1) * sz ≤ els.length * sz := Nat.mul_le_mul_right _ hi
        rw [Nat.succ_mul] at this; omega
      have single : ∀ {z : D}, z.cell = true → v = .d z → (∀ v0, Rep w (own c L) N c.γ e v0 → v0.cells.size = sz → off < sz ∧ ∃ e', (∃ v', Rep w (own c L) N c.γ e' v' ∧ v'.cells.size = sz ∧
            ∀ (q : Nat) (y : Value), v'.cells[q]? = some y → if off ≤ q ∧ q < off + [uv].length then [uv][q - off]? = some y else v0.cells[q]? = some y) ∧ out = { v := .d (.tup []), wr := [(g, (l, .arr sz (els.set i e') true))] }) →
          n = 1 → ∃ w', (Instr.storeAt t (.pointer (some ⟨b, i * sz + off, none⟩)) uv).run P w = .ok () w' ∧ Did M c N w0 O0 L G w out undef w' := by
        rintro z hz rfl hall rfl
        have ho1 := hv.dat.cell hz
        obtain ⟨o1, o2, o3⟩ := one_cells ho1
        obtain ⟨r1, r2, r3⟩ := h5 i e he
        obtain ⟨ho, e', _, rfl⟩ := hall _ r1 r2
        refine ⟨_, by rw [storeAt_run hn h2 o2 (by omega) h3 o3, o1], write_elt hM hm hL e1 h2 he (by simp; omega) ?_⟩
        intro v0 q1 q2
        obtain ⟨_, e'', hv'', heq⟩ := hall v0 q1 q2
        have : els.set i e' = els.set i e'' := by
          have := congrArg (fun o => o.wr) heq
          simpa using this
        have h6 : (els.set i e')[i]? = (els.set i e'')[i]? := by rw [this]
        rw [List.getElem?_set, List.getElem?_set, if_pos rfl, if_pos hi] at h6
        simp [hi] at h6; subst h6; exact hv''
      cases v with
      | d z =>
        by_cases hzagg : ∃ xs, z = .agg xs
        · obtain ⟨xs, rfl⟩ := hzagg
          have ha' : (if ag = true ∧ xs.length = n ∧ off = 0 ∧ n = sz then some ({ v := .d (.tup []), wr := [(g, (l, .arr sz (els.set i (.agg xs)) true))] } : Out M.S) else none) = some out := by
            cases e <;> exact ha
          split at ha'
          · rename_i hc
            obtain ⟨rfl, hc2, rfl, rfl⟩ := hc
            simp at ha'; subst ha'
            obtain ⟨vs, rfl, q1, q2, q3⟩ := hv.agg
            have := write_elt hM hm hL e1 h2 he (e' := .agg xs) (off := 0) (vs := vs.toList) (by simp; omega) (fun v0 _ _ => ⟨.agg vs, hv.dat, by simp [Value.cells]; omega, fun q y hy => by
              have hq : q < vs.size := by
                rcases Nat.lt_or_ge q vs.size with h | h
                · exact h
                · simp only [Value.cells] at hy; rw [Array.getElem?_eq_none h] at hy; cases hy
              rw [if_pos (by simp; exact hq)]; simpa [Value.cells] using hy⟩)
            refine ⟨_, ?_, this⟩
            have := storeAt_run (v := .agg vs) hn h2 (o := i * n + 0) (by simp [Value.cells]; omega) (by omega) h3 q3
            simpa [Value.cells] using this
          · cases ha'
        · cases e with
          | agg cs =>
            have ha' : (if ag = false ∧ n = 1 ∧ z.cell = true ∧ off < cs.length then some ({ v := .d (.tup []), wr := [(g, (l, .arr sz (els.set i (.agg (cs.set off z))) true))] } : Out M.S) else none) = some out := by
              cases z <;> first | exact ha | exact absurd ⟨_, rfl⟩ hzagg
            split at ha'
            · rename_i hc
              obtain ⟨rfl, rfl, hz, ho⟩ := hc
              simp at ha'; subst ha'
              refine single hz rfl (fun v0 q1 q2 => ?_) rfl
              cases q1 with
              | agg _ vs p1 p2 p3 =>
                simp only [Value.cells] at q2
                refine ⟨by omega, .agg (cs.set off z), ⟨.agg (vs.setIfInBounds off uv), .agg _ _ (by simp; exact p1) ?_ ?_, by simp [Value.cells]; exact q2, ?_⟩, rfl⟩
                · intro k d y hd hy
                  rw [List.getElem?_set] at hd
                  rw [Array.getElem?_setIfInBounds] at hy
                  by_cases ek : off = k
                  · subst ek; simp [ho] at hd; simp [show off < vs.size by omega] at hy; subst hd; subst hy; exact hv.dat
                  · rw [if_neg ek] at hd hy; exact p2 k d y hd hy
                · intro k y hy
                  rw [Array.getElem?_setIfInBounds] at hy
                  by_cases ek : off = k
                  · subst ek; simp [show off < vs.size by omega] at hy; subst hy; exact hv.dat.cell hz
                  · rw [if_neg ek] at hy; exact p3 k y hy
                · intro q y hy
                  simp only [Value.cells] at hy ⊢
                  rw [Array.getElem?_setIfInBounds] at hy
                  by_cases ek : off = q
                  · subst ek; simp [show off < vs.size by omega] at hy; simp [hy]
                  · rw [if_neg ek] at hy; rw [if_neg (by simp; omega)]; exact hy
            · cases ha'
          | _ =>
            have ha' : (if ag = false ∧ n = 1 ∧ z.cell = true ∧ off = 0 ∧ sz = 1 then some ({ v := .d (.tup []), wr := [(g, (l, .arr sz (els.set i z) true))] } : Out M.S) else none) = some out := by
              cases z <;> first | exact ha | exact absurd ⟨_, rfl⟩ hzagg
            split at ha'
            · rename_i hc
              obtain ⟨rfl, rfl, hz, rfl, rfl⟩ := hc
              simp at ha'; subst ha'
              refine single hz rfl (fun v0 q1 q2 => ⟨by omega, z, ⟨uv, hv.dat, (one_cells (hv.dat.cell hz)).2.1, ?_⟩, rfl⟩) rfl
              intro q y hy
              rw [cells_of_one (hv.dat.cell hz)] at hy
              cases q with
              | zero => simpa using hy
              | succ q => simp at hy
            · cases ha'
      | ref g' l' off' len' =>
        have ha' : (if ag = false ∧ n = 1 ∧ off = 0 ∧ sz = 1 ∧ g ≠ g' then (toD Lr (.ref g' l' off' len')).map fun r => ({ v := .d (.tup []), wr := r.2 ++ [(g, (l, .arr sz (els.set i r.1) true))] } : Out M.S) else none) = some out := by
          cases e <;> exact ha
        split at ha'
        · rename_i hc
          obtain ⟨rfl, rfl, rfl, rfl, hgg⟩ := hc
          cases ht : toD Lr (.ref g' l' off' len') with
          | none => rw [ht] at ha'; cases ha'
          | some r =>
            rw [ht] at ha'
            simp at ha'; subst ha'
            obtain ⟨r1, r2⟩ := r
            obtain ⟨m1, m2, m3⟩ := toD_ok hm hs ht hv
            have hwr : (L.upd r2) g = L g := by
              simp only [toD] at ht
              cases hy : Lr.get g' l' <;> rw [hy] at ht <;> simp at ht
              obtain ⟨_, _, rfl⟩ := ht
              simp only [Loc.upd, Loc.set_ne _ _ hgg]
            have hL' : (L.upd r2).get g l = .arr 1 els true := by unfold Loc.get; rw [hwr]; exact hL
            have ho1 := href _ _ _ _ rfl
            obtain ⟨o1, o2, o3⟩ := one_cells ho1
            have := write_elt hM m1 hL' e1 h2 he (e' := r1) (off := 0) (vs := [uv]) (by simp) (fun v0 _ _ => ⟨uv, m3, o2, fun q y hy => by
              rw [cells_of_one ho1] at hy
              cases q with
              | zero => simpa using hy
              | succ q => simp at hy⟩)
            obtain ⟨c', d1, d2, d3⟩ := this
            refine ⟨_, by rw [storeAt_run hn h2 o2 (by omega) h3 o3, o1], c', ?_, ?_, ?_⟩
            · have e2 : ∀ (a b : Wr) (L : Loc), (L.upd a).upd b = L.upd (a ++ b) := by
                intro a; induction a with
                | nil => intros; rfl
                | cons x a ih => intro b L; obtain ⟨g, y⟩ := x; exact ih b _
              rw [← e2]; exact d1
            · have e2 : ∀ (a b : Wr) (L : Loc), (L.upd a).upd b = L.upd (a ++ b) := by
                intro a; induction a with
                | nil => intros; rfl
                | cons x a ih => intro b L; obtain ⟨g, y⟩ := x; exact ih b _
              rw [← e2]
              exact m2.trans d2
            · have e2 : ∀ (a b : Wr) (L : Loc), (L.upd a).upd b = L.upd (a ++ b) := by
                intro a; induction a with
                | nil => intros; rfl
                | cons x a ih => intro b L; obtain ⟨g, y⟩ := x; exact ih b _
              rw [← e2]; exact d3
        · cases ha'
      | _ => cases e <;> cases ha
    | _ => rw [hx] at ha; cases ha
  | d x =>
    cases x with
    | h k off =>
      dsimp only at ha
      cases Go with
      | none => cases v <;> first | cases ha | (rename_i z; cases z <;> simp at ha)
      | some s =>
        have := hG s rfl; subst this
        cases v with
        | d z =>
          by_cases hzagg : ∃ xs, z = .agg xs
          · obtain ⟨xs, rfl⟩ := hzagg
            dsimp only at ha
            split at ha
            · rename_i hc
              obtain ⟨rfl, hc2, hc3⟩ := hc
              simp only [Option.bind_some] at ha
              cases hst : M.store s k off xs with
              | none => rw [hst] at ha; cases ha
              | some G' =>
                rw [hst] at ha; simp at ha; subst ha
                obtain ⟨vs, rfl, q1, q2, q3⟩ := hv.agg
                obtain ⟨r1, r2⟩ := reps_agg hv.dat
                exact storeH_ok hM hm hn hst hp (vs := vs.toList) rfl (by simp; omega) r1 (by simpa using hc3)
            · cases ha
          · have ha' : (if ag = false ∧ n = 1 ∧ z.flat = true then ((some s).bind fun s => M.store s k off [z]).map fun s => ({ v := .d (.tup []), gs := some s } : Out M.S) else none) = some out := by
              cases z <;> first | exact ha | exact absurd ⟨_, rfl⟩ hzagg
            split at ha'
            · rename_i hc
              obtain ⟨rfl, rfl, hfl⟩ := hc
              simp only [Option.bind_some] at ha'
              cases hst : M.store s k off [z] with
              | none => rw [hst] at ha'; cases ha'
              | some G' =>
                rw [hst] at ha'; simp at ha'; subst ha'
                have ho1 := (hv.dat.of_flat hfl (fun _ => False) 0).2
                exact storeH_ok hM hm hn hst hp (one_cells ho1).1 (by simp) (reps_one hv.dat) (by simpa using hfl)
            · cases ha'
        | _ => cases ha
    | _ => cases ha
  | _ => cases ha

end
end Wf
