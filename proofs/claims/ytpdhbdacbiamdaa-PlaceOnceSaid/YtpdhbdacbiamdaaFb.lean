/-
  What operations do: a store, whole.
-/
import Derived.Test.YtpdhbdacbiamdaaFa
set_option linter.unusedVariables false
set_option linter.unusedSimpArgs false
set_option linter.unnecessarySimpa false
namespace Wf
open Go Go.RowKit

section
variable {M : GM} {c : Ctx} {N : Nat} {w0 : World} {O0 : Nat → Prop} {L Lr : Loc} {G : M.S} {w : World}

theorem one_cells {v : Value} (h : v.oneCell' = true) : v.cells.toList = [v] ∧ v.cells.size = 1 ∧ ∀ (i : Nat) (u : Value), v.cells[i]? = some u → u.oneCell' = true := by
  rw [cells_of_one h]
  refine ⟨rfl, rfl, fun i u hu => ?_⟩
  cases i with
  | zero => simp at hu; subst hu; exact h
  | succ i => simp at hu

theorem sl_of_ref {g n off len : Nat} {sz : Nat} {els : List D} {lv : Bool} {u : Value} (hL : L.get g n = .arr sz els lv) (hv : Val c L w N (.ref g n off len) u) : u.oneCell' = true := by
  cases hv with
  | ref _ _ _ _ _ k1 k2 =>
    obtain ⟨_, a, cap, rfl, _⟩ := k2 _ _ _ hL
    rfl

theorem astore_ok {P : Program} (hM : M.Ok) (hm : Mem M c N w0 O0 L G w) (hs : Sees Lr L) {Go : Option M.S} (hG : ∀ s, Go = some s → s = G) {t : TypeId} {p v : V} {u uv : Value} {out : Out M.S}
    (ha : astore P M Lr Go t p v = some out) (hp : Val c L w N p u) (hv : Val c L w N v uv) (hvr : ∀ g n off len, v = .ref g n off len → ∃ sz els lv, Lr.get g n = .arr sz els lv) :
    ∃ w', (Instr.storeAt t u uv).run P w = .ok () w' ∧ Did M c N w0 O0 L G w out undef w' := by
  unfold astore at ha
  cases hag : tyAgg P t with
  | none => rw [hag] at ha; cases ha
  | some ag =>
  cases hn : tySize P t with
  | none => rw [hag, hn] at ha; cases ha
  | some n =>
  rw [hag, hn] at ha
  dsimp only at ha
  have href : ∀ g n off len, v = .ref g n off len → uv.oneCell' = true := by
    rintro g n off len rfl
    obtain ⟨sz, els, lv, h⟩ := hvr _ _ _ _ rfl
    have hL := hs g n (by rw [h]; simp)
    rw [h] at hL
    exact sl_of_ref hL hv
  cases p with
  | ptr g l off =>
    dsimp only at ha
    have hg := hs g l
    cases hx : Lr.get g l with
    | box a ds =>
      rw [hx] at ha
      have hL := hg (by rw [hx]; simp)
      rw [hx] at hL
      obtain ⟨b, x, T, fz, h1, h2, h3, h4⟩ := hm.box hL
      cases hp with
      | ptr _ _ _ _ k1 k2 =>
      obtain ⟨b', e1, rfl⟩ := k2 (by rw [hL]; simp)
      rw [h1] at e1; cases e1
      have one : ∀ {z : D}, v = .d z → ag = false ∧ n = 1 ∧ z.cell = true ∧ off < ds.length →
          ∃ w', (Instr.storeAt t (.pointer (some ⟨b, off, none⟩)) uv).run P w = .ok () w' ∧ Did M c N w0 O0 L G w { v := .d (.tup []), wr := [(g, (l, .box a (ds.set off z)))] } undef w' := by
        rintro z rfl ⟨rfl, rfl, hz, ho⟩
        have ho1 := hv.dat.cell hz
        obtain ⟨o1, o2, o3⟩ := one_cells ho1
        have := write_box hM hm hL h1 h2 (xs := [z]) (vs := [uv]) (off := off) (reps_one hv.dat) (by simpa using ho1) (by simp; omega)
        simp only [List.length_singleton] at this
        rw [← set_splice ho] at this
        exact ⟨_, by rw [storeAt_run hn h2 o2 (by omega) h3 o3, o1], this⟩
      cases v with
      | d z =>
        cases z with
        | agg xs =>
          dsimp only at ha
          split at ha
          · rename_i hc
            obtain ⟨rfl, hc2, hc3⟩ := hc
            injection ha with ha; subst ha
            obtain ⟨vs, rfl, q1, q2, q3⟩ := hv.agg
            obtain ⟨r1, r2⟩ := reps_agg hv.dat
            have := write_box hM hm hL h1 h2 (off := off) r1 r2 (by omega)
            rw [hc2] at this
            exact ⟨_, storeAt_run hn h2 (by simp [Value.cells]; omega) (by omega) h3 q3, this⟩
          · cases ha
        | _ =>
          dsimp only at ha
          split at ha
          · rename_i hc
            simp at ha; subst ha
            exact one rfl hc
          · cases ha
      | ref g' l' off' len' =>
        dsimp only at ha
        split at ha
        · rename_i hc
          obtain ⟨rfl, rfl, rfl, hd1, rfl⟩ := hc
          simp at ha; subst ha
          have ho1 := href _ _ _ _ rfl
          obtain ⟨o1, o2, o3⟩ := one_cells ho1
          have hx1 : ∃ y, x = #[y] := by
            have h5 : x.size = 1 := by omega
            exact ⟨x[0], by
              apply Array.ext (by simpa using h5)
              intro i hi hi'
              have : i = 0 := by omega
              subst this; rfl⟩
          obtain ⟨y, rfl⟩ := hx1
          have := write_one hM hm (z := .vbox (.ref g' l' off' len')) (v := uv) hL rfl h1 h2 h3 ho1 hd1 (.inr ⟨_, rfl, hv⟩)
          exact ⟨_, by rw [storeAt_run hn h2 o2 (by simp) h3 o3, o1], this⟩
        · cases ha
      | _ => cases ha
    | vbox q =>
      rw [hx] at ha
      have hL := hg (by rw [hx]; simp)
      rw [hx] at hL
      obtain ⟨b, u0, T, fz, h1, h2, h3, h4, h5⟩ := hm.get hL (by simp)
      cases hp with
      | ptr _ _ _ _ k1 k2 =>
      obtain ⟨b', e1, rfl⟩ := k2 (by rw [hL]; simp)
      rw [h1] at e1; cases e1
      cases v with
      | d z =>
        cases z with
        | agg xs => dsimp only at ha; split at ha <;> simp_all [D.cell]
        | _ =>
          dsimp only at ha
          split at ha
          · rename_i hc
            obtain ⟨rfl, rfl, hz, rfl⟩ := hc
            simp at ha; subst ha
            have ho1 := hv.dat.cell hz
            obtain ⟨o1, o2, o3⟩ := one_cells ho1
            have := write_one hM hm (z := .box false [_]) (v := uv) hL rfl h1 h2 h3 ho1 rfl (.inl ⟨_, rfl, hv.dat⟩)
            exact ⟨_, by rw [storeAt_run hn h2 o2 (by simp) (by simpa using h3) o3, o1], this⟩
          · cases ha
      | ref g' l' off' len' =>
        dsimp only at ha
        split at ha
        · rename_i hc
          obtain ⟨rfl, rfl, rfl⟩ := hc
          simp at ha; subst ha
          have ho1 := href _ _ _ _ rfl
          obtain ⟨o1, o2, o3⟩ := one_cells ho1
          have := write_one hM hm (z := .vbox (.ref g' l' off' len')) (v := uv) hL rfl h1 h2 h3 ho1 (by simp [Compat]) (.inr ⟨_, rfl, hv⟩)
          exact ⟨_, by rw [storeAt_run hn h2 o2 (by simp) (by simpa using h3) o3, o1], this⟩
        · cases ha
      | _ => cases ha
    | _ => rw [hx] at ha; cases ha
  | ept g l i off =>
    dsimp only at ha
    have hg := hs g l
    cases hx : Lr.get g l with
    | arr sz els lv =>
      rw [hx] at ha
      cases lv with
      | false => cases ha
      | true =>
      have hL := hg (by rw [hx]; simp)
      rw [hx] at hL
      dsimp only at ha
      cases he : els[i]? with
      | none => rw [he] at ha; cases ha
      | some e =>
      rw [he] at ha
      have hi : i < els.length := by
        rcases Nat.lt_or_ge i els.length with h | h
        · exact h
        · rw [List.getElem?_eq_none h] at he; cases he
      have hob := hm.get hL (by simp)
      cases hp with
      | ept _ _ _ _ _ k1 k2 =>
      obtain ⟨b, e1, rfl⟩ := k2 _ _ _ hL hi
      rw [e1] at hob
      obtain ⟨x, T, fz, h2, h3, h4, us, h5⟩ := hob
      have hlt : i * sz + sz ≤ x.size := by
        have : (i + 1) * sz ≤ els.length * sz := Nat.mul_le_mul_right _ hi
        rw [Nat.succ_mul] at this; omega
      have single : ∀ {z : D}, z.cell = true → v = .d z → (∀ v0, Rep w (own c L) N c.γ e v0 → v0.cells.size = sz → off < sz ∧ ∃ e', (∃ v', Rep w (own c L) N c.γ e' v' ∧ v'.cells.size = sz ∧
            ∀ (q : Nat) (y : Value), v'.cells[q]? = some y → if off ≤ q ∧ q < off + [uv].length then [uv][q - off]? = some y else v0.cells[q]? = some y) ∧ out = { v := .d (.tup []), wr := [(g, (l, .arr sz (els.set i e') true))] }) →
          n = 1 → ∃ w', (Instr.storeAt t (.pointer (some ⟨b, i * sz + off, none⟩)) uv).run P w = .ok () w' ∧ Did M c N w0 O0 L G w out undef w' := by
        rintro z hz rfl hall rfl
        have ho1 := hv.dat.cell hz
        obtain ⟨o1, o2, o3⟩ := one_cells ho1
        obtain ⟨r1, r2, r3⟩ := h5 i e he
        obtain ⟨ho, e', _, rfl⟩ := hall _ r1 r2
        refine ⟨_, by rw [storeAt_run hn h2 o2 (by omega) h3 o3, o1], write_elt hM hm hL e1 h2 he (by simp; omega) ?_⟩
        intro v0 q1 q2
        obtain ⟨_, e'', hv'', heq⟩ := hall v0 q1 q2
        have : els.set i e' = els.set i e'' := by
          have := congrArg (fun o => o.wr) heq
          simpa using this
        have h6 : (els.set i e')[i]? = (els.set i e'')[i]? := by rw [this]
        rw [List.getElem?_set, List.getElem?_set, if_pos rfl, if_pos hi] at h6
        simp [hi] at h6; subst h6; exact hv''
      cases v with
      | d z =>
        by_cases hzagg : ∃ xs, z = .agg xs
        · obtain ⟨xs, rfl⟩ := hzagg
          have ha' : (if ag = true ∧ xs.length = n ∧ off = 0 ∧ n = sz then some ({ v := .d (.tup []), wr := [(g, (l, .arr sz (els.set i (.agg xs)) true))] } : Out M.S) else none) = some out := by
            cases e <;> exact ha
          split at ha'
          · rename_i hc
            obtain ⟨rfl, hc2, rfl, rfl⟩ := hc
            simp at ha'; subst ha'
            obtain ⟨vs, rfl, q1, q2, q3⟩ := hv.agg
            have := write_elt hM hm hL e1 h2 he (e' := .agg xs) (off := 0) (vs := vs.toList) (by simp; omega) (fun v0 _ _ => ⟨.agg vs, hv.dat, by simp [Value.cells]; omega, fun q y hy => by
              have hq : q < vs.size := by
                rcases Nat.lt_or_ge q vs.size with h | h
                · exact h
                · simp only [Value.cells] at hy; rw [Array.getElem?_eq_none h] at hy; cases hy
              rw [if_pos (by simp; exact hq)]; simpa [Value.cells] using hy⟩)
            refine ⟨_, ?_, this⟩
            have := storeAt_run (v := .agg vs) hn h2 (o := i * n + 0) (by simp [Value.cells]; omega) (by omega) h3 q3
            simpa [Value.cells] using this
          · cases ha'
        · cases e with
          | agg cs =>
            have ha' : (if ag = false ∧ n = 1 ∧ z.cell = true ∧ off < cs.length then some ({ v := .d (.tup []), wr := [(g, (l, .arr sz (els.set i (.agg (cs.set off z))) true))] } : Out M.S) else none) = some out := by
              cases z <;> first | exact ha | exact absurd ⟨_, rfl⟩ hzagg
            split at ha'
            · rename_i hc
              obtain ⟨rfl, rfl, hz, ho⟩ := hc
              simp at ha'; subst ha'
              refine single hz rfl (fun v0 q1 q2 => ?_) rfl
              cases q1 with
              | agg _ vs p1 p2 p3 =>
                simp only [Value.cells] at q2
                refine ⟨by omega, .agg (cs.set off z), ⟨.agg (vs.setIfInBounds off uv), .agg _ _ (by simp; exact p1) ?_ ?_, by simp [Value.cells]; exact q2, ?_⟩, rfl⟩
                · intro k d y hd hy
                  rw [List.getElem?_set] at hd
                  rw [Array.getElem?_setIfInBounds] at hy
                  by_cases ek : off = k
                  · subst ek; simp [ho] at hd; simp [show off < vs.size by omega] at hy; subst hd; subst hy; exact hv.dat
                  · rw [if_neg ek] at hd hy; exact p2 k d y hd hy
                · intro k y hy
                  rw [Array.getElem?_setIfInBounds] at hy
                  by_cases ek : off = k
                  · subst ek; simp [show off < vs.size by omega] at hy; subst hy; exact hv.dat.cell hz
                  · rw [if_neg ek] at hy; exact p3 k y hy
                · intro q y hy
                  simp only [Value.cells] at hy ⊢
                  rw [Array.getElem?_setIfInBounds] at hy
                  by_cases ek : off = q
                  · subst ek; simp [show off < vs.size by omega] at hy; simp [hy]
                  · rw [if_neg ek] at hy; rw [if_neg (by simp; omega)]; exact hy
            · cases ha'
          | _ =>
            have ha' : (if ag = false ∧ n = 1 ∧ z.cell = true ∧ off = 0 ∧ sz = 1 then some ({ v := .d (.tup []), wr := [(g, (l, .arr sz (els.set i z) true))] } : Out M.S) else none) = some out := by
              cases z <;> first | exact ha | exact absurd ⟨_, rfl⟩ hzagg
            split at ha'
            · rename_i hc
              obtain ⟨rfl, rfl, hz, rfl, rfl⟩ := hc
              simp at ha'; subst ha'
              refine single hz rfl (fun v0 q1 q2 => ⟨by omega, z, ⟨uv, hv.dat, (one_cells (hv.dat.cell hz)).2.1, ?_⟩, rfl⟩) rfl
              intro q y hy
              rw [cells_of_one (hv.dat.cell hz)] at hy
              cases q with
              | zero => simpa using hy
              | succ q => simp at hy
            · cases ha'
      | ref g' l' off' len' =>
        have ha' : (if ag = false ∧ n = 1 ∧ off = 0 ∧ sz = 1 ∧ g ≠ g' then (toD Lr (.ref g' l' off' len')).map fun r => ({ v := .d (.tup []), wr := r.2 ++ [(g, (l, .arr sz (els.set i r.1) true))] } : Out M.S) else none) = some out := by
          cases e <;> exact ha
        split at ha'
        · rename_i hc
          obtain ⟨rfl, rfl, rfl, rfl, hgg⟩ := hc
          cases ht : toD Lr (.ref g' l' off' len') with
          | none => rw [ht] at ha'; cases ha'
          | some r =>
            rw [ht] at ha'
            simp at ha'; subst ha'
            obtain ⟨r1, r2⟩ := r
            obtain ⟨m1, m2, m3⟩ := toD_ok hm hs ht hv
            have hwr : (L.upd r2) g = L g := by
              simp only [toD] at ht
              cases hy : Lr.get g' l' <;> rw [hy] at ht <;> simp at ht
              obtain ⟨_, _, rfl⟩ := ht
              simp only [Loc.upd, Loc.set_ne _ _ hgg]
            have hL' : (L.upd r2).get g l = .arr 1 els true := by unfold Loc.get; rw [hwr]; exact hL
            have ho1 := href _ _ _ _ rfl
            obtain ⟨o1, o2, o3⟩ := one_cells ho1
            have := write_elt hM m1 hL' e1 h2 he (e' := r1) (off := 0) (vs := [uv]) (by simp) (fun v0 _ _ => ⟨uv, m3, o2, fun q y hy => by
              rw [cells_of_one ho1] at hy
              cases q with
              | zero => simpa using hy
              | succ q => simp at hy⟩)
            obtain ⟨c', d1, d2, d3⟩ := this
            refine ⟨_, by rw [storeAt_run hn h2 o2 (by omega) h3 o3, o1], c', ?_, ?_, ?_⟩
            · have e2 : ∀ (a b : Wr) (L : Loc), (L.upd a).upd b = L.upd (a ++ b) := by
                intro a; induction a with
                | nil => intros; rfl
                | cons x a ih => intro b L; obtain ⟨g, y⟩ := x; exact ih b _
              rw [← e2]; exact d1
            · have e2 : ∀ (a b : Wr) (L : Loc), (L.upd a).upd b = L.upd (a ++ b) := by
                intro a; induction a with
                | nil => intros; rfl
                | cons x a ih => intro b L; obtain ⟨g, y⟩ := x; exact ih b _
              rw [← e2]
              exact m2.trans d2
            · have e2 : ∀ (a b : Wr) (L : Loc), (L.upd a).upd b = L.upd (a ++ b) := by
                intro a; induction a with
                | nil => intros; rfl
                | cons x a ih => intro b L; obtain ⟨g, y⟩ := x; exact ih b _
              rw [← e2]; exact d3
        · cases ha'
      | _ => cases e <;> cases ha
    | _ => rw [hx] at ha; cases ha
  | d x =>
    cases x with
    | h k off =>
      dsimp only at ha
      cases Go with
      | none => cases v <;> first | cases ha | (rename_i z; cases z <;> simp at ha)
      | some s =>
        have := hG s rfl; subst this
        cases v with
        | d z =>
          by_cases hzagg : ∃ xs, z = .agg xs
          · obtain ⟨xs, rfl⟩ := hzagg
            dsimp only at ha
            split at ha
            · rename_i hc
              obtain ⟨rfl, hc2, hc3⟩ := hc
              simp only [Option.bind_some] at ha
              cases hst : M.store s k off xs with
              | none => rw [hst] at ha; cases ha
              | some G' =>
                rw [hst] at ha; simp at ha; subst ha
                obtain ⟨vs, rfl, q1, q2, q3⟩ := hv.agg
                obtain ⟨r1, r2⟩ := reps_agg hv.dat
                exact storeH_ok hM hm hn hst hp (vs := vs.toList) rfl (by simp; omega) r1 (by simpa using hc3)
            · cases ha
          · have ha' : (if ag = false ∧ n = 1 ∧ z.flat = true then ((some s).bind fun s => M.store s k off [z]).map fun s => ({ v := .d (.tup []), gs := some s } : Out M.S) else none) = some out := by
              cases z <;> first | exact ha | exact absurd ⟨_, rfl⟩ hzagg
            split at ha'
            · rename_i hc
              obtain ⟨rfl, rfl, hfl⟩ := hc
              simp only [Option.bind_some] at ha'
              cases hst : M.store s k off [z] with
              | none => rw [hst] at ha'; cases ha'
              | some G' =>
                rw [hst] at ha'; simp at ha'; subst ha'
                have ho1 := (hv.dat.of_flat hfl (fun _ => False) 0).2
                exact storeH_ok hM hm hn hst hp (one_cells ho1).1 (by simp) (reps_one hv.dat) (by simpa using hfl)
            · cases ha'
        | _ => cases ha
    | _ => cases ha
  | _ => cases ha

end
end Wf

/-
  What operations do: places, parts.
-/
namespace Wf
open Go Go.RowKit

theorem ty_fld {P : Program} {s f off size : Nat} (h : tyFld P s f = some (off, size)) : ∃ fs x, P.underlying s = some (.struct fs) ∧ fs[f]? = some x ∧ x.offset = off ∧ tySize P x.type = some size := by
  unfold tyFld at h
  split at h
  · rename_i fs hu
    cases hx : fs[f]? with
    | none => rw [hx] at h; cases h
    | some x =>
      rw [hx] at h
      cases hi : P.info? x.type with
      | none => simp [hi] at h
      | some i =>
        simp [hi] at h
        exact ⟨fs, x, hu, hx, h.1, by unfold tySize; simp [hi, h.2]⟩
  · cases h

theorem ty_fldAgg {P : Program} {s f : Nat} {ag : Bool} (h : tyFldAgg P s f = some ag) : ∃ fs x, P.underlying s = some (.struct fs) ∧ fs[f]? = some x ∧ tyAgg P x.type = some ag := by
  unfold tyFldAgg at h
  split at h
  · rename_i fs hu
    cases hx : fs[f]? with
    | none => rw [hx] at h; cases h
    | some x => rw [hx] at h; exact ⟨fs, x, hu, hx, h⟩
  · cases h

theorem ty_elem {P : Program} {t sz : Nat} (h : tyElem P t = some sz) : ∃ e, P.underlying t = some (.slice e) ∧ tySize P e = some sz := by
  unfold tyElem at h
  split at h
  · rename_i e hu; exact ⟨e, hu, h⟩
  · cases h

theorem ty_arr {P : Program} {t n sz : Nat} {ag : Bool} (h : tyArr P t = some (n, sz, ag)) : ∃ e, P.underlying t = some (.array n e) ∧ tySize P e = some sz ∧ tyAgg P e = some ag := by
  unfold tyArr at h
  split at h
  · rename_i n' e hu
    cases hi : P.info? e with
    | none => rw [hi] at h; cases h
    | some i =>
      rw [hi] at h
      cases ha : tyAgg P e with
      | none => simp [ha] at h
      | some a =>
        simp [ha] at h
        obtain ⟨rfl, h2, rfl⟩ := h
        exact ⟨e, hu, by unfold tySize; simp [hi, h2], ha⟩
  · cases h

theorem fieldAt_run {P : Program} {s f off size b o : Nat} {w : World} (h : tyFld P s f = some (off, size)) (h0 : size ≠ 0) :
    (Instr.fieldAt s (.pointer (some ⟨b, o, none⟩)) f).run P w = .ok (.pointer (some ⟨b, o + off, none⟩)) w := by
  obtain ⟨fs, x, h1, h2, rfl, h4⟩ := ty_fld h
  simp only [Instr.fieldAt, Sem.run_bind, ty_und h1, Result.andThen_ok]
  simp only [h2, Instr.sureAddr, Sem.run_bind, Sem.run_pure, Result.andThen_ok, fieldPlace, ty_size h4, h0, if_false, Addr.add_lit]

theorem run_part {P : Program} {t n off : Nat} {ag : Bool} {w : World} {cs : Array Value} {v : Value} (hag : tyAgg P t = some ag) (hn : tySize P t = some n)
    (h : if ag then v = .agg (cs.extract off (off + n)) else cs[off]? = some v) : (part t cs off).run P w = .ok v w := by
  unfold part
  simp only [Sem.run_bind, ty_agg hag, Result.andThen_ok]
  cases ag with
  | true => simp at h; simp [ty_size hn, h]
  | false => simp at h; simp [h]

section
variable {M : GM} {c : Ctx} {N : Nat} {w0 : World} {O0 : Nat → Prop} {L Lr : Loc} {G : M.S} {w : World}

theorem at_part {d : D} {ag : Bool} {n off : Nat} {cs : List D} {u : Value} (hp : partD ag n off cs = some d) (h0 : ag = true ∨ n = 1)
    (h : Val c L w N (.d (.at_ (.agg cs))) u) : ∃ b o, u = .pointer (some ⟨b, o, none⟩) ∧ Val c L w N (.d (.at_ d)) (.pointer (some ⟨b, o + off, none⟩)) := by
  have hr := h.dat
  cases hr with
  | at_ _ v b o g1 g2 g3 g4 =>
    cases g4 with
    | agg _ vs q1 q2 q3 =>
      obtain ⟨v', r1, r2, r3⟩ := part_rep hp q1 (fun i d u hd hu => ⟨q2 i d u hd hu, q3 i u hu⟩)
      refine ⟨b, o, rfl, .d _ _ (.at_ _ v' _ _ g1 g2 (fun j u hu => ?_) r1)⟩
      have := g3 (off + j) u (by simpa [Value.cells] using r3 j u hu)
      rwa [← Nat.add_assoc] at this

theorem afieldAddr_ok {P : Program} {s f : Nat} {x v : V} {u : Value} (ha : afieldAddr P s x f = some v) (hx : Val c L w N x u)
    (hlive : ∀ g n off, x = .ptr g n off → L.get g n ≠ .dead) (harr : ∀ g n i off, x = .ept g n i off → ∃ sz els l, L.get g n = .arr sz els l ∧ i < els.length) :
    ∃ u', (Instr.fieldAt s u f).run P w = .ok u' w ∧ Val c L w N v u' := by
  unfold afieldAddr at ha
  cases hf : tyFld P s f with
  | none => rw [hf] at ha; cases ha
  | some p =>
  obtain ⟨off, size⟩ := p
  cases hag : tyFldAgg P s f with
  | none => rw [hf, hag] at ha; cases ha
  | some ag =>
  rw [hf, hag] at ha
  dsimp only at ha
  split at ha
  · cases ha
  · rename_i h0
    cases x with
    | ptr g n o =>
      injection ha with ha; subst ha
      cases hx with
      | ptr _ _ _ _ k1 k2 =>
        obtain ⟨b, e, rfl⟩ := k2 (hlive _ _ _ rfl)
        exact ⟨_, fieldAt_run hf h0, .ptr _ _ _ _ k1 fun _ => ⟨b, e, rfl⟩⟩
    | ept g n i o =>
      injection ha with ha; subst ha
      cases hx with
      | ept _ _ _ _ _ k1 k2 =>
        obtain ⟨sz, els, l, h1, h2⟩ := harr _ _ _ _ rfl
        obtain ⟨b, e, rfl⟩ := k2 _ _ _ h1 h2
        refine ⟨_, fieldAt_run hf h0, .ept _ _ _ _ _ k1 fun sz' els' l' h1' _ => ⟨b, e, ?_⟩⟩
        rw [h1] at h1'; cases h1'; rw [Nat.add_assoc]
    | d y =>
      cases y with
      | at_ z =>
        cases z with
        | agg cs =>
          dsimp only at ha
          cases hp : partD ag size off cs with
          | none => rw [hp] at ha; cases ha
          | some d =>
            rw [hp] at ha
            injection ha with ha; subst ha
            have : ag = true ∨ size = 1 ∨ True := .inr (.inr trivial)
            have hr := hx.dat
            cases hr with
            | at_ _ v b o g1 g2 g3 g4 =>
              cases g4 with
              | agg _ vs q1 q2 q3 =>
                obtain ⟨v', r1, r2, r3⟩ := part_rep hp q1 (fun i d u hd hu => ⟨q2 i d u hd hu, q3 i u hu⟩)
                refine ⟨_, fieldAt_run hf h0, .d _ _ (.at_ _ v' _ _ g1 g2 (fun j u hu => ?_) r1)⟩
                have := g3 (off + j) u (by simpa [Value.cells] using r3 j u hu)
                rwa [← Nat.add_assoc] at this
        | _ => cases ha
      | h k o =>
        injection ha with ha; subst ha
        have hr := hx.dat
        cases hr with
        | h _ _ b o' hk =>
          refine ⟨_, fieldAt_run hf h0, .d _ _ ?_⟩
          rw [Nat.add_assoc]; exact .h _ _ _ _ hk
      | _ => cases ha
    | _ => cases ha

theorem indexAt_slice {P : Program} {t sz b o len cap : Nat} {k : IntKind} {i : Int} (h : tyElem P t = some sz) (h0 : 0 ≤ i) (h1 : i < len) :
    (Instr.indexAt t (.slice (some ⟨b, o, none⟩) len cap) (.int k i)).run P w = .ok (.pointer (some ⟨b, o + i.toNat * sz, none⟩)) w := by
  obtain ⟨e, h2, h3⟩ := ty_elem h
  simp [Instr.indexAt, ty_und h2, asIntOf, h0, h1, ty_size h3, Addr.add_lit]

theorem indexAt_array {P : Program} {t n sz b o : Nat} {ag : Bool} {k : IntKind} {i : Int} (h : tyArr P t = some (n, sz, ag)) (h0 : 0 ≤ i) (h1 : i < n) :
    (Instr.indexAt t (.pointer (some ⟨b, o, none⟩)) (.int k i)).run P w = .ok (.pointer (some ⟨b, o + i.toNat * sz, none⟩)) w := by
  obtain ⟨e, h2, h3, _⟩ := ty_arr h
  simp [Instr.indexAt, ty_und h2, asIntOf, h0, h1, ty_size h3, Addr.add_lit, Instr.sureAddr]

theorem aindexAddr_ok {P : Program} (hm : Mem M c N w0 O0 L G w) (hs : Sees Lr L) {t : TypeId} {x i v : V} {u ui : Value} (ha : aindexAddr P Lr t x i = some v) (hx : Val c L w N x u) (hi : Val c L w N i ui)
    (hlive : ∀ g n off, x = .ptr g n off → Lr.get g n ≠ .dead) (hbl : ∀ g n off len, x = .bref g n off len → ∃ ag ds, Lr.get g n = .box ag ds) :
    ∃ u', (Instr.indexAt t u ui).run P w = .ok u' w ∧ Val c L w N v u' := by
  unfold aindexAddr at ha
  split at ha
  rotate_left
  · cases ha
  rename_i k j
  have := hi.int; subst this
  split at ha
  · cases ha
  rename_i hneg
  have h0 : 0 ≤ j := by omega
  cases x with
  | d y =>
    cases y with
    | sl tg l =>
      dsimp only at ha
      cases ht : tyElem P t with
      | none => rw [ht] at ha; cases ha
      | some sz =>
      cases hd : l[j.toNat]? with
      | none => rw [ht, hd] at ha; cases ha
      | some d =>
      rw [ht, hd] at ha
      dsimp only at ha
      split at ha
      · rename_i hw
        obtain ⟨hw, hcd⟩ := hw
        injection ha with ha; subst ha
        have hlt : j.toNat < l.length := by
          rcases Nat.lt_or_ge j.toNat l.length with h | h
          · exact h
          · rw [List.getElem?_eq_none h] at hd; cases hd
        have hr := hx.dat
        cases hr with
        | slE _ a cap _ => simp at hd
        | sl _ _ b o sz' cap vs g1 g2 g3 g4 g5 g6 g7 g8 =>
          obtain ⟨q1, q2⟩ := g8 j.toNat hlt
          have hdr := g7 _ _ hd
          have hz : sz' = sz := by
            have := hdr.cells (by simpa using hcd)
            omega
          subst hz
          exact ⟨_, indexAt_slice ht h0 (by omega), .d _ _ (.at_ _ _ _ _ g4 g6 q2 hdr)⟩
      · cases ha
    | at_ z =>
      cases z with
      | agg cs =>
        dsimp only at ha
        cases ht : tyArr P t with
        | none => rw [ht] at ha; cases ha
        | some p =>
          obtain ⟨n, sz, ag⟩ := p
          rw [ht] at ha
          dsimp only at ha
          split at ha
          · rename_i hlt
            cases hp : partD ag sz (j.toNat * sz) cs with
            | none => rw [hp] at ha; cases ha
            | some d =>
              rw [hp] at ha
              injection ha with ha; subst ha
              have hr := hx.dat
              cases hr with
              | at_ _ v b o g1 g2 g3 g4 =>
                cases g4 with
                | agg _ vs q1 q2 q3 =>
                  obtain ⟨v', r1, r2, r3⟩ := part_rep hp q1 (fun i d u hd hu => ⟨q2 i d u hd hu, q3 i u hu⟩)
                  refine ⟨_, indexAt_array ht h0 (by omega), .d _ _ (.at_ _ v' _ _ g1 g2 (fun j' u hu => ?_) r1)⟩
                  have := g3 (j.toNat * sz + j') u (by simpa [Value.cells] using r3 j' u hu)
                  rwa [← Nat.add_assoc] at this
          · cases ha
      | _ => cases ha
    | h k' off =>
      dsimp only at ha
      cases ht : tyArr P t with
      | none => rw [ht] at ha; cases ha
      | some p =>
        obtain ⟨n, sz, ag⟩ := p
        rw [ht] at ha
        dsimp only at ha
        split at ha
        · rename_i hlt
          injection ha with ha; subst ha
          have hr := hx.dat
          cases hr with
          | h _ _ b o hk =>
            refine ⟨_, indexAt_array ht h0 (by omega), .d _ _ ?_⟩
            rw [Nat.add_assoc]; exact .h _ _ _ _ hk
        · cases ha
    | _ => cases ha
  | ref g l off n =>
    dsimp only at ha
    cases ht : tyElem P t with
    | none => rw [ht] at ha; cases ha
    | some sz =>
    cases hy : Lr.get g l with
    | arr sz' els lv =>
      rw [ht, hy] at ha
      dsimp only at ha
      split at ha
      · rename_i hc
        obtain ⟨h1, rfl⟩ := hc
        injection ha with ha; subst ha
        have hL := hs g l (by rw [hy]; simp)
        rw [hy] at hL
        cases hx with
        | ref _ _ _ _ _ k1 k2 =>
          obtain ⟨p1, a, cap, rfl, p3, p4⟩ := k2 _ _ _ hL
          rcases p4 with p4 | ⟨b, y, T, fz, q1, rfl, q3, q4⟩
          · omega
          · refine ⟨_, indexAt_slice ht h0 (by omega), .ept _ _ _ _ _ k1 fun sz2 els2 l2 h2 _ => ⟨b, q1, ?_⟩⟩
            rw [hL] at h2; cases h2
            rw [Nat.add_mul, Nat.add_zero]
      · cases ha
    | _ => rw [ht, hy] at ha; cases ha
  | bref g l off n =>
    dsimp only at ha
    cases ht : tyElem P t with
    | none => rw [ht] at ha; cases ha
    | some sz =>
      rw [ht] at ha
      dsimp only at ha
      split at ha
      · rename_i hc
        obtain ⟨rfl, h1⟩ := hc
        injection ha with ha; subst ha
        obtain ⟨ag, ds, hy⟩ := hbl _ _ _ _ rfl
        have hL := hs g l (by rw [hy]; simp)
        rw [hy] at hL
        cases hx with
        | bref _ _ _ _ _ k1 k2 =>
          obtain ⟨p1, b, p2, rfl⟩ := k2 _ (by rw [hL]; rfl)
          refine ⟨_, indexAt_slice ht h0 (by omega), .ptr _ _ _ _ k1 fun _ => ⟨b, p2, ?_⟩⟩
          rw [Nat.mul_one]
      · cases ha
  | ptr g l off =>
    dsimp only at ha
    cases ht : tyArr P t with
    | none => rw [ht] at ha; cases ha
    | some p =>
      obtain ⟨n, sz, ag⟩ := p
      rw [ht] at ha
      dsimp only at ha
      split at ha
      · rename_i hlt
        injection ha with ha; subst ha
        have hd := hlive _ _ _ rfl
        have hL := hs g l hd
        cases hx with
        | ptr _ _ _ _ k1 k2 =>
          obtain ⟨b, e, rfl⟩ := k2 (by rw [hL]; exact hd)
          exact ⟨_, indexAt_array ht h0 (by omega), .ptr _ _ _ _ k1 fun _ => ⟨b, e, rfl⟩⟩
      · cases ha
  | _ => cases ha


theorem okPtr_ptr {v : V} (hs : Sees Lr L) (h : okPtr Lr v = true) : (∀ g n off, v = .ptr g n off → Lr.get g n ≠ .dead ∧ L.get g n ≠ .dead) ∧
    (∀ g n i off, v = .ept g n i off → ∃ sz els l, L.get g n = .arr sz els l ∧ i < els.length) ∧ (∀ g n off len, v = .bref g n off len → ∃ ag ds, Lr.get g n = .box ag ds) := by
  refine ⟨?_, ?_, ?_⟩
  · rintro g n off rfl
    have h1 : Lr.get g n ≠ .dead := by intro e; simp [okPtr, e] at h
    exact ⟨h1, by rw [hs g n h1]; exact h1⟩
  · rintro g n i off rfl
    simp only [okPtr] at h
    cases hx : Lr.get g n <;> rw [hx] at h <;> simp at h
    exact ⟨_, _, _, by rw [hs g n (by rw [hx]; simp), hx], h⟩
  · rintro g n off len rfl
    simp only [okPtr] at h
    cases hx : Lr.get g n <;> rw [hx] at h <;> simp at h
    exact ⟨_, _, rfl⟩

-- slices of slices
theorem sliceBound_run {P : Program} {k : IntKind} {i : Int} {y : Nat} {code : BoundsCode} (h0 : 0 ≤ i) (h1 : i ≤ y) : (Instr.sliceBound (.int k i) y code).run P w = .ok i.toNat w := by
  simp [Instr.sliceBound, asIntOf, h0, h1]

/-- An optional bound, and its value. -/
def OptVal (c : Ctx) (L : Loc) (w : World) (N : Nat) : Option V → Option Value → Prop
  | none, none => True
  | some v, some u => Val c L w N v u
  | _, _ => False

theorem optD_val {x : Option V} {u : Option Value} {y : Option Int} (h : optD x = some y) (hv : OptVal c L w N x u) : (y = none ∧ u = none) ∨ ∃ k n, y = some n ∧ u = some (.int k n) := by
  cases x with
  | none => cases u <;> simp_all [optD, OptVal]
  | some v =>
    cases u with
    | none => simp [OptVal] at hv
    | some u =>
      cases v with
      | d z =>
        cases z <;> simp [optD] at h
        rename_i k n
        subst h
        exact .inr ⟨k, n, rfl, by rw [Val.int hv]⟩
      | _ => simp [optD] at h

theorem bounds_run {P : Program} {isSlice : Bool} {len cap : Nat} {lo hi mx : Option V} {lu hu mu : Option Value} {lo' hi' mx' : Option Int}
    (h1 : optD lo = some lo') (h2 : optD hi = some hi') (h3 : optD mx = some mx') (v1 : OptVal c L w N lo lu) (v2 : OptVal c L w N hi hu) (v3 : OptVal c L w N mx mu)
    (hlc : len ≤ cap) (ha : 0 ≤ lo'.getD 0) (hb : lo'.getD 0 ≤ hi'.getD len) (hc : hi'.getD len ≤ len) (hm : mx'.getD (hi'.getD len) = hi'.getD len) (hmh : mx' ≠ none → hi' ≠ none) :
    (Instr.sliceBounds isSlice len cap lu hu mu).run P w = .ok ((lo'.getD 0).toNat, (hi'.getD len).toNat, if mx'.isSome then (hi'.getD len).toNat else cap) w := by
  unfold Instr.sliceBounds
  have sb : ∀ {k : IntKind} {i : Int} {y : Nat} {code : BoundsCode}, 0 ≤ i → i ≤ y → (Instr.sliceBound (.int k i) y code).run P w = .ok i.toNat w := fun h0 h1 => sliceBound_run h0 h1
  have nn : ¬ ((none : Option Int) ≠ none) := by simp
  rcases optD_val h1 v1 with ⟨rfl, rfl⟩ | ⟨k1, n1, rfl, rfl⟩ <;> rcases optD_val h2 v2 with ⟨rfl, rfl⟩ | ⟨k2, n2, rfl, rfl⟩ <;> rcases optD_val h3 v3 with ⟨rfl, rfl⟩ | ⟨k3, n3, rfl, rfl⟩
  · simp
  · exact absurd rfl (hmh (by simp))
  · simp only [Option.getD_some, Option.getD_none] at *
    simp [sb (k := k2) (i := n2) (y := cap) (by omega) (by omega)]
  · simp only [Option.getD_some, Option.getD_none] at *
    subst hm
    simp [sb (k := k3) (i := n3) (y := cap) (by omega) (by omega), sb (k := k2) (i := n3) (y := n3.toNat) (by omega) (by omega)]
  · simp only [Option.getD_some, Option.getD_none] at *
    simp [sb (k := k1) (i := n1) (y := len) (by omega) (by omega)]
  · exact absurd rfl (hmh (by simp))
  · simp only [Option.getD_some, Option.getD_none] at *
    simp [sb (k := k2) (i := n2) (y := cap) (by omega) (by omega), sb (k := k1) (i := n1) (y := n2.toNat) (by omega) (by omega)]
  · simp only [Option.getD_some, Option.getD_none] at *
    subst hm
    simp [sb (k := k3) (i := n3) (y := cap) (by omega) (by omega), sb (k := k2) (i := n3) (y := n3.toNat) (by omega) (by omega), sb (k := k1) (i := n1) (y := n3.toNat) (by omega) (by omega)]

end
end Wf

/-
  What operations do: slices, and what leaves memory alone.
-/
namespace Wf
open Go Go.RowKit

section
variable {M : GM} {c : Ctx} {N : Nat} {w0 : World} {O0 : Nat → Prop} {L Lr : Loc} {G : M.S} {w : World}

theorem sliceAt_slice {P : Program} {t sz len cap l h m : Nat} {a : Option Addr} {lu hu mu : Option Value} (ht : tyElem P t = some sz)
    (hb : (Instr.sliceBounds true len cap lu hu mu).run P w = .ok (l, h, m) w) :
    (Instr.sliceAt t (.slice a len cap) lu hu mu).run P w = .ok (.slice (if m = l then a else a.map (·.add (l * sz))) (h - l) (m - l)) w := by
  obtain ⟨e, h1, h2⟩ := ty_elem ht
  simp [Instr.sliceAt, Instr.slice, ty_und h1, hb, ty_size h2]

theorem drop_take_get {α : Type} {l : List α} {a n i : Nat} {d : α} (h : ((l.drop a).take n)[i]? = some d) : l[a + i]? = some d := by
  rw [List.getElem?_take] at h
  split at h
  · rwa [List.getElem?_drop] at h
  · cases h

theorem aslice_ok {P : Program} (hm : Mem M c N w0 O0 L G w) (hs : Sees Lr L) {t : TypeId} {x v : V} {lo hi mx : Option V} {u : Value} {lu hu mu : Option Value} (ha : aslice P Lr t x lo hi mx = some v) (hx : Val c L w N x u)
    (v1 : OptVal c L w N lo lu) (v2 : OptVal c L w N hi hu) (v3 : OptVal c L w N mx mu) :
    ∃ u', (Instr.sliceAt t u lu hu mu).run P w = .ok u' w ∧ Val c L w N v u' := by
  unfold aslice at ha
  cases h1 : optD lo with
  | none => rw [h1] at ha; cases ha
  | some lo' =>
  cases h2 : optD hi with
  | none => rw [h1, h2] at ha; cases ha
  | some hi' =>
  cases h3 : optD mx with
  | none => rw [h1, h2, h3] at ha; cases ha
  | some mx' =>
  rw [h1, h2, h3] at ha
  dsimp only at ha
  cases x with
  | d y =>
    cases y with
    | sl tg l =>
      dsimp only at ha
      split at ha
      · rename_i hc
        obtain ⟨c1, c2, c3, c4, c5, c6, c7, c8⟩ := hc
        injection ha with ha; subst ha
        obtain ⟨sz, hsz⟩ := Option.isSome_iff_exists.1 c1
        have hmh : mx' ≠ none → hi' ≠ none := by
          intro e e2; subst e2; cases mx' with
          | none => exact e rfl
          | some _ => simp at c6
        have hr := hx.dat
        have hl' : (((l.drop (lo'.getD 0).toNat).take (hi'.getD ↑l.length - lo'.getD 0).toNat)).length = (hi'.getD ↑l.length).toNat - (lo'.getD 0).toNat := by
          simp; omega
        cases hr with
        | slE _ a cap hfull =>
          have hb := bounds_run (P := P) (w := w) (isSlice := true) (len := 0) (cap := cap) h1 h2 h3 v1 v2 v3 (Nat.zero_le _) c2 (by simpa using c3) (by simpa using c4) (by simpa using c5) hmh
          refine ⟨_, sliceAt_slice hsz hb, .d _ _ ?_⟩
          have e1 : lo'.getD 0 = 0 := by simp at c3 c4; omega
          have e2 : hi'.getD ((List.length ([] : List D) : Nat) : Int) = 0 := by simp at c3 c4 ⊢; omega
          have e2' : hi'.getD ((0 : Nat) : Int) = 0 := e2
          simp only [List.drop_nil, List.take_nil, e1, e2', Int.toNat_zero, Nat.sub_zero]
          refine .slE _ _ _ fun hf => ?_
          rcases sliceTag_full hf with h | ⟨h, _⟩
          · simp [h]
          · rw [hfull h]; simp
        | sl _ _ b o sz' cap vs g1 g2 g3 g4 g5 g6 g7 g8 =>
          have hb := bounds_run (P := P) (w := w) (isSlice := true) (len := l.length) (cap := cap) h1 h2 h3 v1 v2 v3 g2 c2 c3 c4 c5 hmh
          refine ⟨_, sliceAt_slice hsz hb, .d _ _ ?_⟩
          have hzz : sz' = sz := by
            cases l with
            | nil => exact absurd rfl g1
            | cons d r =>
              have q1 := g7 0 d (by simp)
              have q2 := (g8 0 (by simp)).1
              simp only [List.all_cons, Bool.and_eq_true] at c7 c8
              have q3 := (q1.cells (by simpa using c7.1)).1
              have q4 : some d.width = tyElem P t := by simpa using c8.1
              rw [hsz] at q4; simp at q4; omega
          subst hzz
          generalize hlo : lo'.getD 0 = A at *
          generalize hhi : hi'.getD (l.length : Int) = H at *
          by_cases he : A = H
          · -- nothing is left
            subst he
            have : (l.drop A.toNat).take (A - A).toNat = [] := by simp
            rw [this]
            simp only [Nat.sub_self]
            refine .slE _ _ _ fun hf => ?_
            rcases sliceTag_full hf with h | ⟨h, h'⟩
            · simp [h]
            · have := of_decide_eq_true h'; rw [g3 h]; split <;> omega
          · have hAH : A < H := by omega
            have hm' : ¬ (if mx'.isSome then H.toNat else cap) = A.toNat := by split <;> omega
            rw [if_neg hm']
            simp only [Option.map_some, Addr.add_lit]
            rw [← hl']
            refine .sl _ _ b (o + A.toNat * sz') sz' _ (fun i => vs (A.toNat + i)) (by intro e; rw [e] at hl'; simp at hl'; omega) (by rw [hl']; split <;> omega) ?_ g4 ?_ g6 ?_ ?_
            · intro hf
              rw [hl']
              rcases sliceTag_full hf with h | ⟨h, h'⟩
              · simp [h]
              · have := of_decide_eq_true h'; rw [g3 h]; split <;> omega
            · intro hf
              exact g5 (sliceTag_lent hf)
            · intro i d hd; exact g7 _ d (drop_take_get hd)
            · intro i hi
              rw [hl'] at hi
              obtain ⟨p1, p2⟩ := g8 (A.toNat + i) (by omega)
              refine ⟨p1, fun q y hy => ?_⟩
              have := p2 q y hy
              rw [Nat.add_mul] at this
              rw [show o + A.toNat * sz' + i * sz' + q = o + (A.toNat * sz' + i * sz') + q by omega]; exact this
      · cases ha
    | str s =>
      dsimp only at ha
      split at ha
      · rename_i hc
        obtain ⟨c1, rfl, c2, c3, c4⟩ := hc
        injection ha with ha; subst ha
        have hr := hx.dat
        cases hr
        have hu : P.underlying t = some .string := by
          unfold tyStr at c1; split at c1 <;> simp_all
        rcases optD_val h3 v3 with ⟨_, rfl⟩ | ⟨_, _, e, _⟩
        · have hb := bounds_run (P := P) (w := w) (isSlice := false) (len := s.size) (cap := s.size) h1 h2 h3 v1 v2 v3 (Nat.le_refl _) c2 c3 c4 (by simp) (by simp)
          refine ⟨.string (s.extract (lo'.getD 0).toNat (hi'.getD ↑s.size).toNat), ?_, .d _ _ (.str _)⟩
          simp [Instr.sliceAt, Instr.slice, ty_und hu, hb]
        · cases e
      · cases ha
    | _ => cases ha
  | ref g n off len =>
    dsimp only at ha
    cases ht : tyElem P t with
    | none => rw [ht] at ha; cases ha
    | some sz =>
    cases hy : Lr.get g n with
    | arr sz' els lv =>
      rw [ht, hy] at ha
      dsimp only at ha
      split at ha
      · rename_i hc
        obtain ⟨rfl, rfl, c2, c3, c4⟩ := hc
        injection ha with ha; subst ha
        have hL := hs g n (by rw [hy]; simp)
        rw [hy] at hL
        cases hx with
        | ref _ _ _ _ _ k1 k2 =>
          obtain ⟨p1, a, cap, rfl, p3, p4⟩ := k2 _ _ _ hL
          have hb := bounds_run (P := P) (w := w) (isSlice := true) (len := len) (cap := cap) h1 h2 h3 v1 v2 v3 p3 c2 c3 c4 (by simp) (by simp)
          refine ⟨_, sliceAt_slice ht hb, .ref _ _ _ _ _ k1 fun sz2 els2 l2 h2' => ?_⟩
          rw [hL] at h2'; cases h2'
          generalize hlo : lo'.getD 0 = A at *
          generalize hhi : hi'.getD (len : Int) = H at *
          refine ⟨by omega, _, cap - A.toNat, by rw [show (H - A).toNat = H.toNat - A.toNat by omega]; rfl, by omega, ?_⟩
          rcases p4 with p4 | ⟨b, y, T, fz, q1, rfl, q3, q4⟩
          · exact .inl (by omega)
          · by_cases hcap : cap = A.toNat
            · exact .inl (by omega)
            · refine .inr ⟨b, y, T, fz, q1, ?_, q3, ?_⟩
              · simp [hcap, Addr.add_lit]
                rw [Nat.add_mul]
              · rw [show off + A.toNat + (cap - A.toNat) = off + cap by omega]; exact q4
      · cases ha
    | _ => rw [ht, hy] at ha; cases ha
  | ptr g n off =>
    dsimp only at ha
    split at ha
    · rename_i k sz ag ad ds ht hy
      split at ha
      · rename_i hc
        obtain ⟨c0, rfl, rfl, c2, c3, c4, c5⟩ := hc
        injection ha with ha; subst ha
        have hL := hs g n (by rw [hy]; simp)
        rw [hy] at hL
        obtain ⟨e, hu, he, _⟩ := ty_arr ht
        cases hx with
        | ptr _ _ _ _ k1 k2 =>
          obtain ⟨b, q1, rfl⟩ := k2 (by rw [hL]; simp)
          rcases optD_val h3 v3 with ⟨_, rfl⟩ | ⟨_, _, e, _⟩
          · have hb := bounds_run (P := P) (w := w) (isSlice := false) (len := k) (cap := k) h1 h2 h3 v1 v2 v3 (Nat.le_refl _) c2 c3 c4 (by simp) (by simp)
            generalize hlo : lo'.getD 0 = A at *
            generalize hhi : hi'.getD (k : Int) = H at *
            simp only [Option.isSome_none, Bool.false_eq_true, if_false] at hb
            refine ⟨.slice (some (if k = A.toNat then ⟨b, 0, none⟩ else ⟨b, A.toNat, none⟩)) (H.toNat - A.toNat) (k - A.toNat), ?_, .bref _ _ _ _ _ k1 fun k' hk => ?_⟩
            · simp [Instr.sliceAt, ty_und hu, Instr.sureAddr, hb, ty_size he, Addr.add_lit]
            · rw [hL] at hk; simp [HObj.boxLen] at hk; subst hk
              refine ⟨by omega, b, q1, ?_⟩
              rw [← c0, show (H - A).toNat = H.toNat - A.toNat by omega]
              congr 2
              split
              · rename_i e
                have : A.toNat = 0 := by omega
                rw [this]
              · rfl
          · cases e
      · cases ha
    all_goals cases ha
  | _ => cases ha

end
end Wf

/-
  What operations do: rows that are read whole; append.
-/
namespace Wf
open Go Go.RowKit

/-- A row of elements in an array of cells. -/
def RowIn (w : World) (A : Nat → Prop) (N : Nat) (γ : Nat → Option Addr) (sz : Nat) (els : List D) (x : Array Value) : Prop :=
  ∃ vs : Nat → Value, ∀ (i : Nat) (d : D), els[i]? = some d → Rep w A N γ d (vs i) ∧ (vs i).cells.size = sz ∧ ∀ (q : Nat) (u : Value), (vs i).cells[q]? = some u → x[i * sz + q]? = some u

section
variable {M : GM} {c : Ctx} {N : Nat} {w0 : World} {O0 : Nat → Prop} {L Lr : Loc} {G : M.S} {w : World}

/-- The elements of a slice, in memory. -/
theorem els_ok (hm : Mem M c N w0 O0 L G w) (hs : Sees Lr L) {v : V} {u : Value} {l : List D} (he : elsOf Lr v = some l) (hv : Val c L w N v u) :
    ∃ a cap, u = .slice a l.length cap ∧ l.length ≤ cap ∧ (l = [] ∨ ∃ b o sz, ∃ vs : Nat → Value, a = some ⟨b, o, none⟩ ∧ b < w.heap.size ∧ ¬ c.O b ∧
      ∀ (i : Nat) (d : D), l[i]? = some d → Rep w (own c L) N c.γ d (vs i) ∧ (vs i).cells.size = sz ∧ cellsAt w b (o + i * sz) (vs i)) := by
  have he := hs.els he
  cases v with
  | d y =>
    cases y with
    | sl t l' =>
      simp [elsOf] at he; subst he
      have hr := hv.dat
      cases hr with
      | slE _ a cap _ => exact ⟨a, cap, rfl, by simp, .inl rfl⟩
      | sl _ _ b o sz cap vs g1 g2 g3 g4 g5 g6 g7 g8 =>
        refine ⟨_, cap, rfl, g2, .inr ⟨b, o, sz, vs, rfl, g6, fun h => g4 (.inl h), fun i d hd => ?_⟩⟩
        have hi : i < l'.length := by
          rcases Nat.lt_or_ge i l'.length with h | h
          · exact h
          · rw [List.getElem?_eq_none h] at hd; cases hd
        exact ⟨g7 i d hd, (g8 i hi).1, (g8 i hi).2⟩
    | _ => cases he
  | ref g n off len =>
    simp only [elsOf] at he
    cases hx : L.get g n with
    | arr sz els lv =>
      rw [hx] at he
      dsimp only at he
      split at he
      · rename_i hle
        injection he with he; subst he
        cases hv with
        | ref _ _ _ _ _ k1 k2 =>
          obtain ⟨_, a, cap, rfl, h4, h5⟩ := k2 _ _ _ hx
          have hlen : ((els.drop off).take len).length = len := by simp; omega
          refine ⟨a, cap, by rw [hlen], by rw [hlen]; exact h4, ?_⟩
          by_cases h0 : len = 0
          · exact .inl (by subst h0; simp)
          · rcases h5 with h5 | ⟨b, y, T, fz, q1, rfl, q3, q4⟩
            · omega
            · have hob := hm.get hx (by simp)
              rw [q1] at hob
              obtain ⟨x', T', fz', g2, g3, g4, us, g5⟩ := hob
              obtain ⟨_, e2⟩ := get_at hx (by simp)
              have hmine := hm.mine g b q1 (by rw [e2]; simp)
              refine .inr ⟨b, off * sz, sz, fun i => us (off + i), rfl, hmine.2.1, hmine.2.2, fun i d hd => ?_⟩
              obtain ⟨p1, p2, p3⟩ := g5 _ d (drop_take_get hd)
              refine ⟨p1, p2, fun q u hu => ?_⟩
              have := p3 q u hu
              rwa [Nat.add_mul] at this
      · cases he
    | _ => rw [hx] at he; cases he
  | bref g n off len =>
    simp only [elsOf] at he
    cases hx : L.get g n with
    | box ag ds =>
      rw [hx] at he
      dsimp only at he
      split at he
      · rename_i hle
        injection he with he; subst he
        cases hv with
        | bref _ _ _ _ _ k1 k2 =>
          obtain ⟨p1, b, p2, rfl⟩ := k2 _ (by rw [hx]; rfl)
          have hlen : ((ds.drop off).take len).length = len := by simp; omega
          obtain ⟨b', x, T, fz, h1, h2, h3, h4, h5⟩ := hm.get hx (by simp)
          rw [p2] at h1; cases h1
          obtain ⟨_, e2⟩ := get_at hx (by simp)
          have hmine := hm.mine g b p2 (by rw [e2]; simp)
          refine ⟨_, _, by rw [hlen], by rw [hlen]; omega, .inr ⟨b, off, 1, fun i => x.getD (off + i) undef, rfl, hmine.2.1, hmine.2.2, fun i d hd => ?_⟩⟩
          have hd' := drop_take_get hd
          have hi : off + i < x.size := by
            rcases Nat.lt_or_ge (off + i) ds.length with h | h
            · omega
            · rw [List.getElem?_eq_none h] at hd'; cases hd'
          have hxi : x[off + i]? = some (x.getD (off + i) undef) := by simp [hi]
          obtain ⟨r1, r2⟩ := h5 _ d _ hd' hxi
          refine ⟨r1, by rw [cells_of_one r2]; rfl, fun q u hu => ?_⟩
          rw [cells_of_one r2] at hu
          cases q with
          | zero =>
            simp only [List.getElem?_toArray, List.getElem?_cons_zero, Option.some.injEq] at hu
            rw [Nat.mul_one, Nat.add_zero]
            refine cells_in h2 ?_
            rw [← hu]; exact hxi
          | succ q => simp at hu
      · cases he
    | _ => rw [hx] at he; cases he
  | _ => cases he

theorem okEls_spec {sz : Nat} {l : List D} (h : okEls sz l = true) {i : Nat} {d : D} (hd : l[i]? = some d) : d.width = sz ∧ (d.cell = true ∨ d.isAgg = true) := by
  unfold okEls at h
  rw [List.all_eq_true] at h
  have := h d (List.mem_of_getElem? hd)
  simpa using this

theorem firstCells_of {P : Program} {A : Nat → Prop} {γ : Nat → Option Addr} {l : List D} {b o sz cap : Nat} {vs : Nat → Value}
    (h : ∀ (i : Nat) (d : D), l[i]? = some d → Rep w A N γ d (vs i) ∧ (vs i).cells.size = sz ∧ cellsAt w b (o + i * sz) (vs i)) :
    ∃ x, (∀ w' : World, (∀ a, w'.cell? a = w.cell? a) → (Builtin.firstCells sz l.length (.slice (some ⟨b, o, none⟩) l.length cap)).run P w' = .ok x w') ∧ x.size = l.length * sz ∧ RowIn w A N γ sz l x ∧
      ∀ (k : Nat) (y : Value), x[k]? = some y → ∃ (i : Nat) (d : D) (q : Nat), l[i]? = some d ∧ (vs i).cells[q]? = some y := by
  let f : Nat → Value := fun k => ((vs (k / sz)).cells[k % sz]?).getD undef
  have hf : ∀ (i q : Nat) (d : D) (u : Value), l[i]? = some d → (vs i).cells[q]? = some u → f (i * sz + q) = u := by
    intro i q d u hd hu
    have hq : q < sz := by
      rcases Nat.lt_or_ge q (vs i).cells.size with h' | h'
      · rw [(h i d hd).2.1] at h'; exact h'
      · rw [Array.getElem?_eq_none h'] at hu; cases hu
    have e1 : (i * sz + q) / sz = i := by
      rw [Nat.mul_comm, Nat.mul_add_div (by omega), Nat.div_eq_of_lt hq]; omega
    have e2 : (i * sz + q) % sz = q := by rw [Nat.mul_comm, Nat.mul_add_mod, Nat.mod_eq_of_lt hq]
    simp only [f, e1, e2, hu, Option.getD_some]
  have hk : ∀ k, k < l.length * sz → ∃ d u, l[k / sz]? = some d ∧ (vs (k / sz)).cells[k % sz]? = some u ∧ k = k / sz * sz + k % sz := by
    intro k hk
    have h0 : 0 < sz := by
      rcases Nat.eq_zero_or_pos sz with h' | h'
      · rw [h'] at hk; simp at hk
      · exact h'
    have h1 : k / sz < l.length := by rw [Nat.div_lt_iff_lt_mul h0]; exact hk
    have h2 : k % sz < (vs (k / sz)).cells.size := by rw [(h _ _ (List.getElem?_eq_getElem h1)).2.1]; exact Nat.mod_lt _ h0
    exact ⟨_, _, List.getElem?_eq_getElem h1, Array.getElem?_eq_getElem h2, by rw [Nat.mul_comm]; exact (Nat.div_add_mod k sz).symm⟩
  refine ⟨((List.range (l.length * sz)).map f).toArray, ?_, by simp, ⟨vs, fun i d hd => ⟨(h i d hd).1, (h i d hd).2.1, fun q u hu => ?_⟩⟩, ?_⟩
  · intro w' hw'
    simp only [Builtin.firstCells]
    refine run_loadCells w' _ _ f fun j hj => ?_
    rw [hw']
    obtain ⟨d, u, h1, h2, h3⟩ := hk j hj
    have := (h _ d h1).2.2 _ u h2
    rw [Addr.add_lit]
    have e : f j = u := by rw [h3]; exact hf _ _ d u h1 h2
    rw [e]
    rw [show o + j = o + j / sz * sz + j % sz by omega]; exact this
  · have hi : i < l.length := by
      rcases Nat.lt_or_ge i l.length with h' | h'
      · exact h'
      · rw [List.getElem?_eq_none h'] at hd; cases hd
    have hq : q < sz := by
      rcases Nat.lt_or_ge q (vs i).cells.size with h' | h'
      · rw [(h i d hd).2.1] at h'; exact h'
      · rw [Array.getElem?_eq_none h'] at hu; cases hu
    have hlt : i * sz + q < l.length * sz := by
      have : (i + 1) * sz ≤ l.length * sz := Nat.mul_le_mul_right _ hi
      rw [Nat.succ_mul] at this; omega
    simp [hlt, hf i q d u hd hu]
  · intro k y hy
    have hlt : k < l.length * sz := by
      rcases Nat.lt_or_ge k (l.length * sz) with h' | h'
      · exact h'
      · rw [Array.getElem?_eq_none (by simpa using h')] at hy; cases hy
    obtain ⟨d, u, h1, h2, h3⟩ := hk k hlt
    simp [hlt] at hy
    rw [h3, hf _ _ d u h1 h2] at hy
    subst hy
    exact ⟨_, d, _, h1, h2⟩

/-- All cells of a slice, read. -/
theorem firstCells_ok {P : Program} (hm : Mem M c N w0 O0 L G w) (hs : Sees Lr L) {v : V} {u : Value} {l : List D} {sz : Nat} (he : elsOf Lr v = some l) (hv : Val c L w N v u) (hok : okEls sz l = true) :
    ∃ x, (∀ w' : World, (∀ a, w'.cell? a = w.cell? a) → (Builtin.firstCells sz l.length u).run P w' = .ok x w') ∧ x.size = l.length * sz ∧ RowIn w (own c L) N c.γ sz l x ∧ ∀ (k : Nat) (y : Value), x[k]? = some y → y.oneCell' = true := by
  obtain ⟨a, cap, rfl, hc, h⟩ := els_ok hm hs he hv
  rcases h with rfl | ⟨b, o, sz', vs, rfl, hb, _, h⟩
  · refine ⟨#[], ?_, by simp, ⟨fun _ => undef, by simp⟩, by simp⟩
    intro w' _
    cases a with
    | none => simp [Builtin.firstCells]
    | some a => simp [Builtin.firstCells, loadCells, loadCellsFrom]
  · by_cases h0 : l = []
    · subst h0
      exact ⟨#[], fun w' _ => by simp [Builtin.firstCells, loadCells, loadCellsFrom], by simp, ⟨fun _ => undef, by simp⟩, by simp⟩
    · have hsz : ∀ (i : Nat) (d : D), l[i]? = some d → (vs i).cells.size = sz ∧ ∀ (q : Nat) (u : Value), (vs i).cells[q]? = some u → u.oneCell' = true := by
        intro i d hd
        obtain ⟨h1, h2⟩ := okEls_spec hok hd
        have := ((h i d hd).1).cells h2
        exact ⟨by omega, this.2⟩
      have hzz : sz' = sz := by
        cases l with
        | nil => exact absurd rfl h0
        | cons d r => rw [← (h 0 d (by simp)).2.1]; exact (hsz 0 d (by simp)).1
      subst hzz
      obtain ⟨x, h1, h2, h3, h4⟩ := firstCells_of (P := P) (cap := cap) h
      refine ⟨x, h1, h2, h3, fun k y hy => ?_⟩
      obtain ⟨i, d, q, p1, p2⟩ := h4 k y hy
      exact (hsz i d p1).2 q y p2

theorem nextslicecap_le (n c : Nat) (h : c < n) : Builtin.nextslicecap n c ≤ 2 * n + 2000 := by
  have hg : ∀ r c, Builtin.growBy n r c ≤ max c (2 * n + 2000) := by
    intro r
    induction r with
    | zero => intro c; simp only [Builtin.growBy]; omega
    | succ r ih =>
      intro c
      simp only [Builtin.growBy]
      split
      · omega
      · have := ih (c + (c + 768) / 4); omega
  unfold Builtin.nextslicecap
  split
  · omega
  · split
    · omega
    · have := hg 4 c; omega

theorem append_ty {P : Program} {ty n sz : Nat} (h : appendTy P ty n = some sz) : ∃ e i z zv, P.underlying ty = some (.slice e) ∧ P.info? e = some i ∧ i.size = sz ∧ i.zero = some zv ∧ valD zv = some z ∧
    0 < sz ∧ z.width = sz ∧ (z.cell || z.isAgg) = true ∧ i.bytes ≤ 4096 ∧ n ≤ 2 ^ 32 := by
  unfold appendTy at h
  split at h
  · rename_i e hu
    cases hi : P.info? e with
    | none => rw [hi] at h; cases h
    | some i =>
    cases hz : tyZero P e with
    | none => rw [hi, hz] at h; cases h
    | some z =>
      rw [hi, hz] at h
      dsimp only at h
      split at h
      · rename_i hc
        injection h with h; subst h
        unfold tyZero at hz
        rw [hi] at hz
        simp only [Option.bind_some] at hz
        cases hzz : i.zero with
        | none => rw [hzz] at hz; cases hz
        | some zv => rw [hzz] at hz; exact ⟨e, i, z, zv, hu, hi, rfl, hzz, hz, hc⟩
      · cases h
  · cases h

theorem valD_cells {v : Value} {d : D} (h : valD v = some d) : v.cells.size = d.width ∧ ((d.cell || d.isAgg) = true → ∀ (i : Nat) (u : Value), v.cells[i]? = some u → u.oneCell' = true) ∧ ∀ w A N γ, Rep w A N γ d v := by
  have one : ∀ {v : Value} {d : D}, cellD v = some d → d.cell = true ∧ v.oneCell' = true ∧ d.width = 1 ∧ ∀ w A N γ, Rep w A N γ d v := by
    intro v d hd
    cases v with
    | int k n => simp [cellD] at hd; subst hd; exact ⟨rfl, rfl, rfl, fun _ _ _ _ => .int _ _⟩
    | bool b => simp [cellD] at hd; subst hd; exact ⟨rfl, rfl, rfl, fun _ _ _ _ => .bool _⟩
    | string s => simp [cellD] at hd; subst hd; exact ⟨rfl, rfl, rfl, fun _ _ _ _ => .str _⟩
    | pointer a => cases a <;> simp [cellD] at hd; subst hd; exact ⟨rfl, rfl, rfl, fun _ _ _ _ => .nilp⟩
    | slice a l k =>
      cases a with
      | some a => simp [cellD] at hd
      | none =>
        cases l with
        | succ l => simp [cellD] at hd
        | zero =>
          cases k with
          | succ k => simp [cellD] at hd
          | zero => simp [cellD] at hd; subst hd; exact ⟨rfl, rfl, rfl, fun _ _ _ _ => .slE _ _ _ (fun _ => rfl)⟩
    | nilFunc => simp [cellD] at hd; subst hd; exact ⟨rfl, rfl, rfl, fun _ _ _ _ => .nilfn⟩
    | _ => simp [cellD] at hd
  by_cases hag : ∃ cs, v = .agg cs
  · obtain ⟨cs, rfl⟩ := hag
    simp only [valD] at h
    cases hm : cs.toList.mapM cellD with
    | none => rw [hm] at h; cases h
    | some ds =>
      rw [hm] at h; simp at h; subst h
      have key : ∀ (l : List Value) (ds : List D), l.mapM cellD = some ds → l.length = ds.length ∧ ∀ (i : Nat) (d : D) (v : Value), ds[i]? = some d → l[i]? = some v → cellD v = some d := by
        intro l
        induction l with
        | nil => intro ds h; simp at h; subst h; simp
        | cons v l ih =>
          intro ds h
          simp only [List.mapM_cons] at h
          cases h1 : cellD v with
          | none => rw [h1] at h; cases h
          | some d =>
            rw [h1] at h
            cases h2 : l.mapM cellD with
            | none => rw [h2] at h; cases h
            | some r =>
              rw [h2] at h
              injection h with h; subst h
              obtain ⟨p1, p2⟩ := ih r h2
              refine ⟨by simp [p1], fun i d' v' hd hv => ?_⟩
              cases i with
              | zero => simp at hd hv; subst hd; subst hv; exact h1
              | succ i => exact p2 i d' v' (by simpa using hd) (by simpa using hv)
      obtain ⟨p1, p2⟩ := key _ _ hm
      have hsz : cs.size = ds.length := by simpa using p1
      refine ⟨by simp [Value.cells, D.width, hsz], fun _ i u hu => ?_, fun w A N γ => .agg _ _ hsz ?_ ?_⟩
      · simp only [Value.cells] at hu
        have hi : i < ds.length := by
          rcases Nat.lt_or_ge i cs.size with h' | h'
          · omega
          · rw [Array.getElem?_eq_none h'] at hu; cases hu
        exact (one (p2 i _ u (List.getElem?_eq_getElem hi) (by simpa using hu))).2.1
      · intro i d v hd hv; exact (one (p2 i d v hd (by simpa using hv))).2.2.2 _ _ _ _
      · intro i u hu
        have hi : i < ds.length := by
          rcases Nat.lt_or_ge i cs.size with h' | h'
          · omega
          · rw [Array.getElem?_eq_none h'] at hu; cases hu
        exact (one (p2 i _ u (List.getElem?_eq_getElem hi) (by simpa using hu))).2.1
  · have h' : cellD v = some d := by
      cases v <;> first | exact h | exact absurd ⟨_, rfl⟩ hag
    obtain ⟨h1, h2, h3, h4⟩ := one h'
    refine ⟨by rw [cells_of_one h2, h3]; rfl, fun _ i u hu => ?_, h4⟩
    rw [cells_of_one h2] at hu
    cases i with
    | zero => simp at hu; subst hu; exact h2
    | succ i => simp at hu

end
end Wf

/-
  What operations do: new memory.
-/
namespace Wf
open Go Go.RowKit

section
variable {M : GM} {c : Ctx} {N : Nat} {w0 : World} {O0 : Nat → Prop} {L Lr : Loc} {G : M.S} {w : World}

theorem Mem.drew (hM : M.Ok) (h : Mem M c N w0 O0 L G w) : Mem M c N w0 O0 L G w.drew ∧ Grow c L w c L w.drew := by
  have hg : Grow c L w c L w.drew := ⟨Nat.le_refl _, fun _ _ _ => rfl, fun _ _ h => h, fun _ _ h => h, fun _ y _ fz h _ => ⟨y, fz, h, rfl⟩, fun _ => Nat.le_refl _, fun _ _ => .inr ⟨rfl, Compat.refl _⟩⟩
  exact ⟨⟨fun g => (h.obj g).grow hg fun _ _ _ => rfl, h.inj, h.mine, hM.stable h.glob (fun _ _ => rfl) (Nat.le_refl _), h.size, h.size0, h.os, h.tape, h.output, h.keep, h.osub⟩, hg⟩

/-- A new row at a place. -/
theorem new_row (hM : M.Ok) (hm : Mem M c N w0 O0 L G w) {t sz : Nat} {els : List D} {x : Array Value} {T : TypeId} {wr : Wr} (hr : RowIn w (own c (L.upd wr)) N c.γ sz els x) {cap : Nat}
    (hm' : Mem M c N w0 O0 (L.upd wr) G w) (hg' : Grow c L w c (L.upd wr) w) (ht : (L.upd wr t).1 < L.new t) (hcap : cap * sz ≤ x.size) (hle : els.length ≤ cap) :
    Did M c N w0 O0 L G w { v := .ref t (L.new t) 0 els.length, wr := wr ++ [(t, (L.new t, .arr sz els true))] } (.slice (some ⟨w.heap.size, 0, none⟩) els.length cap) (w.alloc (.cells x T)) := by
  have hg := Grow.alloc hm' (.cells x T) t (L.new t) (.arr sz els true) ht
  have hcell : ∀ k, (w.alloc (.cells x T)).cell? ⟨w.heap.size, k, none⟩ = x[k]? := fun k => World.cell?_alloc_new w x T k
  have hheap : (w.alloc (.cells x T)).heap[w.heap.size]? = some (.cells x T) := by
    show (w.heap.push (.cells x T))[w.heap.size]? = _
    simp
  have hmm := Mem.alloc hM hm' (.cells x T) t (L.new t) (.arr sz els true) ht (by
    obtain ⟨vs, hvs⟩ := hr
    refine ⟨x, T, (0, 0), hheap, fun i _ => World.frozen?_alloc_new w x T i, ?_, vs, fun i d hd => ?_⟩
    · exact Nat.le_trans (Nat.mul_le_mul_right _ hle) hcap
    · obtain ⟨p1, p2, p3⟩ := hvs i d hd
      exact ⟨p1.grow hg, p2, fun q u hu => by rw [hcell]; simpa using p3 q u hu⟩)
  refine ⟨c.at t (some w.heap.size), ?_, ?_, ?_⟩
  · rw [Loc.upd_append]; exact hmm
  · rw [Loc.upd_append]; exact hg'.trans hg
  · rw [Loc.upd_append]
    refine .ref _ _ _ _ _ (by simp [Loc.upd, Loc.set_same]) fun sz' els' l' h => ?_
    simp only [Loc.upd, Loc.get, Loc.set_same, if_true] at h
    cases h
    refine ⟨by omega, _, cap, rfl, hle, ?_⟩
    by_cases hc : cap = 0
    · exact .inl hc
    · exact .inr ⟨w.heap.size, x, T, (0, 0), by simp [Ctx.at], by simp, hheap, by simpa using hcap⟩

/-- A row goes on, in its own block, at another place. -/
theorem more_row (hM : M.Ok) (hm : Mem M c N w0 O0 L G w) {g n t sz len cap : Nat} {els xs : List D} {b : Nat} {x : Array Value} {T : TypeId} {fz : Nat × Nat} {new : Array Value}
    (hL : L.get g n = .arr sz els true) (hι : c.ι g = some b) (hb : w.heap[b]? = some (.cells x T fz)) (hlen : len = els.length) (hcap : cap * sz ≤ x.size) (hle : len + xs.length ≤ cap)
    (hr : RowIn w (own c L) N c.γ sz xs new) (hnew : new.size = xs.length * sz) :
    Did M c N w0 O0 L G w { v := .ref t (L.new t) 0 (len + xs.length), wr := [(g, (n, .dead)), (t, (L.new t, .arr sz (els ++ xs) true))] } (.slice (some ⟨b, 0, none⟩) (len + xs.length) cap)
      (put w b (splice x (len * sz) new.toList) T fz) := by
  obtain ⟨e1, e2⟩ := get_at hL (by simp)
  have hob := hm.get hL (by simp)
  rw [hι] at hob
  obtain ⟨x', T', fz', g2, g3, g4, us, g5⟩ := hob
  rw [hb] at g2; cases g2
  have hmine := hm.mine g b hι (by rw [e2]; simp)
  have hroom : len * sz + new.toList.length ≤ x.size := by
    have : (len + xs.length) * sz ≤ cap * sz := Nat.mul_le_mul_right _ hle
    rw [Nat.add_mul] at this
    simp; omega
  have hsz : (splice x (len * sz) new.toList).size = x.size := splice_size hroom
  have hw : ∀ k, k ≠ b → (put w b (splice x (len * sz) new.toList) T fz).heap[k]? = w.heap[k]? := fun k hk => by rw [put_heap (lt_of_heap hb)]; simp [hk]
  have hbb : (put w b (splice x (len * sz) new.toList) T fz).heap[b]? = some (.cells (splice x (len * sz) new.toList) T fz) := by rw [put_heap (lt_of_heap hb)]; simp
  have hps : (put w b (splice x (len * sz) new.toList) T fz).heap.size = w.heap.size := by simp [put]
  let L2 : Loc := (L.set g (n, .dead)).set t (L.new t, .arr sz (els ++ xs) true)
  have h2t : L2 t = (L.new t, .arr sz (els ++ xs) true) := Loc.set_same _ _ _
  have h2g : g ≠ t → L2 g = (n, .dead) := fun e => by show ((L.set g (n, .dead)).set t _) g = _; rw [Loc.set_ne _ _ e, Loc.set_same]
  have h2 : ∀ k, k ≠ t → k ≠ g → L2 k = L k := fun k e e' => by show ((L.set g (n, .dead)).set t _) k = _; rw [Loc.set_ne _ _ e, Loc.set_ne _ _ e']
  let c2 : Ctx := c.at t (some b)
  have hc2t : c2.ι t = some b := by simp [c2, Ctx.at]
  have hc2 : ∀ k, k ≠ t → c2.ι k = c.ι k := fun k e => by simp [c2, Ctx.at, e]
  have hold : ∀ k, (L2 k).2 ≠ .dead → k ≠ t → (L k).2 ≠ .dead ∧ k ≠ g := by
    intro k hk e
    by_cases e' : k = g
    · subst e'; rw [h2g e] at hk; exact absurd rfl hk
    · rw [h2 k e e'] at hk; exact ⟨hk, e'⟩
  have hg : Grow c L w c2 L2 (put w b (splice x (len * sz) new.toList) T fz) := by
    refine ⟨by omega, ?_, ?_, fun _ _ h => h, ?_, ?_, ?_⟩
    · intro k hk _
      refine hw k fun e => hk (.inr ⟨g, by rw [e]; exact hι, by rw [e2]; rfl⟩)
    · rintro k _ (hO | ⟨g', q1, q2⟩)
      · exact .inl hO
      · by_cases e : g' = t
        · subst e; rw [hc2t] at q1; cases q1
          exact .inr ⟨g, hι, by rw [e2]; rfl⟩
        · have hd : (L2 g').2 ≠ .dead := by intro e'; rw [e'] at q2; cases q2
          obtain ⟨_, e'⟩ := hold g' hd e
          rw [h2 g' e e'] at q2
          exact .inr ⟨g', by rw [← hc2 g' e]; exact q1, q2⟩
    · intro k y T' fz' hk _
      by_cases e : k = b
      · subst e; rw [hb] at hk; cases hk; exact ⟨_, _, hbb, hsz⟩
      · exact ⟨y, fz', by rw [hw k e]; exact hk, rfl⟩
    · intro k
      by_cases e : k = t
      · subst e; rw [h2t]; simp [Loc.new]
      · by_cases e' : k = g
        · subst e'; rw [h2g e]; simp [e1]
        · rw [h2 k e e']; exact Nat.le_refl _
    · intro k hk
      by_cases e : k = t
      · subst e; rw [h2t] at hk; simp [Loc.new] at hk
      · by_cases e' : k = g
        · subst e'; rw [h2g e]; exact .inl rfl
        · rw [h2 k e e', hc2 k e]; exact .inr ⟨rfl, Compat.refl _⟩
  have hmm : Mem M c2 N w0 O0 L2 G (put w b (splice x (len * sz) new.toList) T fz) := by
    refine ⟨?_, ?_, ?_, ?_, by rw [hps]; exact hm.size, hm.size0, hm.os, hm.tape, hm.output, ?_, fun y hy => by rw [hps]; exact hm.osub y hy⟩
    · intro k
      by_cases e : k = t
      · subst e
        rw [hc2t, h2t]
        obtain ⟨vs, hvs⟩ := hr
        refine ⟨_, T, fz, hbb, fun i hi => by rw [frozen_put hb]; exact g3 i (by omega), ?_, fun i => if i < len then us i else vs (i - len), fun i d hd => ?_⟩
        · rw [hsz, List.length_append, ← hlen]
          exact Nat.le_trans (Nat.mul_le_mul_right _ hle) hcap
        · by_cases hi : i < len
          · rw [List.getElem?_append_left (by omega)] at hd
            obtain ⟨p1, p2, p3⟩ := g5 i d hd
            simp only [hi, if_true]
            refine ⟨p1.grow hg, p2, fun q u hu => ?_⟩
            have hq : q < sz := by
              rcases Nat.lt_or_ge q (us i).cells.size with h' | h'
              · omega
              · rw [Array.getElem?_eq_none h'] at hu; cases hu
            rw [put_cell hb, splice_at hroom, if_neg]
            · have := p3 q u hu
              simpa [World.cell?, hb] using this
            · have : (i + 1) * sz ≤ len * sz := Nat.mul_le_mul_right _ hi
              rw [Nat.succ_mul] at this; omega
          · rw [List.getElem?_append_right (by omega), ← hlen] at hd
            obtain ⟨p1, p2, p3⟩ := hvs (i - len) d hd
            simp only [hi, if_false]
            refine ⟨p1.grow hg, p2, fun q u hu => ?_⟩
            have h3 := p3 q u hu
            have hj : i - len < xs.length := by
              rcases Nat.lt_or_ge (i - len) xs.length with h' | h'
              · exact h'
              · rw [List.getElem?_eq_none h'] at hd; cases hd
            have hq : q < sz := by
              rcases Nat.lt_or_ge q (vs (i - len)).cells.size with h' | h'
              · omega
              · rw [Array.getElem?_eq_none h'] at hu; cases hu
            have hi2 : i * sz = len * sz + (i - len) * sz := by rw [← Nat.add_mul]; congr 1; omega
            have hlt : (i - len) * sz + q < xs.length * sz := by
              have : (i - len + 1) * sz ≤ xs.length * sz := Nat.mul_le_mul_right _ hj
              rw [Nat.succ_mul] at this; omega
            rw [put_cell hb, splice_at hroom, if_pos (by simp; omega), show i * sz + q - len * sz = (i - len) * sz + q by omega]
            simpa using h3
      · rw [hc2 k e]
        by_cases e' : k = g
        · subst e'; rw [h2g e]; trivial
        · rw [h2 k e e']
          exact (hm.obj k).grow hg fun y hy hd => hw y fun e3 => e' (hm.inj k g b (by rw [← e3]; exact hy) hι hd (by rw [e2]; simp))
    · intro k k' y q1 q2 q3 q4
      by_cases e : k = t <;> by_cases e' : k' = t
      · rw [e, e']
      · subst e
        rw [hc2t] at q1; cases q1
        obtain ⟨p1, p2⟩ := hold k' q4 e'
        rw [hc2 k' e'] at q2
        exact absurd (hm.inj k' g b q2 hι p1 (by rw [e2]; simp)) p2
      · subst e'
        rw [hc2t] at q2; cases q2
        obtain ⟨p1, p2⟩ := hold k q3 e
        rw [hc2 k e] at q1
        exact absurd (hm.inj k g b q1 hι p1 (by rw [e2]; simp)) p2
      · rw [hc2 k e] at q1; rw [hc2 k' e'] at q2
        exact hm.inj k k' y q1 q2 (hold k q3 e).1 (hold k' q4 e').1
    · intro k y q1 q2
      rw [hps]
      by_cases e : k = t
      · subst e; rw [hc2t] at q1; cases q1; exact hmine
      · rw [hc2 k e] at q1; exact hm.mine k y q1 (hold k q2 e).1
    · exact hM.stable hm.glob (fun y hy => hw y fun e => hmine.2.2 (e ▸ hy)) (by omega)
    · intro y hy hO; rw [hw y (by omega)]; exact hm.keep y hy hO
  refine ⟨c2, hmm, hg, .ref _ _ _ _ _ (by show _ ≤ (L2 t).1; rw [h2t]; exact Nat.le_refl _) fun sz' els' l' h => ?_⟩
  have h' : L2.get t (L.new t) = .arr sz' els' l' := h
  unfold Loc.get at h'
  rw [h2t] at h'
  simp at h'
  obtain ⟨rfl, rfl, rfl⟩ := h'
  refine ⟨by simp; omega, _, cap, rfl, by omega, ?_⟩
  by_cases hc : cap = 0
  · exact .inl hc
  · exact .inr ⟨b, _, T, fz, hc2t, by simp, hbb, by rw [hsz]; simpa using hcap⟩

/-- A place of nothing. -/
theorem none_row (hM : M.Ok) (hm : Mem M c N w0 O0 L G w) (t sz : Nat) (a : Option Addr) {wr : Wr} (hm' : Mem M c N w0 O0 (L.upd wr) G w) (hg' : Grow c L w c (L.upd wr) w) (ht : (L.upd wr t).1 < L.new t) :
    Did M c N w0 O0 L G w { v := .ref t (L.new t) 0 0, wr := wr ++ [(t, (L.new t, .arr sz [] true))] } (.slice a 0 0) w := by
  let L1 := L.upd wr
  let L2 := L1.set t (L.new t, .arr sz [] true)
  have h2t : L2 t = (L.new t, .arr sz [] true) := Loc.set_same _ _ _
  have h2 : ∀ k, k ≠ t → L2 k = L1 k := fun k e => Loc.set_ne _ _ e
  let c2 : Ctx := c.at t none
  have hc2t : c2.ι t = none := by simp [c2, Ctx.at]
  have hc2 : ∀ k, k ≠ t → c2.ι k = c.ι k := fun k e => by simp [c2, Ctx.at, e]
  have hg : Grow c L1 w c2 L2 w := by
    refine ⟨Nat.le_refl _, fun _ _ _ => rfl, ?_, fun _ _ h => h, fun _ y _ fz h _ => ⟨y, fz, h, rfl⟩, ?_, ?_⟩
    · rintro k _ (hO | ⟨g', q1, q2⟩)
      · exact .inl hO
      · by_cases e : g' = t
        · subst e; rw [hc2t] at q1; cases q1
        · rw [h2 g' e] at q2; exact .inr ⟨g', by rw [← hc2 g' e]; exact q1, q2⟩
    · intro k
      by_cases e : k = t
      · subst e; rw [h2t]; exact Nat.le_of_lt ht
      · rw [h2 k e]; exact Nat.le_refl _
    · intro k hk
      by_cases e : k = t
      · subst e; rw [h2t] at hk; have : (L1 k).1 < L.new k := ht; simp at hk; omega
      · rw [h2 k e, hc2 k e]; exact .inr ⟨rfl, Compat.refl _⟩
  refine ⟨c2, ?_, ?_, ?_⟩
  · rw [Loc.upd_append]
    refine ⟨?_, ?_, ?_, hm'.glob, hm'.size, hm'.size0, hm'.os, hm'.tape, hm'.output, hm'.keep, hm'.osub⟩
    · intro k
      by_cases e : k = t
      · subst e; rw [hc2t]; show ObjOk c2 L2 w N none (L2 k).2; rw [h2t]; rfl
      · rw [hc2 k e]; show ObjOk c2 L2 w N (c.ι k) (L2 k).2; rw [h2 k e]; exact (hm'.obj k).grow hg fun _ _ _ => rfl
    · intro k k' y q1 q2 q3 q4
      by_cases e : k = t
      · subst e; rw [hc2t] at q1; cases q1
      · by_cases e' : k' = t
        · subst e'; rw [hc2t] at q2; cases q2
        · rw [hc2 k e] at q1; rw [hc2 k' e'] at q2
          have q3' : (L2 k).2 ≠ .dead := q3
          have q4' : (L2 k').2 ≠ .dead := q4
          rw [h2 k e] at q3'; rw [h2 k' e'] at q4'
          exact hm'.inj k k' y q1 q2 q3' q4'
    · intro k y q1 q2
      by_cases e : k = t
      · subst e; rw [hc2t] at q1; cases q1
      · rw [hc2 k e] at q1
        have q2' : (L2 k).2 ≠ .dead := q2
        rw [h2 k e] at q2'
        exact hm'.mine k y q1 q2'
  · rw [Loc.upd_append]; exact hg'.trans hg
  · rw [Loc.upd_append]
    refine .ref _ _ _ _ _ (by show _ ≤ (L2 t).1; rw [h2t]; exact Nat.le_refl _) fun sz' els' l' h => ?_
    have h' : L2.get t (L.new t) = .arr sz' els' l' := h
    unfold Loc.get at h'
    rw [h2t] at h'
    simp at h'
    obtain ⟨rfl, rfl, rfl⟩ := h'
    exact ⟨by simp, a, 0, rfl, Nat.le_refl _, .inl rfl⟩

end
end Wf

/-
  What operations do: append, make, copy, literals.
-/
namespace Wf
open Go Go.RowKit

section
variable {M : GM} {c : Ctx} {N : Nat} {w0 : World} {O0 : Nat → Prop} {L Lr : Loc} {G : M.S} {w : World}

/-- append, where there is room. -/
theorem append_room {P : Program} {ty ty2 rty e sz sLen sCap n : Nat} {a : Option Addr} {u : Value} {new : Array Value} {i : TypeInfo} (hu : P.underlying ty = some (.slice e)) (hi : P.info? e = some i) (hs : i.size = sz)
    (h2 : (tyElem P ty2).isSome) (hl : Builtin.lenOf u = pure n) (hf : (Builtin.firstCells sz n u).run P w = .ok new w) (hle : sLen + n ≤ sCap) {w' : World}
    (hst : match a with | some a => (storeCells (a.add (sLen * sz)) new.toList).run P w = .ok () w' | none => w' = w) :
    (Builtin.append_ #[ty, ty2] rty #[.slice a sLen sCap, u]).run P w = .ok (.slice a (sLen + n) sCap) w' := by
  obtain ⟨sz2, hsz2⟩ := Option.isSome_iff_exists.1 h2
  obtain ⟨e2, hu2, _⟩ := ty_elem hsz2
  have hsize : ∀ w, (Go.sizeOf e).run P w = .ok sz w := fun w => ty_size (by unfold tySize; simp [hi, hs]) w
  unfold Builtin.append_
  simp [ty_und hu, ty_und hu2, hsize, hl, hle, hf]
  cases a with
  | none => simp at hst; simp [hst]
  | some a => simp at hst; simp [hst]

/-- append, where there is none. -/
theorem append_grow {P : Program} {ty ty2 rty e sz sLen sCap n : Nat} {a : Option Addr} {u zv : Value} {old new : Array Value} {i : TypeInfo} (hu : P.underlying ty = some (.slice e)) (hi : P.info? e = some i) (hs : i.size = sz)
    (hz : i.zero = some zv) (hzs : zv.cells.size = sz) (hb : i.bytes ≤ 4096) (hn : sLen + n ≤ 2 ^ 32)
    (h2 : (tyElem P ty2).isSome) (hl : Builtin.lenOf u = pure n) (hold : ∀ k, (Builtin.firstCells sz sLen (.slice a sLen sCap)).run P (w.drewN k) = .ok old (w.drewN k))
    (hnew : ∀ k, (Builtin.firstCells sz n u).run P (w.drewN k) = .ok new (w.drewN k)) (hgt : sCap < sLen + n) (ho1 : old.size = sLen * sz) (hn1 : new.size = n * sz) :
    ∃ cap x, sLen + n ≤ cap ∧ x.size = cap * sz ∧ (∀ k, k < (sLen + n) * sz → x[k]? = (old ++ new)[k]?) ∧
      (Builtin.append_ #[ty, ty2] rty #[.slice a sLen sCap, u]).run P w = .ok (.slice (some ⟨w.heap.size, 0, none⟩) (sLen + n) cap) (w.drew.alloc (.cells x e)) := by
  obtain ⟨sz2, hsz2⟩ := Option.isSome_iff_exists.1 h2
  obtain ⟨e2, hu2, _⟩ := ty_elem hsz2
  have hsize : ∀ w, (Go.sizeOf e).run P w = .ok sz w := fun w => ty_size (by unfold tySize; simp [hi, hs]) w
  have hinfo : ∀ w, (typeInfo e).run P w = .ok i w := fun w => by simp [typeInfo, hi]
  have hzero : ∀ w, (zeroValue e).run P w = .ok zv w := fun w => by simp [zeroValue, hinfo, hz]
  have hcap := nextslicecap_le (sLen + n) sCap hgt
  have hbig : ¬ (Builtin.nextslicecap (sLen + n) sCap * i.bytes > 2 ^ 48) := by
    have h1 : Builtin.nextslicecap (sLen + n) sCap * i.bytes ≤ (2 * 2 ^ 32 + 2000) * 4096 := Nat.mul_le_mul (by omega) hb
    have h2 : (2 * 2 ^ 32 + 2000) * 4096 ≤ 2 ^ 48 := by decide
    omega
  let cap := sLen + n + w.tape w.drawn (.appendCap (sLen + n) sCap e) % (2 ^ 63 - (sLen + n))
  have hnot : ¬ (sLen + n ≤ sCap) := by omega
  have hmax : ¬ (((sLen + n : Nat) : Int) > IntKind.i64.max ∧ (false = true ∨ i.bytes = 0)) := by
    rintro ⟨h, _⟩
    have : IntKind.i64.max = 9223372036854775807 := by decide
    rw [this] at h; omega
  have hold1 := hold 1
  have hnew1 := hnew 1
  refine ⟨cap, old ++ new ++ Builtin.zeroCells zv.cells (cap - (sLen + n)), Nat.le_add_right _ _, ?_, ?_, ?_⟩
  · simp [Builtin.zeroCells, ho1, hn1, hzs]
    rw [← Nat.add_mul, ← Nat.add_mul]; congr 1; have : sLen + n ≤ cap := Nat.le_add_right _ _; omega
  · intro k hk
    rw [Array.getElem?_append_left]
    rw [Nat.add_mul] at hk; simp [ho1, hn1]; exact hk
  · have hd : w.drewN 1 = w.drew := rfl
    rw [hd] at hold1 hnew1
    have hA : ¬ ((9223372036854775807 : Int) < ↑sLen + ↑n) := by omega
    have hB : ¬ (281474976710656 < Builtin.nextslicecap (sLen + n) sCap * i.bytes) := hbig
    have hF : (Question.appendCap (sLen + n) sCap e).forced = false := rfl
    have hC : (Question.appendCap (sLen + n) sCap e).cut (w.tape w.drawn (.appendCap (sLen + n) sCap e)) = cap := rfl
    unfold Builtin.append_
    simp [ty_und hu, ty_und hu2, hsize, hl, hnot, hinfo, hA, hB, hF, hC, hold1, hnew1, hzero, newRow]

theorem RowIn.append {w : World} {A : Nat → Prop} {N : Nat} {γ : Nat → Option Addr} {sz : Nat} {a b : List D} {x y z : Array Value} (h : RowIn w A N γ sz a x) (k : RowIn w A N γ sz b y)
    (hx : x.size = a.length * sz) (hy : y.size = b.length * sz) (hz : ∀ k, k < (a.length + b.length) * sz → z[k]? = (x ++ y)[k]?) : RowIn w A N γ sz (a ++ b) z := by
  obtain ⟨us, hu⟩ := h
  obtain ⟨vs, hv⟩ := k
  refine ⟨fun i => if i < a.length then us i else vs (i - a.length), fun i d hd => ?_⟩
  by_cases hi : i < a.length
  · rw [List.getElem?_append_left hi] at hd
    obtain ⟨p1, p2, p3⟩ := hu i d hd
    simp only [hi, if_true]
    refine ⟨p1, p2, fun q u hq => ?_⟩
    have hqs : q < sz := by
      rcases Nat.lt_or_ge q (us i).cells.size with h' | h'
      · omega
      · rw [Array.getElem?_eq_none h'] at hq; cases hq
    have hlt : i * sz + q < a.length * sz := by
      have : (i + 1) * sz ≤ a.length * sz := Nat.mul_le_mul_right _ hi
      rw [Nat.succ_mul] at this; omega
    rw [hz _ (by rw [Nat.add_mul]; omega), Array.getElem?_append_left (by omega)]
    exact p3 q u hq
  · rw [List.getElem?_append_right (by omega)] at hd
    obtain ⟨p1, p2, p3⟩ := hv _ d hd
    simp only [hi, if_false]
    refine ⟨p1, p2, fun q u hq => ?_⟩
    have hj : i - a.length < b.length := by
      rcases Nat.lt_or_ge (i - a.length) b.length with h' | h'
      · exact h'
      · rw [List.getElem?_eq_none h'] at hd; cases hd
    have hqs : q < sz := by
      rcases Nat.lt_or_ge q (vs (i - a.length)).cells.size with h' | h'
      · omega
      · rw [Array.getElem?_eq_none h'] at hq; cases hq
    have hi2 : i * sz = a.length * sz + (i - a.length) * sz := by rw [← Nat.add_mul]; congr 1; omega
    have hlt : (i - a.length) * sz + q < b.length * sz := by
      have : (i - a.length + 1) * sz ≤ b.length * sz := Nat.mul_le_mul_right _ hj
      rw [Nat.succ_mul] at this; omega
    rw [hz _ (by rw [Nat.add_mul]; omega), Array.getElem?_append_right (by omega), hx, show i * sz + q - a.length * sz = (i - a.length) * sz + q by omega]
    exact p3 q u hq

theorem RowIn.grow {c L w c' L' w'} (h : Grow c L w c' L' w') {N sz : Nat} {els : List D} {x : Array Value} (hr : RowIn w (own c L) N c.γ sz els x) : RowIn w' (own c' L') N c'.γ sz els x := by
  obtain ⟨vs, hv⟩ := hr
  exact ⟨vs, fun i d hd => ⟨((hv i d hd).1).grow h, (hv i d hd).2.1, (hv i d hd).2.2⟩⟩

theorem RowIn.nil {w : World} {A : Nat → Prop} {N : Nat} {γ : Nat → Option Addr} {sz : Nat} {x : Array Value} : RowIn w A N γ sz [] x := ⟨fun _ => undef, by simp⟩

theorem Did.drew {out : Out M.S} {u : Value} {w' : World} (hg : Grow c L w c L w.drew) (h : Did M c N w0 O0 L G w.drew out u w') : Did M c N w0 O0 L G w out u w' := by
  obtain ⟨c', h1, h2, h3⟩ := h
  exact ⟨c', h1, hg.trans h2, h3⟩

theorem Mem.drewN (hM : M.Ok) (h : Mem M c N w0 O0 L G w) (k : Nat) : Mem M c N w0 O0 L G (w.drewN k) ∧ Grow c L w c L (w.drewN k) := by
  have hg : Grow c L w c L (w.drewN k) := ⟨Nat.le_refl _, fun _ _ _ => rfl, fun _ _ h => h, fun _ _ h => h, fun _ y _ fz h _ => ⟨y, fz, h, rfl⟩, fun _ => Nat.le_refl _, fun _ _ => .inr ⟨rfl, Compat.refl _⟩⟩
  exact ⟨⟨fun g => (h.obj g).grow hg fun _ _ _ => rfl, h.inj, h.mine, hM.stable h.glob (fun _ _ => rfl) (Nat.le_refl _), h.size, h.size0, h.os, h.tape, h.output, h.keep, h.osub⟩, hg⟩

theorem aappend_ok {P : Program} (hM : M.Ok) (hm : Mem M c N w0 O0 L G w) (hs : Sees Lr L) {t : Nat} (hnew : Lr t = L t) {ty ty2 rty : TypeId} {s x : V} {su xu : Value} {o : Out M.S} (ha : aappend P Lr t ty s x = some o)
    (h2 : (tyElem P ty2).isSome) (hv : Val c L w N s su) (hx : Val c L w N x xu) :
    ∃ u w', (Builtin.append_ #[ty, ty2] rty #[su, xu]).run P w = .ok u w' ∧ Did M c N w0 O0 L G w o u w' := by
  have hnew' : Lr.new t = L.new t := by unfold Loc.new; rw [hnew]
  unfold aappend at ha
  rw [hnew'] at ha
  cases hxs : elsOf Lr x with
  | none => rw [hxs] at ha; cases ha
  | some xs =>
  rw [hxs] at ha
  dsimp only at ha
  obtain ⟨xa, xcap, rfl, _, _⟩ := els_ok hm hs hxs hx
  have hlen : Builtin.lenOf (.slice xa xs.length xcap) = pure xs.length := rfl
  have htlt : (L t).1 < L.new t := by simp [Loc.new]
  obtain ⟨hdm, hdg⟩ := Mem.drew hM hm
  cases s with
  | d y =>
    cases y with
    | sl tg l0 =>
      cases tg with
      | full =>
        cases l0 with
        | nil =>
          dsimp only at ha
          cases hty : appendTy P ty xs.length with
          | none => rw [hty] at ha; cases ha
          | some sz =>
            rw [hty] at ha
            simp only [Option.bind_some] at ha
            split at ha
            · rename_i hok
              injection ha with ha; subst ha
              obtain ⟨e, i, z, zv, t1, t2, t3, t4, t5, t6, t7, t8, t9, t10⟩ := append_ty hty
              have hr := hv.dat
              cases hr with
              | sl _ _ _ _ _ _ _ g1 => exact absurd rfl g1
              | slE _ a cap hf =>
                have := hf rfl; subst this
                obtain ⟨nx, n1, n2, n3, n4⟩ := firstCells_ok (P := P) hm hs hxs hx hok
                by_cases h0 : xs = []
                · subst h0
                  have := append_room (P := P) (ty2 := ty2) (rty := rty) (a := a) (sLen := 0) (sCap := 0) (w := w) (w' := w) t1 t2 t3 h2 hlen (n1 w fun _ => rfl) (by simp) (by
                    have : nx = #[] := Array.eq_empty_of_size_eq_zero (by simpa using n2)
                    subst this
                    cases a <;> simp [storeCells])
                  exact ⟨_, _, by simpa using this, by simpa using none_row hM hm t sz a (wr := []) hm (Grow.refl ..) htlt⟩
                · have hpos : 0 < xs.length := List.length_pos_iff.2 h0
                  obtain ⟨cap, cx, q1, q2, q3, q4⟩ := append_grow (P := P) (ty2 := ty2) (rty := rty) (a := a) (sLen := 0) (sCap := 0) (n := xs.length) (old := #[]) (new := nx) t1 t2 t3 t4
                    (by rw [(valD_cells t5).1]; exact t7) t9 (by omega) h2 hlen (fun k => by cases a <;> simp [Builtin.firstCells, loadCells, loadCellsFrom]) (fun k => n1 _ fun _ => rfl) (by omega) (by simp) (by simpa using n2)
                  refine ⟨_, _, q4, Did.drew hdg ?_⟩
                  have := new_row hM hdm (t := t) (sz := sz) (els := xs) (x := cx) (T := e) (wr := []) (cap := cap) (by
                    have := RowIn.append (z := cx) (a := []) (x := #[]) RowIn.nil (n3.grow hdg) (by simp) n2 (fun k hk => q3 k (by simpa using hk))
                    exact this) hdm (Grow.refl ..) htlt (by omega) (by omega)
                  simpa using this
            · cases ha
        | cons y l =>
          dsimp only at ha
          cases xs with
          | nil => cases ha
          | cons x1 xr =>
          dsimp only at ha
          cases hty : appendTy P ty ((y :: l).length + (x1 :: xr).length) with
          | none => rw [hty] at ha; cases ha
          | some sz =>
            rw [hty] at ha
            simp only [Option.bind_some] at ha
            split at ha
            · rename_i hok
              injection ha with ha; subst ha
              obtain ⟨e, i, z, zv, t1, t2, t3, t4, t5, t6, t7, t8, t9, t10⟩ := append_ty hty
              obtain ⟨nx, n1, n2, n3, n4⟩ := firstCells_ok (P := P) hm hs hxs hx hok.1
              obtain ⟨ox, o1, o2, o3, o4⟩ := firstCells_ok (P := P) hm hs (l := y :: l) (v := .d (.sl .full (y :: l))) rfl hv hok.2
              have hr := hv.dat
              cases hr with
              | sl _ _ b bo sz' cap' vs g1 g2 g3 g4 g5 g6 g7 g8 =>
                have := g3 rfl; subst this
                obtain ⟨cap, cx, q1, q2, q3, q4⟩ := append_grow (P := P) (ty2 := ty2) (rty := rty) (a := some ⟨b, bo, none⟩) (sLen := (y :: l).length) (sCap := (y :: l).length) (n := (x1 :: xr).length) (old := ox) (new := nx) t1 t2 t3 t4
                  (by rw [(valD_cells t5).1]; exact t7) t9 t10 h2 hlen (fun k => o1 _ fun _ => rfl) (fun k => n1 _ fun _ => rfl) (by simp) o2 n2
                refine ⟨_, _, q4, Did.drew hdg ?_⟩
                have := new_row hM hdm (t := t) (sz := sz) (els := (y :: l) ++ (x1 :: xr)) (x := cx) (T := e) (wr := []) (cap := cap)
                  (RowIn.append (z := cx) (o3.grow hdg) (n3.grow hdg) o2 n2 q3) hdm (Grow.refl ..) htlt (by omega) (by rw [List.length_append]; exact q1)
                rw [List.length_append] at this
                simpa using this
            · cases ha
      | _ => cases l0 <;> cases ha
    | _ => cases ha
  | ref g n off len =>
    dsimp only at ha
    split at ha
    · rename_i sz' els hy
      cases hty : appendTy P ty (len + xs.length) with
      | none => rw [hty] at ha; cases ha
      | some sz =>
        rw [hty] at ha
        simp only [Option.bind_some] at ha
        split at ha
        · rename_i hok
          obtain ⟨hok, hle, rfl⟩ := hok
          injection ha with ha; subst ha
          obtain ⟨e, i, z, zv, t1, t2, t3, t4, t5, t6, t7, t8, t9, t10⟩ := append_ty hty
          obtain ⟨nx, n1, n2, n3, n4⟩ := firstCells_ok (P := P) hm hs hxs hx hok
          have hL := hs g n (by rw [hy]; simp)
          rw [hy] at hL
          obtain ⟨e1, e2⟩ := get_at hL (by simp)
          have hne : Lr.get g n ≠ .dead := by rw [hy]; simp
          have helsOf : elsOf Lr (.ref g n 0 len) = some els := by
            simp only [elsOf, hy]; rw [if_pos (by omega)]; simp [hle]
          have hml := Mem.less hm g .dead (.inl rfl)
          have hgl := Grow.less hm g .dead (.inl rfl)
          rw [e1] at hml hgl
          have htl : (((L.upd [(g, (n, HObj.dead))]) t).1) < L.new t := by
            simp only [Loc.upd]
            by_cases hgt : t = g
            · subst hgt; rw [Loc.set_same]; simp [Loc.new, e1]
            · rw [Loc.set_ne _ _ hgt]; exact htlt
          cases hv with
          | ref _ _ _ _ _ k1 k2 =>
            obtain ⟨_, a, cap, rfl, p3, p4⟩ := k2 _ _ _ hL
            by_cases hroom : len + xs.length ≤ cap
            · rcases p4 with rfl | ⟨b, y, T, fz, r1, rfl, r3, r4⟩
              · have hx0 : xs = [] := List.eq_nil_of_length_eq_zero (by omega)
                have hl0 : len = 0 := by omega
                have he0 : els = [] := List.eq_nil_of_length_eq_zero (by omega)
                subst hx0; subst hl0; subst he0
                have hnx : nx = #[] := Array.eq_empty_of_size_eq_zero (by simpa using n2)
                have := append_room (P := P) (ty2 := ty2) (rty := rty) (a := a) (sLen := 0) (sCap := 0) (w := w) (w' := w) t1 t2 t3 h2 hlen (n1 w fun _ => rfl) (by simp) (by
                  subst hnx; cases a <;> simp [storeCells])
                exact ⟨_, _, by simpa using this, by simpa using none_row hM hm t sz' a (wr := [(g, (n, .dead))]) hml hgl htl⟩
              · have hob := hm.get hL (by simp)
                rw [r1] at hob
                obtain ⟨x', T', fz', g2, g3, g4, us, g5⟩ := hob
                rw [r3] at g2; cases g2
                have hsc : len * sz' + nx.toList.length ≤ y.size := by
                  have : (len + xs.length) * sz' ≤ cap * sz' := Nat.mul_le_mul_right _ hroom
                  rw [Nat.add_mul] at this
                  have h0 : (0 + cap) * sz' = cap * sz' := by rw [Nat.zero_add]
                  simp; omega
                have hst := run_storeCells (P := P) (b := b) (o := len * sz') (T := T) (fz := fz) nx.toList 0 y w r3 (by simpa using hsc) (fun j _ hj => g3 j (by simp at hj hsc; omega))
                  (fun u hu => by
                    obtain ⟨k, hk, rfl⟩ := List.mem_iff_getElem.1 hu
                    exact n4 k _ (by simp at hk ⊢))
                have := append_room (P := P) (ty2 := ty2) (rty := rty) (a := some ⟨b, 0 * sz', none⟩) (sLen := len) (sCap := cap) (w := w) (w' := put w b (splice y (len * sz') nx.toList) T fz) t1 t2 t3 h2 hlen (n1 w fun _ => rfl) hroom (by
                  simp only [Addr.add_lit, Nat.zero_mul, Nat.zero_add]; simpa using hst)
                refine ⟨_, _, this, ?_⟩
                have := more_row hM hm (t := t) (cap := cap) hL r1 r3 hle (by simpa using r4) hroom n3 n2
                simpa using this
            · have hold : ∃ ox, (∀ w' : World, (∀ a, w'.cell? a = w.cell? a) → (Builtin.firstCells sz' len (.slice a len cap)).run P w' = .ok ox w') ∧ ox.size = els.length * sz' ∧ RowIn w (own c L) N c.γ sz' els ox := by
                by_cases h0 : len = 0
                · subst h0
                  have he0 : els = [] := List.eq_nil_of_length_eq_zero (by omega)
                  subst he0
                  refine ⟨#[], fun w' _ => ?_, by simp, RowIn.nil⟩
                  cases a <;> simp [Builtin.firstCells, loadCells, loadCellsFrom]
                · rcases p4 with h' | ⟨b, y, T, fz, r1, rfl, r3, r4⟩
                  · omega
                  · have hob := hm.get hL (by simp)
                    rw [r1] at hob
                    obtain ⟨x', T', fz', g2, g3, g4, us, g5⟩ := hob
                    obtain ⟨ox, o1, o2, o3, _⟩ := firstCells_of (P := P) (w := w) (l := els) (b := b) (o := 0 * sz') (cap := cap) (vs := us) (fun i d hd => by
                      obtain ⟨s1, s2, s3⟩ := g5 i d hd
                      rw [Nat.zero_mul, Nat.zero_add]; exact ⟨s1, s2, s3⟩)
                    rw [← hle] at o1
                    exact ⟨ox, o1, o2, o3⟩
              obtain ⟨ox, o1, o2, o3⟩ := hold
              obtain ⟨cap2, cx, q1, q2, q3, q4⟩ := append_grow (P := P) (ty2 := ty2) (rty := rty) (a := a) (sLen := len) (sCap := cap) (n := xs.length) (old := ox) (new := nx) t1 t2 t3 t4
                (by rw [(valD_cells t5).1]; exact t7) t9 t10 h2 hlen (fun k => o1 _ fun _ => rfl) (fun k => n1 _ fun _ => rfl) (by omega) (by rw [o2, hle]) n2
              refine ⟨_, _, q4, Did.drew hdg ?_⟩
              obtain ⟨hdm2, hdg2⟩ := Mem.drew hM hml
              have := new_row hM hdm (t := t) (sz := sz') (els := els ++ xs) (x := cx) (T := e) (wr := [(g, (n, .dead))]) (cap := cap2)
                (RowIn.append (z := cx) ((o3.grow hgl).grow hdg2) ((n3.grow hgl).grow hdg2) o2 n2 (fun k hk => q3 k (by rw [hle]; exact hk))) hdm2 (by
                  have := Grow.less hdm g .dead (.inl rfl)
                  rw [e1] at this; exact this) htl (by omega) (by rw [List.length_append]; omega)
              rw [List.length_append, ← hle] at this
              simpa using this
        · cases ha
    · cases ha
  | _ => cases ha

end
end Wf

/-
  What operations do: make, copy, literals.
-/
namespace Wf
open Go Go.RowKit

theorem wrap_small {n : Int} (h0 : 0 ≤ n) (h1 : n ≤ 2 ^ 47) : IntKind.i64.wrap n = n := by
  have h2 : n % (2 ^ 64 : Int) = n := Int.emod_eq_of_lt h0 (by omega)
  show (if (true && decide (n % (2 ^ 64 : Int) ≥ (2 ^ 63 : Int))) = true then n % (2 ^ 64 : Int) - (2 ^ 64 : Int) else n % (2 ^ 64 : Int)) = n
  rw [h2, if_neg]
  simp; omega

section
variable {M : GM} {c : Ctx} {N : Nat} {w0 : World} {O0 : Nat → Prop} {L Lr : Loc} {G : M.S} {w : World}

theorem ty_zero {P : Program} {t : TypeId} {z : D} (h : tyZero P t = some z) : ∃ i zv, P.info? t = some i ∧ i.zero = some zv ∧ valD zv = some z := by
  unfold tyZero at h
  cases hi : P.info? t with
  | none => rw [hi] at h; cases h
  | some i =>
    rw [hi] at h
    simp only [Option.bind_some] at h
    cases hz : i.zero with
    | none => rw [hz] at h; cases h
    | some zv => rw [hz] at h; exact ⟨i, zv, rfl, hz, h⟩

theorem amakeSlice_ok {P : Program} (hM : M.Ok) (hm : Mem M c N w0 O0 L G w) {t : Nat} (hnew : Lr t = L t) {ty : TypeId} {n k : V} {nu ku : Value} {o : Out M.S} (ha : amakeSlice P Lr t ty n k = some o)
    (hn : Val c L w N n nu) (hk : Val c L w N k ku) : ∃ u w', (Instr.makeSlice ty nu ku).run P w = .ok u w' ∧ Did M c N w0 O0 L G w o u w' := by
  have hnew' : Lr.new t = L.new t := by unfold Loc.new; rw [hnew]
  unfold amakeSlice at ha
  rw [hnew'] at ha
  split at ha
  rotate_left
  · cases ha
  rename_i e n k hu
  cases hz : tyZero P e with
  | none => rw [hz] at ha; cases ha
  | some z =>
  cases hsz : tySize P e with
  | none => rw [hz, hsz] at ha; cases ha
  | some sz =>
  cases hi : P.info? e with
  | none => rw [hz, hsz, hi] at ha; cases ha
  | some i =>
  rw [hz, hsz, hi] at ha
  dsimp only at ha
  split at ha
  rotate_left
  · cases ha
  rename_i hc
  obtain ⟨c1, rfl, c3, c4, c5, c6⟩ := hc
  injection ha with ha; subst ha
  have := hn.int; subst this
  have := hk.int; subst this
  obtain ⟨i', zv, z1, z2, z3⟩ := ty_zero hz
  rw [hi] at z1; cases z1
  obtain ⟨v1, v2, v3⟩ := valD_cells z3
  have hw := wrap_small c1 c4
  have hbb : ¬ ((n : Int) < 0 ∨ (i.bytes : Int) * n > 2 ^ 48) := by
    rintro (h | h)
    · omega
    · rw [Int.mul_comm] at h; omega
  let x : Array Value := (Array.range (n.toNat * sz)).map fun j => zv.cells[j % zv.cells.size]!
  have hxsz : x.size = n.toNat * sz := by simp [x]
  have hrun : (Instr.makeSlice ty (.int .i64 n) (.int .i64 n)).run P w = .ok (.slice (some ⟨w.heap.size, 0, none⟩) n.toNat n.toNat) (w.alloc (.cells x e)) := by
    have hA : ¬ (n < 0) := by omega
    have hB : ¬ ((281474976710656 : Int) < ↑i.bytes * n) := by intro h; exact hbb (.inr h)
    have hsize : ∀ w, (Go.sizeOf e).run P w = .ok sz w := fun w => ty_size hsz w
    by_cases h0 : n.toNat * sz = 0
    · have hx0 : x = #[] := Array.eq_empty_of_size_eq_zero (by rw [hxsz]; exact h0)
      have hn0 : n = 0 := by
        rcases Nat.mul_eq_zero.1 h0 with h | h
        · omega
        · omega
      subst hn0
      simp [Instr.makeSlice, ty_und hu, asInt, asIntOf, typeInfo, hi, hw, hsize, newRow, hx0, Go.Array.range_zero']
    · have hz' : ∀ w, (zeroValue e).run P w = .ok zv w := fun w => by simp [zeroValue, typeInfo, hi, z2]
      simp only [Instr.makeSlice, Sem.run_bind, ty_und hu, asInt, asIntOf, typeInfo, hi, hw, Sem.run_pure, Result.andThen_ok, run_program]
      simp [hA, hB, hsize, hz', newRow, h0, x]
  refine ⟨_, _, hrun, ?_⟩
  have := new_row hM hm (t := t) (sz := sz) (els := List.replicate n.toNat z) (x := x) (T := e) (wr := []) (cap := n.toNat) ⟨fun _ => zv, fun j d hd => by
    have hj : j < n.toNat := by
      rcases Nat.lt_or_ge j n.toNat with h | h
      · exact h
      · rw [List.getElem?_eq_none (by simpa using h)] at hd; cases hd
    simp [hj] at hd
    subst hd
    refine ⟨v3 _ _ _ _, (by rw [v1]; exact c5 : zv.cells.size = sz), fun q u hq => ?_⟩
    have hqs : q < sz := by
      rcases Nat.lt_or_ge q zv.cells.size with h' | h'
      · omega
      · rw [Array.getElem?_eq_none h'] at hq; cases hq
    have hlt : j * sz + q < n.toNat * sz := by
      have : (j + 1) * sz ≤ n.toNat * sz := Nat.mul_le_mul_right _ hj
      rw [Nat.succ_mul] at this; omega
    have hmod : (j * sz + q) % zv.cells.size = q := by rw [v1, c5, Nat.mul_comm, Nat.mul_add_mod, Nat.mod_eq_of_lt hqs]
    simp only [x, Array.getElem?_map]
    rw [Array.getElem?_eq_getElem (by simpa using hlt)]
    simp only [Option.map_some, Array.getElem_range, hmod]
    have hqz : q < zv.cells.size := by omega
    rw [Array.getElem?_eq_getElem hqz] at hq
    rw [getElem!_pos zv.cells q hqz]; exact hq⟩ hm (Grow.refl ..) (by simp [Loc.upd, Loc.new]) (by rw [hxsz]; exact Nat.le_refl _) (by simp)
  simpa using this

/-- Into a row of single cells. -/
theorem write_row1 (hM : M.Ok) (hm : Mem M c N w0 O0 L G w) {g l off : Nat} {els ys : List D} {b : Nat} {x : Array Value} {T : TypeId} {fz : Nat × Nat} {vs : List Value} {r : V} {ru : Value}
    (hL : L.get g l = .arr 1 els true) (hι : c.ι g = some b) (hb : w.heap[b]? = some (.cells x T fz)) (ho : off + ys.length ≤ els.length) (hr : Reps w (own c L) N c.γ ys vs) (h1 : ∀ v ∈ vs, v.oneCell' = true)
    (hrv : ∀ c L w, Val c L w N r ru) :
    Did M c N w0 O0 L G w { v := r, wr := [(g, (l, .arr 1 (els.take off ++ ys ++ els.drop (off + ys.length)) true))] } ru (put w b (splice x off vs) T fz) := by
  obtain ⟨e1, e2⟩ := get_at hL (by simp)
  have hob := hm.get hL (by simp)
  rw [hι] at hob
  obtain ⟨x', T', fz', g2, g3, g4, us, g5⟩ := hob
  rw [hb] at g2; cases g2
  have hvl := hr.1
  have hsz : (splice x off vs).size = x.size := splice_size (by omega)
  have hw : ∀ k, k ≠ b → (put w b (splice x off vs) T fz).heap[k]? = w.heap[k]? := fun k hk => by rw [put_heap (lt_of_heap hb)]; simp [hk]
  have hbb : (put w b (splice x off vs) T fz).heap[b]? = some (.cells (splice x off vs) T fz) := by rw [put_heap (lt_of_heap hb)]; simp
  have hlen : (els.take off ++ ys ++ els.drop (off + ys.length)).length = els.length := by simp; omega
  have hz : ∀ y T' fz', w.heap[b]? = some (.cells y T' fz') → ∃ y' fz'', (put w b (splice x off vs) T fz).heap[b]? = some (.cells y' T' fz'') ∧ y'.size = y.size := by
    intro y T' fz' hy; rw [hb] at hy; cases hy; exact ⟨_, _, hbb, hsz⟩
  have hcp : Compat (L g).2 (.arr 1 (els.take off ++ ys ++ els.drop (off + ys.length)) true) := by rw [e2]; exact ⟨rfl, hlen⟩
  have hg := Grow.write hm (x := .arr 1 (els.take off ++ ys ++ els.drop (off + ys.length)) true) hι (by rw [e2]; rfl) hcp (by simp [put]) hw hz
  have hmm := Mem.write hM hm (x := .arr 1 (els.take off ++ ys ++ els.drop (off + ys.length)) true) hι (by rw [e2]; rfl) hcp (by simp [put]) hw hz rfl rfl rfl
    ⟨_, T, fz, hbb, fun k hk => by rw [frozen_put hb]; exact g3 k (by omega), by rw [hsz, hlen]; exact g4,
      fun i => if off ≤ i ∧ i < off + ys.length then vs.getD (i - off) undef else us i, by
      intro i d hd
      rw [list_splice ho] at hd
      by_cases hi : off ≤ i ∧ i < off + ys.length
      · rw [if_pos hi] at hd
        simp only [if_pos hi]
        have hj : i - off < vs.length := by omega
        have hv : vs[i - off]? = some (vs.getD (i - off) undef) := by simp [hj]
        have ho1 := h1 _ (List.mem_of_getElem? hv)
        refine ⟨(hr.2 _ _ _ hd hv).grow hg, by rw [cells_of_one ho1]; rfl, fun q u hu => ?_⟩
        rw [cells_of_one ho1] at hu
        cases q with
        | zero =>
          simp only [List.getElem?_toArray, List.getElem?_cons_zero, Option.some.injEq] at hu
          rw [Nat.mul_one, Nat.add_zero, put_cell hb, splice_at (by omega), if_pos (by omega), hv, hu]
        | succ q => simp at hu
      · rw [if_neg hi] at hd
        simp only [if_neg hi]
        obtain ⟨p1, p2, p3⟩ := g5 i d hd
        refine ⟨p1.grow hg, p2, fun q u hu => ?_⟩
        have hq : q = 0 := by
          rcases Nat.lt_or_ge q (us i).cells.size with h' | h'
          · omega
          · rw [Array.getElem?_eq_none h'] at hu; cases hu
        subst hq
        have := p3 0 u hu
        rw [Nat.mul_one, Nat.add_zero] at this ⊢
        rw [put_cell hb, splice_at (by omega), if_neg (by omega)]
        simpa [World.cell?, hb] using this⟩
  rw [e1] at hg hmm
  exact ⟨c, hmm, hg, hrv _ _ _⟩

theorem acopy_ok {P : Program} (hM : M.Ok) (hm : Mem M c N w0 O0 L G w) (hs : Sees Lr L) {ty rty : TypeId} {tys : List TypeId} {s x : V} {su xu : Value} {o : Out M.S} (ha : acopy P Lr ty s x = some o)
    (hv : Val c L w N s su) (hx : Val c L w N x xu) :
    ∃ u w', (Builtin.copy_ (ty :: tys).toArray rty #[su, xu]).run P w = .ok u w' ∧ Did M c N w0 O0 L G w o u w' := by
  unfold acopy at ha
  split at ha
  rotate_left
  · cases ha
  rename_i g n off len xs ez hxs hty
  split at ha
  rotate_left
  · cases ha
  rename_i sz els hy
  split at ha
  rotate_left
  · cases ha
  rename_i hc
  obtain ⟨c1, rfl, rfl, c4⟩ := hc
  injection ha with ha; subst ha
  have hL := hs g n (by rw [hy]; simp)
  rw [hy] at hL
  obtain ⟨e, hu, he⟩ := ty_elem hty
  cases hv with
  | ref _ _ _ _ _ k1 k2 =>
  obtain ⟨_, a, cap, rfl, p3, p4⟩ := k2 _ _ _ hL
  obtain ⟨xa, xcap, rfl, xc, hrow⟩ := els_ok hm hs hxs hx
  have hmin : Nat.min xs.length len = (xs.take len).length := by rw [List.length_take]; exact Nat.min_comm _ _
  have hmin2 : min xs.length len = (xs.take len).length := hmin
  -- what is read
  have hread : ∃ nx, (Builtin.firstCells 1 (xs.take len).length (.slice xa xs.length xcap)).run P w = .ok nx w ∧ nx.size = (xs.take len).length ∧ Reps w (own c L) N c.γ (xs.take len) nx.toList ∧ ∀ v ∈ nx.toList, v.oneCell' = true := by
    rcases hrow with rfl | ⟨b, bo, sz', vs, rfl, _, _, h⟩
    · refine ⟨#[], ?_, by simp, by simpa using Reps.nil, by simp⟩
      cases xa <;> simp [Builtin.firstCells, loadCells, loadCellsFrom]
    · have h' : ∀ (i : Nat) (d : D), (xs.take len)[i]? = some d → Rep w (own c L) N c.γ d (vs i) ∧ (vs i).cells.size = 1 ∧ cellsAt w b (bo + i * 1) (vs i) ∧ (vs i).oneCell' = true := by
        intro i d hd
        rw [List.getElem?_take] at hd
        split at hd
        · obtain ⟨q1, q2, q3⟩ := h i d hd
          have hcell : d.cell = true := by
            rw [List.all_eq_true] at c4
            exact c4 d (List.mem_of_getElem? hd)
          have ho := q1.cell hcell
          have hs1 : (vs i).cells.size = 1 := by rw [cells_of_one ho]; rfl
          have : sz' = 1 := by omega
          subst this
          exact ⟨q1, hs1, q3, ho⟩
        · cases hd
      obtain ⟨nx, n1, n2, ⟨us, n3⟩, n4⟩ := firstCells_of (P := P) (w := w) (l := xs.take len) (b := b) (o := bo) (cap := xcap) (vs := vs) fun i d hd => ⟨(h' i d hd).1, (h' i d hd).2.1, (h' i d hd).2.2.1⟩
      have n1' := n1 w fun _ => rfl
      rw [Nat.mul_one] at n2
      refine ⟨nx, by simpa [Builtin.firstCells] using n1', n2, ⟨by simpa using n2, fun i d v hd hv => ?_⟩, ?_⟩
      · obtain ⟨r1, r2, r3⟩ := n3 i d hd
        have ho := r1.cell (by
          rw [List.getElem?_take] at hd
          split at hd
          · rw [List.all_eq_true] at c4; exact c4 d (List.mem_of_getElem? hd)
          · cases hd)
        have := r3 0 (us i) (by rw [cells_of_one ho]; rfl)
        rw [Nat.mul_one, Nat.add_zero] at this
        have hv' : nx[i]? = some v := by simpa using hv
        rw [this] at hv'; cases hv'; exact r1
      · intro v hv
        obtain ⟨k, hk, rfl⟩ := List.mem_iff_getElem.1 hv
        obtain ⟨i, d, q, r1, r2⟩ := n4 k (nx.toList[k]) (by simp)
        have ho := (h' i d r1).2.2.2
        rw [cells_of_one ho] at r2
        cases q with
        | zero =>
          have e5 : nx.toList[k] = vs i := by simpa using r2.symm
          rw [e5]; exact ho
        | succ q => simp at r2
  obtain ⟨nx, n1, n2, n3, n4⟩ := hread
  have hsize : ∀ w, (Go.sizeOf e).run P w = .ok 1 w := fun w => ty_size he w
  have hlen : Builtin.lenOf (.slice xa xs.length xcap) = pure xs.length := rfl
  have hri : ∀ c L w, Val c L w N (.d (.int .i64 ((min xs.length len : Nat) : Int))) (goInt ((xs.take len).length : Nat)) := by
    intro c L w; rw [hmin2]; exact .d _ _ (.int _ _)
  by_cases h0 : (xs.take len).length = 0
  · -- nothing
    have hnx : nx = #[] := Array.eq_empty_of_size_eq_zero (by omega)
    subst hnx
    have hxt : xs.take len = [] := List.eq_nil_of_length_eq_zero h0
    have hrun : (Builtin.copy_ (ty :: tys).toArray rty #[.slice a len cap, .slice xa xs.length xcap]).run P w = .ok (goInt ((xs.take len).length : Nat)) w := by
      have hmin' : xs.length.min len = 0 := by rw [hmin, h0]
      rw [h0] at n1
      simp [Builtin.copy_, ty_und hu, hlen, hmin', hsize, n1, h0]
      cases a <;> simp [storeCells]
    refine ⟨_, _, hrun, ?_⟩
    have he2 : els.take off ++ xs.take len ++ els.drop (off + (xs.take len).length) = els := by rw [hxt]; simp
    rw [he2]
    obtain ⟨e1, e2⟩ := get_at hL (by simp)
    have hset : L.set g (n, .arr 1 els true) = L := by
      funext k; by_cases hk : k = g
      · subst hk; rw [Loc.set_same]; exact Prod.ext e1.symm e2.symm
      · rw [Loc.set_ne _ _ hk]
    refine ⟨c, ?_, ?_, hri _ _ _⟩
    · simp only [Loc.upd, hset]; exact hm
    · simp only [Loc.upd, hset]; exact Grow.refl ..
  · rcases p4 with rfl | ⟨b, y, T, fz, r1, rfl, r3, r4⟩
    · simp at h0; omega
    · have hob := hm.get hL (by simp)
      rw [r1] at hob
      obtain ⟨x', T', fz', g2, g3, g4, us, g5⟩ := hob
      rw [r3] at g2; cases g2
      have hle : off + (xs.take len).length ≤ els.length := by simp; omega
      have hst := run_storeCells (P := P) (b := b) (o := off) (T := T) (fz := fz) nx.toList 0 y w r3 (by simp; omega) (fun j _ hj => g3 j (by simp at hj; omega)) n4
      have hrun : (Builtin.copy_ (ty :: tys).toArray rty #[.slice (some ⟨b, off * 1, none⟩) len cap, .slice xa xs.length xcap]).run P w = .ok (goInt ((xs.take len).length : Nat)) (put w b (splice y off nx.toList) T fz) := by
        rw [Nat.mul_one]
        simp only [Builtin.copy_]
        simp [ty_und hu, hlen, hsize]
        rw [show xs.length.min len = (xs.take len).length from hmin, n1]
        simp
        rw [show (storeCells ⟨b, off, none⟩ nx.toList).run P w = _ from hst]
        simp
      refine ⟨_, _, hrun, ?_⟩
      exact write_row1 hM hm hL r1 r3 hle n3 n4 hri

end
end Wf

