/-
  All operations of the machine, one by one.
-/
import Derived.Test.YtpdhbdacbiamdaaWfX
set_option linter.unusedVariables false
set_option linter.unusedSimpArgs false
set_option linter.unnecessarySimpa false
namespace Wf
open Go Go.RowKit

section
variable {P : Program} {M : GM} {c : Ctx} {N : Nat} {w0 : World} {O0 : Nat → Prop} {L Lr : Loc} {G : M.S} {w : World}

theorem OpOk.value {o : Oper} {ρ : Operand → Value} {out : Out M.S} {u : Value} {w' : World} (h : (execOp ρ o).run P w = .ok (.value u) w') (hd : Did M c N w0 O0 L G w out u w') :
    OpOk P M c N w0 O0 L G w o ρ out := .inl ⟨u, w', h, hd⟩
theorem OpOk.skip {o : Oper} {ρ : Operand → Value} {out : Out M.S} {w' : World} (h : (execOp ρ o).run P w = .ok .skip w') (hd : Did M c N w0 O0 L G w out undef w') :
    OpOk P M c N w0 O0 L G w o ρ out := .inr (.inl ⟨w', h, hd⟩)

theorem run_newVar {t : TypeId} {v : Value} : (newVar t v).run P w = .ok ⟨w.heap.size, 0, none⟩ (w.alloc (.cells v.cells t)) := by
  simp only [newVar, newRow, Sem.run_bind, Sem.run_pure, Result.andThen_ok, run_newObj, World.alloc_eq]

theorem CellsRep.of_agg {A : Nat → Prop} {γ} {cs : List D} {u : Value} (h : Rep w A N γ (.agg cs) u) : CellsRep w A N γ cs u.cells := by
  cases h with
  | agg _ vs h1 h2 h3 =>
    exact ⟨h1, fun i d v hd hv => ⟨h2 i d v hd hv, h3 i v hv⟩⟩

theorem CellsRep.of_cell {A : Nat → Prop} {γ} {x : D} {u : Value} (h : Rep w A N γ x u) (hx : x.cell = true) : CellsRep w A N γ [x] u.cells := by
  have h1 := h.cell hx
  rw [cells_of_one h1]
  refine ⟨rfl, fun i d v hd hv => ?_⟩
  cases i with
  | zero => simp at hd hv; subst hd; subst hv; exact ⟨h, h1⟩
  | succ i => simp at hd

theorem Vals.map {ρa : Operand → V} {ρ : Operand → Value} (hρ : ∀ x, Val c L w N (ρa x) (ρ x)) (l : List Operand) : Vals c L w N (l.map ρa) (l.map ρ) := by
  refine ⟨by simp, fun i v u h1 h2 => ?_⟩
  rw [List.getElem?_map] at h1 h2
  cases hx : l[i]? with
  | none => rw [hx] at h1; cases h1
  | some x => rw [hx] at h1 h2; injection h1 with h1; injection h2 with h2; subst h1; subst h2; exact hρ x

theorem OptVal.map {ρa : Operand → V} {ρ : Operand → Value} (hρ : ∀ x, Val c L w N (ρa x) (ρ x)) (x : Option Operand) : OptVal c L w N (x.map ρa) (x.map ρ) := by
  cases x with
  | none => trivial
  | some x => exact hρ x

theorem aop_ok {Γ : Env M} (hM : M.Ok) (hΓ : ∀ f sp, Γ f = some sp → Sound P M f sp) (hm : Mem M c N w0 O0 L G w) (hs : Sees Lr L) {o : Oper} {ρa : Operand → V} {ρ : Operand → Value}
    (hnew : makesL o.op ≠ 0 → Lr (o.dst.getD 0) = L (o.dst.getD 0)) (hcall : makesL o.op = 5 → ∀ i, i ≤ 4 → Lr (o.dst.getD 0 + 1000 * i) = L (o.dst.getD 0 + 1000 * i))
    {Go : Option M.S} (hG : ∀ s, Go = some s → s = G) {out : Out M.S} (hρ : ∀ x, Val c L w N (ρa x) (ρ x)) (h : aop P Γ o ρa Lr Go = some out) : OpOk P M c N w0 O0 L G w o ρ out := by
  unfold aop at h
  dsimp only at h
  have hLn : makesL o.op ≠ 0 → Lr.new (o.dst.getD 0) = L.new (o.dst.getD 0) := fun hh => by unfold Loc.new; rw [hnew hh]
  cases hop : o.op <;> rw [hop] at h hnew hcall hLn
  case move x =>
    injection h with h; subst h
    exact .value (by simp [execOp, hop]) (Did.same hm (hρ x))
  case assign x =>
    injection h with h; subst h
    exact .value (by simp [execOp, hop]) (Did.same hm (hρ x))
  case pick x y z =>
    dsimp only at h
    split at h
    · rename_i b hb
      injection h with h; subst h
      have hv := hρ x; rw [hb] at hv
      have := hv.bool
      refine .value (u := if b then ρ y else ρ z) (by simp [execOp, hop, this, asBool]) (Did.same hm ?_)
      cases b
      · exact hρ z
      · exact hρ y
    · cases h
  case alloc e =>
    dsimp only at h
    split at h
    · rename_i cs hz
      obtain ⟨i, zv, z1, z2, z3⟩ := ty_zero hz
      have hr := (valD_cells z3).2.2 w (own c L) N c.γ
      injection h with h; subst h
      rw [hLn (by simp [makesL])]
      refine .value ?_ (new_box hM hm (a := true) (T := e) (CellsRep.of_agg hr))
      simp only [execOp, hop]
      exact next_value (by simp [Instr.alloc, zeroValue, typeInfo, z1, z2, run_newVar])
    · rename_i x hz
      split at h
      · rename_i hx
        obtain ⟨i, zv, z1, z2, z3⟩ := ty_zero hz
        have hr := (valD_cells z3).2.2 w (own c L) N c.γ
        injection h with h; subst h
        rw [hLn (by simp [makesL])]
        refine .value ?_ (new_box hM hm (a := false) (T := e) (CellsRep.of_cell hr hx))
        simp only [execOp, hop]
        exact next_value (by simp [Instr.alloc, zeroValue, typeInfo, z1, z2, run_newVar])
      · cases h
    · cases h
  case box e x =>
    have hv := hρ x
    dsimp only at h
    split at h
    · rename_i cs hx
      rw [hx] at hv
      injection h with h; subst h
      rw [hLn (by simp [makesL])]
      refine .value ?_ (new_box hM hm (a := true) (T := e) (CellsRep.of_agg hv.dat))
      simp only [execOp, hop]
      exact next_value (by simp [Instr.box, run_newVar])
    · rename_i x' _ hx
      rw [hx] at hv
      split at h
      · rename_i hc
        injection h with h; subst h
        rw [hLn (by simp [makesL])]
        refine .value ?_ (new_box hM hm (a := false) (T := e) (CellsRep.of_cell hv.dat hc))
        simp only [execOp, hop]
        exact next_value (by simp [Instr.box, run_newVar])
      · cases h
    · rename_i g n off len hx
      rw [hx] at hv
      split at h
      · rename_i hk
        injection h with h; subst h
        rw [hLn (by simp [makesL])]
        have h1 := okRef_one (v := .d .undef) hs hk hv
        refine .value ?_ (new_vbox hM hm (T := e) hv h1)
        simp only [execOp, hop]
        exact next_value (by simp [Instr.box, run_newVar, cells_of_one h1])
      · cases h
    · cases h
  case build t ps =>
    dsimp only at h
    have hv : Vals c L w N ((ps.toList.map fun (i, x) => (i, ρa x)).map (·.2)) (ps.toList.map fun p => ρ p.2) := by
      have := Vals.map hρ (ps.toList.map (·.2))
      simpa [List.map_map, Function.comp_def] using this
    obtain ⟨u, w', k1, k2⟩ := abuild_ok hm hs h hv
    refine .value ?_ k2
    simp only [execOp, hop]
    refine next_value ?_
    rw [← k1]
    congr 2
    apply Array.ext'
    simp [List.map_map, Function.comp_def, List.zip_map']
  case buildSlice t n ps =>
    dsimp only at h
    have hv : Vals c L w N ((ps.toList.map fun (i, x) => (i, ρa x)).map (·.2)) (ps.toList.map fun p => ρ p.2) := by
      have := Vals.map hρ (ps.toList.map (·.2))
      simpa [List.map_map, Function.comp_def] using this
    obtain ⟨u, w', k1, k2⟩ := abuildSlice_ok hM hm hs h hv
    refine .value ?_ k2
    simp only [execOp, hop]
    refine next_value ?_
    rw [← k1]
    congr 2
    apply Array.ext'
    simp [List.map_map, Function.comp_def, List.zip_map']
  case load t a =>
    obtain ⟨v, hv, rfl⟩ := out_some h
    obtain ⟨u, k1, k2⟩ := aload_ok hM hm hs hG hv (hρ a)
    refine .value ?_ (Did.same hm k2)
    simp only [execOp, hop]
    exact next_value k1
  case store t a x =>
    dsimp only at h
    split at h
    · rename_i hk
      obtain ⟨w', k1, k2⟩ := astore_ok hM hm hs hG h (hρ a) (hρ x) (fun g n off len e => okRef_spec hk g n off len e)
      refine .skip ?_ k2
      simp only [execOp, hop]
      exact next_skip k1
    · cases h
  case nilCheck x =>
    have hv := hρ x
    dsimp only at h
    split at h
    · rename_i g n o' hx
      rw [hx] at hv
      split at h
      · rename_i hk
        injection h with h; subst h
        have hd := ((okPtr_ptr hs hk).1 g n o' rfl).2
        have hv' := hv
        cases hv with
        | ptr _ _ _ u h1 h2 =>
          obtain ⟨b, hb, hu⟩ := h2 hd
          exact .value (by simp [execOp, hop, hu]) (Did.same hm hv')
      · cases h
    · rename_i g n i o' hx
      rw [hx] at hv
      split at h
      · rename_i hk
        injection h with h; subst h
        obtain ⟨sz, els, l, e1, e2⟩ := (okPtr_ptr hs hk).2.1 g n i o' rfl
        have hv' := hv
        cases hv with
        | ept _ _ _ _ u h1 h2 =>
          obtain ⟨b, hb, hu⟩ := h2 sz els l e1 e2
          exact .value (by simp [execOp, hop, hu]) (Did.same hm hv')
      · cases h
    · rename_i n o' hx
      rw [hx] at hv
      injection h with h; subst h
      have hr := hv.dat
      refine .value (u := ρ x) ?_ (Did.same hm hv)
      simp only [execOp, hop]
      generalize ρ x = u at *
      cases hr; rfl
    · rename_i d hx
      rw [hx] at hv
      injection h with h; subst h
      have hr := hv.dat
      refine .value (u := ρ x) ?_ (Did.same hm hv)
      simp only [execOp, hop]
      generalize ρ x = u at *
      cases hr; rfl
    · rename_i f a b hx
      rw [hx] at hv
      injection h with h; subst h
      refine .value (u := ρ x) ?_ (Did.same hm hv)
      simp only [execOp, hop]
      generalize ρ x = u at *
      cases hv; rfl
    · rename_i f a b hx
      rw [hx] at hv
      injection h with h; subst h
      have hr := hv.dat
      refine .value (u := ρ x) ?_ (Did.same hm hv)
      simp only [execOp, hop]
      generalize ρ x = u at *
      cases hr; rfl
    · cases h
  case binOp op ty x y _ =>
    have hx := hρ x
    have hy := hρ y
    dsimp only at h
    split at h
    · rename_i a b ha hb
      rw [ha] at hx; rw [hb] at hy
      have rx := hx.dat
      have ry := hy.dat
      obtain ⟨us, hus, _⟩ := hx.agg
      obtain ⟨vs, hvs, _⟩ := hy.agg
      split at h
      · cases h
      · rename_i hg
        have hg' : P.eqGuardType P.depth ty = false := by simpa using hg
        split at h
        · obtain ⟨v, hv, rfl⟩ := out_some h
          cases hq : aeq P 5 ty (.agg a) (.agg b) with
          | none => rw [hq] at hv; cases hv
          | some r =>
            rw [hq] at hv
            injection hv with hv; subst hv
            refine .value (u := .bool r) ?_ (Did.same hm (.d _ _ (.bool r)))
            have := aeq_ok 5 (Op.maxDepth - 5) ty _ _ r _ _ hq rx ry
            simp only [execOp, hop]
            refine next_value ?_
            rw [hus, hvs] at this ⊢
            have e : 5 + (Op.maxDepth - 5) = Op.maxDepth := rfl
            rw [e] at this
            simp [eqGuard, hg', binOp, Op.equal, this]
        · obtain ⟨v, hv, rfl⟩ := out_some h
          cases hq : aeq P 5 ty (.agg a) (.agg b) with
          | none => rw [hq] at hv; cases hv
          | some r =>
            rw [hq] at hv
            injection hv with hv; subst hv
            refine .value (u := .bool !r) ?_ (Did.same hm (.d _ _ (.bool !r)))
            have := aeq_ok 5 (Op.maxDepth - 5) ty _ _ r _ _ hq rx ry
            simp only [execOp, hop]
            refine next_value ?_
            rw [hus, hvs] at this ⊢
            have e : 5 + (Op.maxDepth - 5) = Op.maxDepth := rfl
            rw [e] at this
            simp [eqGuard, hg', binOp, Op.equal, this]
        · cases h
    · rename_i a b _ ha hb
      rw [ha] at hx; rw [hb] at hy
      obtain ⟨v, hv, rfl⟩ := out_some h
      cases hq : abin (tyBool P ty) op a b with
      | none => rw [hq] at hv; cases hv
      | some d =>
        rw [hq] at hv
        injection hv with hv; subst hv
        obtain ⟨z, k1, k2⟩ := abin_ok (x := x) (y := y) hq hx.dat hy.dat
        refine .value ?_ (Did.same hm (.d _ _ k2))
        simp only [execOp, hop]
        exact next_value k1
    · cases h
  case unOp op ty x =>
    have hx := hρ x
    dsimp only at h
    split at h
    · rename_i a ha
      rw [ha] at hx
      obtain ⟨v, hv, rfl⟩ := out_some h
      cases hq : aun op a with
      | none => rw [hq] at hv; cases hv
      | some d =>
        rw [hq] at hv
        injection hv with hv; subst hv
        unfold aun at hq
        split at hq
        · injection hq with hq; subst hq
          refine .value ?_ (Did.same hm (.d _ _ (.int _ _)))
          simp only [execOp, hop, hx.int]
          exact next_value (by simp [Op.unary, Op.intArith])
        · injection hq with hq; subst hq
          refine .value ?_ (Did.same hm (.d _ _ (.bool _)))
          simp only [execOp, hop, hx.bool]
          exact next_value (by simp [Op.unary])
        · injection hq with hq; subst hq
          refine .value ?_ (Did.same hm (.d _ _ (.int _ _)))
          simp only [execOp, hop, hx.int]
          exact next_value (by simp [Op.unary, Op.intBits, bits])
        · cases hq
    · cases h
  case convert src dst x =>
    have hx := hρ x
    dsimp only at h
    split at h
    · rename_i k0 k k1 n h1 h2 hn
      rw [hn] at hx
      injection h with h; subst h
      refine .value ?_ (Did.same hm (.d _ _ (.int _ _)))
      simp only [execOp, hop, hx.int]
      have u1 : P.underlying src = some (.int k0) := by
        unfold tyInt at h1; split at h1
        · injection h1 with h1; subst h1; assumption
        · cases h1
      have u2 : P.underlying dst = some (.int k) := by
        unfold tyInt at h2; split at h2
        · injection h2 with h2; subst h2; assumption
        · cases h2
      exact next_value (by simp [convert, ty_und u1, ty_und u2, Conv.intToInt])
    · cases h
  case makeFunc fn a b =>
    cases fn with
    | func f =>
      injection h with h; subst h
      refine .value ?_ (Did.same hm (.clo f _ _ (a.map ρ) (b.map ρ) (by simp) (by simp) (fun i v u h1 h2 => ?_) (fun i v u h1 h2 => ?_)))
      · simp [execOp, hop, Instr.makeFunc]
      · exact (Vals.map hρ a.toList).2 i v u h1 (by rw [← h2]; simp)
      · exact (Vals.map hρ b.toList).2 i v u h1 (by rw [← h2]; simp)
    | _ => cases h
  case makeMap ty r =>
    cases r with
    | some _ => cases h
    | none =>
      dsimp only at h
      split at h
      · injection h with h; subst h
        rw [hLn (by simp [makesL])]
        refine .value ?_ (new_map hM hm)
        simp only [execOp, hop]
        exact next_value (by simp only [Instr.makeMap, Option.map_none, Sem.run_bind, Sem.run_pure, Result.andThen_ok, run_newObj, World.alloc_eq])
      · cases h
  case makeSlice ty n k =>
    dsimp only at h
    obtain ⟨u, w', k1, k2⟩ := amakeSlice_ok hM hm (hnew (by simp [makesL])) h (hρ n) (hρ k)
    refine .value ?_ k2
    simp only [execOp, hop]
    exact next_value k1
  case slice ty x lo hi mx =>
    dsimp only at h
    obtain ⟨v, hv, rfl⟩ := out_some h
    obtain ⟨u, k1, k2⟩ := aslice_ok hm hs hv (hρ x) (OptVal.map hρ lo) (OptVal.map hρ hi) (OptVal.map hρ mx)
    refine .value ?_ (Did.same hm k2)
    simp only [execOp, hop]
    exact next_value k1
  case fieldAddr s x f =>
    dsimp only at h
    split at h
    · rename_i hk
      obtain ⟨v, hv, rfl⟩ := out_some h
      obtain ⟨q1, q2, q3⟩ := okPtr_ptr hs hk
      obtain ⟨u, k1, k2⟩ := afieldAddr_ok hv (hρ x) (fun g n off e => (q1 g n off e).2) q2
      refine .value ?_ (Did.same hm k2)
      simp only [execOp, hop]
      exact next_value k1
    · cases h
  case field s x f =>
    have hx := hρ x
    dsimp only at h
    split at h
    · rename_i cs off size ag hc hf hfa
      rw [hc] at hx
      obtain ⟨v, hv, rfl⟩ := out_some h
      cases hq : partD ag size off cs with
      | none => rw [hq] at hv; cases hv
      | some d =>
        rw [hq] at hv
        injection hv with hv; subst hv
        obtain ⟨us, hus, z1, z2, z3⟩ := hx.agg
        obtain ⟨fs, fl, e1, e2, e3, e4⟩ := ty_fld hf
        obtain ⟨fs', fl', e1', e2', e4'⟩ := ty_fldAgg hfa
        rw [e1] at e1'; injection e1' with e1'; injection e1' with e1'; subst e1'
        rw [e2] at e2'; injection e2' with e2'; subst e2'
        obtain ⟨u, p1, p2, p3⟩ := part_rep hq z1 (fun i d u h1 h2 => ⟨z2 i d u h1 h2, z3 i u h2⟩)
        refine .value ?_ (Did.same hm (.d _ _ p1))
        simp only [execOp, hop, hus]
        have hp := run_part (w := w) (off := off) (cs := us) (v := u) e4' e4 (by
          split
          · rename_i ht; rw [if_pos ht] at p2; exact p2.1
          · rename_i ht; rw [if_neg ht] at p2; exact p2.1)
        exact next_value (by simp [Instr.field, ty_und e1, e2, asAgg, e3, hp])
    · cases h
  case indexAddr ty x i =>
    dsimp only at h
    split at h
    · rename_i hk
      obtain ⟨v, hv, rfl⟩ := out_some h
      obtain ⟨q1, q2, q3⟩ := okPtr_ptr hs hk
      obtain ⟨u, k1, k2⟩ := aindexAddr_ok hm hs hv (hρ x) (hρ i) (fun g n off e => (q1 g n off e).1) q3
      refine .value ?_ (Did.same hm k2)
      simp only [execOp, hop]
      exact next_value k1
    · cases h
  case index ty x i =>
    have hx := hρ x
    have hi := hρ i
    dsimp only at h
    split at h
    · rename_i cs k n hc hn
      rw [hc] at hx
      rw [hn] at hi
      split at h
      · rename_i kk sz ag ht
        split at h
        · rename_i hb
          obtain ⟨v, hv, rfl⟩ := out_some h
          cases hq : partD ag sz (n.toNat * sz) cs with
          | none => rw [hq] at hv; cases hv
          | some d =>
            rw [hq] at hv
            injection hv with hv; subst hv
            obtain ⟨us, hus, z1, z2, z3⟩ := hx.agg
            obtain ⟨e, e1, e2, e3⟩ := ty_arr ht
            obtain ⟨u, p1, p2, p3⟩ := part_rep hq z1 (fun i d u h1 h2 => ⟨z2 i d u h1 h2, z3 i u h2⟩)
            refine .value ?_ (Did.same hm (.d _ _ p1))
            simp only [execOp, hop, hus, hi.int]
            have hp := run_part (w := w) (off := n.toNat * sz) (cs := us) (v := u) e3 e2 (by
              split
              · rename_i ht; rw [if_pos ht] at p2; exact p2.1
              · rename_i ht; rw [if_neg ht] at p2; exact p2.1)
            exact next_value (by simp [Instr.index, asIntOf, ty_und e1, hb.1, hb.2, ty_size e2, hp])
        · cases h
      · cases h
    · cases h
  case lookup ty m k ok =>
    dsimp only at h
    obtain ⟨v, hv, rfl⟩ := out_some h
    obtain ⟨u, k1, k2⟩ := alookup_ok hm hs hv (hρ m) (hρ k)
    refine .value ?_ (Did.same hm k2)
    simp only [execOp, hop]
    exact next_value k1
  case mapUpdate ty m k v =>
    dsimp only at h
    obtain ⟨w', k1, k2⟩ := amapUpdate_ok hM hm hs h (hρ m) (hρ k) (hρ v)
    refine .skip ?_ k2
    simp only [execOp, hop]
    exact next_skip k1
  case insert ty m k v =>
    dsimp only at h
    obtain ⟨w', k1, k2⟩ := amapUpdate_ok hM hm hs h (hρ m) (hρ k) (hρ v)
    refine .skip ?_ k2
    simp only [execOp, hop]
    exact next_skip k1
  case extract x i =>
    have hx := hρ x
    dsimp only at h
    split at h
    · rename_i l hl
      rw [hl] at hx
      obtain ⟨v, hv, rfl⟩ := out_some h
      cases hq : l[i]? with
      | none => rw [hq] at hv; cases hv
      | some d =>
        rw [hq] at hv
        injection hv with hv; subst hv
        have hr := hx.dat
        generalize hu : ρ x = u at *
        cases hr with
        | tup _ vs a1 a2 =>
          have hi : i < vs.size := by rw [a1]; exact (List.getElem?_eq_some_iff.1 hq).1
          have hvi := Array.getElem?_eq_getElem hi
          refine .value ?_ (Did.same hm (.d _ _ (a2 i d _ hq hvi)))
          simp [execOp, hop, hu, Instr.extract, hvi]
    · rename_i l hl
      rw [hl] at hx
      obtain ⟨v, hv, rfl⟩ := out_some h
      generalize hu : ρ x = u at *
      cases hx with
      | tup _ vs a1 a2 =>
        have hi : i < vs.size := by rw [a1]; exact (List.getElem?_eq_some_iff.1 hv).1
        have hvi := Array.getElem?_eq_getElem hi
        refine .value ?_ (Did.same hm (a2 i v _ hv hvi))
        simp [execOp, hop, hu, Instr.extract, hvi]
    · cases h
  case call cl =>
    obtain ⟨callee, args, argTypes⟩ := cl
    cases callee with
    | invoke _ _ => cases h
    | value f =>
      dsimp only at h
      have hv := Vals.map hρ args.toList
      obtain ⟨k, as, k1, k2⟩ := acall_ok hM hΓ hm hs (hcall (by simp [makesL])) hG h (hρ f) (us := args.map ρ) (by simpa using hv)
      refine .inr (.inr ⟨k, as, ?_, k2⟩)
      simp only [execOp, hop, resolve]
      exact k1
    | builtin b =>
      cases b <;> first | (cases h; done) | skip
      case len =>
        dsimp only at h
        split at h
        · rename_i x ty ha hty
          have hargs : args = #[x] := by apply Array.ext'; simpa using ha
          have hat : argTypes = #[ty] := by apply Array.ext'; simpa using hty
          subst hargs; subst hat
          cases hl : alen P Lr ty (ρa x) with
          | none => rw [hl] at h; cases h
          | some n =>
          rw [hl] at h
          injection h with h; subst h
          refine .value ?_ (Did.same hm (.d _ _ (.int .i64 n)))
          have hx := hρ x
          simp only [execOp, hop, resolve, Sem.run_bind, Sem.run_pure, Result.andThen_ok, invoke, builtin]
          suffices hh : (Builtin.len_ #[ty] o.type (#[x].map ρ)).run P w = .ok (.int .i64 n) w by rw [hh]; rfl
          unfold alen at hl
          split at hl
          · rename_i s hs'
            split at hl
            · rename_i ht
              injection hl with hl; subst hl
              rw [hs'] at hx
              have hr := hx.dat
              unfold tyStr at ht
              split at ht
              · rename_i hu
                generalize hv : ρ x = u at *
                cases hr
                simp [Builtin.len_, ty_und hu, hv, goInt]
              · cases ht
            · cases hl
          · split at hl
            · rename_i ht
              cases he : tyElem P ty with
              | none => rw [he] at ht; cases ht
              | some sz =>
                obtain ⟨e, h1, _⟩ := ty_elem he
                cases hq : elsOf Lr (ρa x) with
                | none => rw [hq] at hl; cases hl
                | some l =>
                  rw [hq] at hl
                  injection hl with hl; subst hl
                  obtain ⟨a, cap, hu, _⟩ := els_ok hm hs hq hx
                  simp [Builtin.len_, ty_und h1, hu, goInt]
            · cases hl
        · cases h
      case min =>
        dsimp only at h
        split at h
        · rename_i a b ha
          injection h with h; subst h
          obtain ⟨l, hl⟩ : ∃ l, args.toList = l := ⟨_, rfl⟩
          rw [hl] at ha
          cases l with
          | nil => cases ha
          | cons x l => cases l with
            | nil => simp at ha
            | cons y l => cases l with
              | cons _ _ => simp at ha
              | nil =>
                have hargs : args = #[x, y] := by apply Array.ext'; simpa using hl
                subst hargs
                simp at ha
                have hx := hρ x; rw [ha.1] at hx
                have hy := hρ y; rw [ha.2] at hy
                refine .value ?_ (Did.same hm (.d _ _ (.int .i64 (min a b))))
                simp only [execOp, hop, resolve, Sem.run_bind, Sem.run_pure, Result.andThen_ok, invoke, builtin]
                suffices hh : (Builtin.min_ argTypes o.type (#[x, y].map ρ)).run P w = .ok (.int .i64 (min a b)) w by rw [hh]; rfl
                simp [Builtin.min_, hx.int, hy.int, Builtin.min2]
                split <;> omega
        · cases h
      case max =>
        dsimp only at h
        split at h
        · rename_i a b ha
          injection h with h; subst h
          obtain ⟨l, hl⟩ : ∃ l, args.toList = l := ⟨_, rfl⟩
          rw [hl] at ha
          cases l with
          | nil => cases ha
          | cons x l => cases l with
            | nil => simp at ha
            | cons y l => cases l with
              | cons _ _ => simp at ha
              | nil =>
                have hargs : args = #[x, y] := by apply Array.ext'; simpa using hl
                subst hargs
                simp at ha
                have hx := hρ x; rw [ha.1] at hx
                have hy := hρ y; rw [ha.2] at hy
                refine .value ?_ (Did.same hm (.d _ _ (.int .i64 (max a b))))
                simp only [execOp, hop, resolve, Sem.run_bind, Sem.run_pure, Result.andThen_ok, invoke, builtin]
                suffices hh : (Builtin.max_ argTypes o.type (#[x, y].map ρ)).run P w = .ok (.int .i64 (max a b)) w by rw [hh]; rfl
                simp [Builtin.max_, hx.int, hy.int, Builtin.max2]
                split <;> omega
        · cases h
      case append =>
        dsimp only at h
        split at h
        · rename_i s x ty ty2 ha hty
          have hargs : args = #[s, x] := by apply Array.ext'; simpa using ha
          have hat : argTypes = #[ty, ty2] := by apply Array.ext'; simpa using hty
          subst hargs; subst hat
          split at h
          · rename_i h2
            obtain ⟨u, w', k1, k2⟩ := aappend_ok (rty := o.type) hM hm hs (hnew (by simp [makesL])) h h2 (hρ s) (hρ x)
            refine .value ?_ k2
            simp only [execOp, hop, resolve, Sem.run_bind, Sem.run_pure, Result.andThen_ok, invoke, builtin]
            have k1' : (Builtin.append_ #[ty, ty2] o.type (#[s, x].map ρ)).run P w = .ok u w' := by simpa using k1
            rw [k1']; rfl
          · cases h
        · cases h
      case copy =>
        dsimp only at h
        split at h
        · rename_i s x ty tys ha hty
          have hargs : args = #[s, x] := by apply Array.ext'; simpa using ha
          have hat : argTypes = (ty :: tys).toArray := by apply Array.ext'; simpa using hty
          subst hargs; subst hat
          obtain ⟨u, w', k1, k2⟩ := acopy_ok (rty := o.type) (tys := tys) hM hm hs h (hρ s) (hρ x)
          refine .value ?_ k2
          simp only [execOp, hop, resolve, Sem.run_bind, Sem.run_pure, Result.andThen_ok, invoke, builtin]
          have k1' : (Builtin.copy_ (ty :: tys).toArray o.type (#[s, x].map ρ)).run P w = .ok u w' := by simpa using k1
          rw [k1']; rfl
        · cases h
  all_goals cases h
end
end Wf
