/-
  Functions, so that what they answer can be read off.
-/
import Derived.ProofKit
import Derived.WalkKit
import Derived.OpenShut
import Derived.Carry
import Derived.Test.YtgekoicndhcghaaFd
set_option linter.unusedVariables false
set_option linter.unusedSimpArgs false
set_option linter.unnecessarySimpa false
namespace Wf
open Go Go.RowKit

section
variable {R : Type}

def aresK1 (P : Program) (s : St) (x : ResultVar) (k : V → Option R) : Option R := match x with
  | .tmp t => k (s.slots.getD t (.d .undef))
  | .cell a t => loadK P s.L t (s.slots.getD a (.d .undef)) k
def aresKs (P : Program) (s : St) : List ResultVar → (List V → Option R) → Option R
  | [], k => k []
  | x :: r, k => aresK1 P s x fun v => aresKs P s r fun vs => k (v :: vs)
def prepK (L : Loc) : List Nat → List V → (List V → Loc → Option R) → Option R
  | [], [], k => k [] L
  | sz :: szs, v :: vs, k => if keepV sz v = true then prepK L szs vs fun xs L' => k (v :: xs) L' else toDK L v fun d w => updK L w fun L1 => prepK L1 szs vs fun xs L' => k (.d d :: xs) L'
  | _, _, _ => none
def sealK (L : Loc) (sz : Nat) (v : V) (k : Option Nat × D → Option R) : Option R := match v with
  | .d x => if 0 < sz then (match x with
    | .sl .full [] => k (none, .sl .own [])
    | .sl .nil [] => k (none, .sl .own [])
    | x => sif (x.free = true) (k (none, x))) else sif (x.free = true) (k (none, x))
  | .p _ x => sif (x.free = true) (k (none, x))
  | .ref g n off len => match off, L.get g n with
    | 0, .arr sz' els true => if sz' = sz ∧ (g < 90000 ∨ n = 0) then sif (len = els.length) (sif (els.all D.free = true) (k (some g, .sl .own els))) else none
    | _, _ => none
  | .map g n => match L.get g n with
    | .map kk es => if g < 90000 then sif (D.freeE es = true) (k (none, .mp .own kk es)) else none
    | _ => none
  | _ => none
def sealKs (L : Loc) : List Nat → List V → (List (Option Nat × D) → Option R) → Option R
  | [], [], k => k []
  | sz :: szs, v :: vs, k => sealK L sz v fun x => sealKs L szs vs fun xs => k (x :: xs)
  | _, _, _ => none
def aresK (P : Program) (ro : Nat → Bool) (res : List ResultVar) (szs : List Nat) (s : St) (k : D → Loc → Option R) : Option R :=
  aresKs P s res fun vs => prepK s.L szs vs fun vs L => sealKs L szs vs fun rs => if distinct (rs.map (·.1)) = true ∧ (rs.all fun x => match x.1 with | some g => ro g | none => true) = true then (match rs with
      | [(_, d)] => k d L
      | rs => k (.tup (rs.map (·.2))) L) else none
def outsOfK (L : Loc) : List (PM × Nat) → Nat → (List (List D) → Option R) → Option R
  | [], _, k => k []
  | (p, sz) :: r, i, k => if p = .mut then (match L.get (90000 + i) 0 with
      | .arr sz' els true => if sz' = sz then sif (flatEls els = true) (outsOfK L r (i + 1) fun x => k (els :: x)) else none
      | _ => none) else outsOfK L r (i + 1) k

theorem aresK1_some {P : Program} {s : St} {x : ResultVar} {k : V → Option R} {r : R} (h : aresK1 P s x k = some r) : ∃ v, ares1 P s x = some v ∧ k v = some r := by
  cases x with
  | tmp t => exact ⟨_, rfl, h⟩
  | cell a t => exact loadK_some h
theorem aresKs_some {P : Program} {s : St} {r : R} : ∀ {l : List ResultVar} {k : List V → Option R}, aresKs P s l k = some r → ∃ vs, l.mapM (ares1 P s) = some vs ∧ k vs = some r
  | [], k, h => ⟨[], rfl, h⟩
  | x :: l, k, h => by
    obtain ⟨v, h1, h2⟩ := aresK1_some h
    obtain ⟨vs, h3, h4⟩ := aresKs_some (k := fun vs => k (v :: vs)) h2
    exact ⟨v :: vs, by simp [List.mapM_cons, h1, h3], h4⟩
theorem prepK_some {r : R} : ∀ {szs : List Nat} {vs : List V} {L : Loc} {k : List V → Loc → Option R}, prepK L szs vs k = some r → ∃ x, prep L szs vs = some x ∧ k x.1 x.2 = some r
  | [], [], L, k, h => ⟨([], L), rfl, h⟩
  | [], _ :: _, _, k, h => by cases h
  | _ :: _, [], _, k, h => by cases h
  | sz :: szs, v :: vs, L, k, h => by
    simp only [prepK] at h
    simp only [prep]
    split at h
    · rename_i hk
      obtain ⟨x, h1, h2⟩ := prepK_some h
      rw [if_pos hk, h1]
      exact ⟨_, rfl, h2⟩
    · rename_i hk
      obtain ⟨d, w, h1, h2⟩ := toDK_some h
      rw [updK_eq] at h2
      obtain ⟨x, h3, h4⟩ := prepK_some h2
      rw [if_neg hk, h1]
      dsimp only [Option.bind_some]
      rw [h3]
      exact ⟨_, rfl, h4⟩
theorem sealK_some {L : Loc} {sz : Nat} {v : V} {k : Option Nat × D → Option R} {r : R} (h : sealK L sz v k = some r) : ∃ x, sealV L sz v = some x ∧ k x = some r := by
  unfold sealK at h
  split at h
  · rename_i x
    split at h
    · rename_i hsz
      split at h
      · exact ⟨_, by simp only [sealV, if_pos hsz], h⟩
      · exact ⟨_, by simp only [sealV, if_pos hsz], h⟩
      · rename_i hf hn
        obtain ⟨h1, h2⟩ := sif_some h
        refine ⟨(none, x), ?_, h2⟩
        have : sealV L sz (.d x) = if x.free = true then some ((none : Option Nat), x) else none := by
          cases x with
          | sl t l => cases l <;> cases t <;> first | rfl | exact (hf rfl).elim | exact (hn rfl).elim
          | _ => rfl
        rw [this, if_pos h1]
    · rename_i hsz
      obtain ⟨h1, h2⟩ := sif_some h
      refine ⟨(none, x), ?_, h2⟩
      cases x with
      | sl t l => cases l <;> cases t <;> simp_all [sealV, D.free, D.freeL]
      | _ => simp only [sealV, if_pos h1]
  · obtain ⟨h1, h2⟩ := sif_some h
    exact ⟨_, by simp only [sealV, h1, if_true], h2⟩
  · rename_i g n off len
    split at h
    · rename_i sz' els e
      split at h
      · rename_i hc
        obtain ⟨h1, h2⟩ := sif2_some h
        refine ⟨_, ?_, h2⟩
        simp only [sealV, e]
        exact if_pos ⟨h1.1, hc.1, h1.2, hc.2⟩
      · cases h
    · cases h
  · split at h
    · rename_i kk es e
      split at h
      · rename_i hg
        obtain ⟨h1, h2⟩ := sif_some h
        refine ⟨_, ?_, h2⟩
        simp only [sealV, e]
        exact if_pos ⟨hg, h1⟩
      · cases h
    · cases h
  · cases h
theorem sealKs_some {L : Loc} {r : R} : ∀ {szs : List Nat} {vs : List V} {k : List (Option Nat × D) → Option R}, sealKs L szs vs k = some r → ∃ rs, sealL L szs vs = some rs ∧ k rs = some r
  | [], [], k, h => ⟨[], rfl, h⟩
  | [], _ :: _, k, h => by cases h
  | _ :: _, [], k, h => by cases h
  | sz :: szs, v :: vs, k, h => by
    obtain ⟨x, h1, h2⟩ := sealK_some h
    obtain ⟨xs, h3, h4⟩ := sealKs_some (k := fun xs => k (x :: xs)) h2
    exact ⟨x :: xs, by simp [sealL, h1, h3], h4⟩
theorem aresK_some {P : Program} {ro : Nat → Bool} {res : List ResultVar} {szs : List Nat} {s : St} {k : D → Loc → Option R} {r : R} (h : aresK P ro res szs s k = some r) : ∃ d L, ares P ro res szs s = some (d, L) ∧ k d L = some r := by
  obtain ⟨vs, h1, h2⟩ := aresKs_some h
  obtain ⟨⟨vs', L⟩, h3, h4⟩ := prepK_some h2
  obtain ⟨rs, h5, h6⟩ := sealKs_some h4
  split at h6
  · rename_i hd
    unfold ares
    rw [h1]
    dsimp only [Option.bind_some]
    rw [h3]
    dsimp only [Option.bind_some] at h5 ⊢
    rw [h5]
    dsimp only [Option.bind_some]
    split at h6
    · exact ⟨_, _, if_pos hd, h6⟩
    · rename_i hno
      refine ⟨_, _, (if_pos hd).trans ?_, h6⟩
      split
      · exact (hno _ _ rfl).elim
      · rfl
  · cases h6
theorem outsOfK_some {L : Loc} {r : R} : ∀ {pms : List (PM × Nat)} {i : Nat} {k : List (List D) → Option R}, outsOfK L pms i k = some r → ∃ x, outsOf L pms i = some x ∧ k x = some r
  | [], i, k, h => ⟨[], rfl, h⟩
  | (p, sz) :: pms, i, k, h => by
    simp only [outsOfK] at h
    simp only [outsOf]
    split at h
    · rename_i hp
      rw [if_pos hp]
      split at h
      · rename_i sz' els e
        rw [e]
        dsimp only
        split at h
        · rename_i hs
          obtain ⟨h1, h2⟩ := sif_some h
          obtain ⟨x, h3, h4⟩ := outsOfK_some h2
          exact ⟨_, by rw [if_pos ⟨hs, h1⟩, h3]; rfl, h4⟩
        · cases h
      · cases h
    · rename_i hp
      rw [if_neg hp]
      exact outsOfK_some h

/-- Arguments, as a callee sees them. -/
def D.lnt : D → D
  | .sl _ l => .sl .lent (D.lentL l)
  | d => d.lent
def lentAs (h : Option Sh) (d : D) : D := match h with
  | some _ => d.lent
  | none => d.lnt
def prepA (pms : List (PM × Nat)) (hs : Hints) : Nat → List D → List D
  | _, [] => []
  | i, d :: r => (if (pmAt pms i).1 = .lent then lentAs (hs.at i) d else d) :: prepA pms hs (i + 1) r
def initW (pms : List (PM × Nat)) (i : Nat) (d : D) : V := if (pmAt pms i).1 = .lent then .d d else match d with
  | .sl .own els => .ref (90000 + i) 0 0 els.length
  | _ => .d .undef
def initWs (pms : List (PM × Nat)) : Nat → List D → List V
  | _, [] => []
  | i, d :: r => initW pms i d :: initWs pms (i + 1) r
/-- Rows that may be handed over as results. -/
def mayGo (pms : List (PM × Nat)) (g : Nat) : Bool := decide (g < 90000) || decide ((pmAt pms (g - 90000)).1 = .own)
/-- What a function's body answers. -/
noncomputable def denB (P : Program) (Γ : Env) (ann : Ann) (szs : List Nat) (fn : Func) (code : Code) (ds : List D) (Ts : List Tb) (fin : D → List (List D) → List Tb → Option R) : Option R :=
  decPs P ann.pms ann.hints 0 fn.params.toList ds fun ds => tellK ann.ks.length Ts fun Ts => if ds.length ≤ 1000 ∧ (ann.ks.map (·.1)).Nodup then
    forceL (initWs ann.pms 0 ds ++ List.replicate (fn.ntmps - ds.length) (.d .undef)) fun slots => den P Γ ann slots.length 0 code (fun e s => match e with
      | .exit _ => none
      | _ => aresK P (mayGo ann.pms) fn.results.toList szs s fun d L => match tabsOf L (ann.ks.filter (·.2)) with
        | some tbs => outsOfK L ann.pms 0 fun outs => fin d outs tbs
        | none => none) { slots, L := initL ann.pms ds ann.ks Ts } else none
noncomputable def denF (P : Program) (Γ : Env) (ann : Ann) (szs : List Nat) (f : FuncId) (ds : List D) (Ts : List Tb) (fin : D → List (List D) → List Tb → Option R) : Option R :=
  match P.funcs[f]? with
  | some fn => match fn.body with
    | some code => denB P Γ ann szs fn code ds Ts fin
    | none => none
  | none => none
noncomputable def denS (P : Program) (Γ : Env) (ann : Ann) (szs : List Nat) (f : FuncId) (ds : List D) (Ts : List Tb) : Option Ans := denF P Γ ann szs f (prepA ann.pms ann.hints 0 ds) Ts fun d outs tbs => some ⟨d, outs, tbs⟩
/-- .. of functions that turn no tables. -/
noncomputable def denP (P : Program) (Γ : Env) (ann : Ann) (szs : List Nat) (f : FuncId) (ds : List D) : Option D := match ann.pms, ann.ks with
  | [], [] => denF P Γ ann szs f (prepA ann.pms ann.hints 0 ds) [] fun d _ _ => some d
  | _, _ => none
end

mutual
theorem lent_idem : ∀ d : D, d.lent.lent = d.lent
  | .agg cs => by simp only [D.lent, lentL_idem cs]
  | .sl .nil l => by simp only [D.lent, lentL_idem l]
  | .sl .lent l => by simp only [D.lent, lentL_idem l]
  | .sl .fresh l => by simp only [D.lent, lentL_idem l]
  | .sl .full l => by simp only [D.lent, lentL_idem l]
  | .sl .own l => by simp only [D.lent, lentL_idem l]
  | .sl .nn [] => rfl
  | .sl .nul [] => rfl
  | .sl .nn (d :: l) => by simp only [D.lent, lentL_idem (d :: l)]
  | .sl .nul (d :: l) => by simp only [D.lent, lentL_idem (d :: l)]
  | .mp t k es => by simp only [D.lent, lentE_idem es]
  | .fn f a b => by simp only [D.lent, lentL_idem a, lentL_idem b]
  | .at_ d => by simp only [D.lent, lent_idem d]
  | .tup l => by simp only [D.lent, lentL_idem l]
  | .undef | .bool _ | .int _ _ | .str _ | .nilm | .nilp | .nilfn | .h _ _ _ => rfl
theorem lentL_idem : ∀ l : List D, D.lentL (D.lentL l) = D.lentL l
  | [] => rfl
  | d :: l => by simp only [D.lentL, lent_idem d, lentL_idem l]
theorem lentE_idem : ∀ l : List (Int × D), D.lentE (D.lentE l) = D.lentE l
  | [] => rfl
  | p :: l => by simp only [D.lentE, lentP_idem p, lentE_idem l]
theorem lentP_idem : ∀ p : Int × D, D.lentP (D.lentP p) = D.lentP p
  | (n, d) => by simp only [D.lentP, lent_idem d]
end

theorem lnt_idem (d : D) : d.lnt.lent = d.lnt := by
  cases d with
  | sl t l => simp only [D.lnt, D.lent, lentL_idem]
  | _ => exact lent_idem _
theorem lentAs_idem (h : Option Sh) (d : D) : (lentAs h d).lent = lentAs h d := by
  cases h with
  | none => exact lnt_idem d
  | some _ => exact lent_idem d
theorem lentAs_rep {w A N γ} (h : Option Sh) {d : D} {u : Value} (hr : Rep w A N γ d.lent u) : Rep w A N γ (lentAs h d) u := by
  cases h with
  | some _ => exact hr
  | none =>
    show Rep w A N γ d.lnt u
    cases d with
    | sl t l =>
      cases t with
      | nil =>
        simp only [D.lnt]
        simp only [D.lent] at hr
        generalize D.lentL l = l' at *
        cases hr with
        | slE _ a cap h1 h2 _ => exact .slE _ _ _ (by simp) (by simp) (by simp)
        | sl _ _ _ _ _ _ _ _ h => exact absurd rfl h
      | nn => cases l with
        | nil => cases hr with
          | slE _ a cap h1 h2 _ => exact .slE _ _ _ (by simp) (by simp) (by simp)
          | sl _ _ _ _ _ _ _ h => exact absurd rfl h
        | cons d l => exact hr
      | nul => cases l with
        | nil => cases hr with
          | slE _ a cap h1 h2 _ => exact .slE _ _ _ (by simp) (by simp) (by simp)
          | sl _ _ _ _ _ _ _ h => exact absurd rfl h
        | cons d l => exact hr
      | _ => exact hr
    | _ => exact hr
theorem prepA_get {pms : List (PM × Nat)} {hs : Hints} : ∀ {ds : List D} {i j : Nat}, (prepA pms hs i ds)[j]? = (ds[j]?).map fun d => if (pmAt pms (i + j)).1 = .lent then lentAs (hs.at (i + j)) d else d
  | [], i, j => by simp [prepA]
  | d :: ds, i, 0 => by simp [prepA]
  | d :: ds, i, j + 1 => by
    simp only [prepA, List.getElem?_cons_succ]
    rw [prepA_get, show i + 1 + j = i + (j + 1) by omega]
theorem prepA_len {pms : List (PM × Nat)} {hs : Hints} : ∀ {ds : List D} {i : Nat}, (prepA pms hs i ds).length = ds.length
  | [], i => rfl
  | d :: ds, i => by simp [prepA, prepA_len]
theorem initWs_eq {pms : List (PM × Nat)} : ∀ {ds : List D} {i : Nat}, (∀ j d, ds[j]? = some d → (pmAt pms (i + j)).1 = .lent → d.lent = d) → initWs pms i ds = initVs pms i ds
  | [], i, _ => rfl
  | d :: ds, i, h => by
    simp only [initWs, initVs]
    rw [initWs_eq fun j d' hd hl => h (j + 1) d' (by simpa using hd) (by rw [← hl]; congr 2; omega)]
    congr 1
    unfold initW initV
    split
    · rename_i hl
      rw [h 0 d (by simp) hl]
    · rfl

section
variable {P : Program} {Γ : Env}

theorem denF_ok (hΓ : ∀ f sp, Γ f = some sp → Sound P f sp) (hP : P.follows .mixedOrders = true) {ann : Ann} {szs : List Nat} {f : FuncId} (hf : ∃ fn, P.funcs[f]? = some fn ∧ (fn.name == "runtime.NumGoroutine") = false ∧ fn.body.isNone = false)
    {R : Type} {fin : D → List (List D) → List Tb → Option R} {a : R} {ds0 : List D} {Ts : List Tb} (h : denF P Γ ann szs f (prepA ann.pms ann.hints 0 ds0) Ts fin = some a) (hTl : Ts.length = ann.ks.length) {w : World} {γ : Nat → Nat → Option Nat} {ρ : Nat → Nat → Nat → Option Nat} {O : Nat → Prop} {gv : Nat → Option Nat} {us : List Value}
    (hT : TabRel (tabsLoc ann.ks Ts) (ctxOf γ ρ O) (fun b => b < w.heap.size ∧ ¬ (O b ∨ Gv gv b)) w) (hO : ∀ b, O b → b < w.heap.size ∧ Ows (ctxOf γ ρ O) (tabsLoc ann.ks Ts) (· ∈ ksW ann.ks) b) (hgv : ∀ i b, gv i = some b → b < w.heap.size ∧ ¬ O b) (hinj : ∀ i j b, gv i = some b → gv j = some b → i = j) (hlen : ∀ i, ds0.length ≤ i → gv i = none)
    (hargs : ArgsOk w (fun b => O b ∨ Gv gv b) γ ann.pms gv ds0 us) :
    Calls P f us.toArray w fun e w' => ∃ d outs tbs, fin d outs tbs = some a ∧ ∃ v γ' ρ' O', e = .returned v ∧ Turned w w' γ γ' ρ ρ' O O' ann.pms gv ann.ks ds0 Ts (newTabs ann.ks Ts tbs) outs szs d v := by
  obtain ⟨fn, hf, _, hbn⟩ := hf
  unfold denF at h
  rw [hf] at h
  dsimp only at h
  cases hb : fn.body with
  | none => rw [hb] at hbn; cases hbn
  | some code =>
  rw [hb] at h
  dsimp only at h
  unfold denB at h
  have h1 := decPs_some h
  have h2 : (prepA ann.pms ann.hints 0 ds0).length = ds0.length := prepA_len
  have h3 : ∀ (j : Nat) (d : D), (prepA ann.pms ann.hints 0 ds0)[j]? = some d → ∃ d0, ds0[j]? = some d0 ∧ d = if (pmAt ann.pms j).1 = .lent then lentAs (ann.hints.at j) d0 else d0 := by
    intro j d hd
    rw [prepA_get, Nat.zero_add] at hd
    cases h : ds0[j]? with
    | none => rw [h] at hd; cases hd
    | some d0 => rw [h] at hd; exact ⟨d0, rfl, (Option.some.inj hd).symm⟩
  generalize prepA ann.pms ann.hints 0 ds0 = ds at h1 h2 h3
  obtain ⟨_, h4⟩ := tellK_some h1
  split at h4
  rotate_left
  · cases h4
  rename_i hc
  obtain ⟨hn, hnd⟩ := hc
  rw [forceL_eq] at h4
  have hget : ∀ (j : Nat) (d : D), ds[j]? = some d → ∃ d0, ds0[j]? = some d0 ∧ ((pmAt ann.pms j).1 ≠ .lent → d = d0) ∧ ((pmAt ann.pms j).1 = .lent → d = lentAs (ann.hints.at j) d0) := by
    intro j d hd
    obtain ⟨d0, e1, e2⟩ := h3 j d hd
    exact ⟨d0, e1, fun hl => by rw [e2, if_neg hl], fun hl => by rw [e2, if_pos hl]⟩
  have hargs' : ArgsOk w (fun b => O b ∨ Gv gv b) γ ann.pms gv ds us := by
    refine ⟨by rw [h2]; exact hargs.1, fun i d u hd hu => ?_⟩
    obtain ⟨d0, e1, e2, e3⟩ := hget i d hd
    obtain ⟨a1, a2⟩ := hargs.2 i d0 u e1 hu
    refine ⟨fun hl => ⟨(a1 hl).1, by rw [e3 hl]; exact lentAs_rep _ ((a1 hl).2.lent _)⟩, fun hl => ?_⟩
    rw [e2 hl]; exact a2 hl
  have hslots : initWs ann.pms 0 ds = initVs ann.pms 0 ds := by
    refine initWs_eq fun j d hd hl => ?_
    rw [Nat.zero_add] at hl
    obtain ⟨d0, e1, e2, e3⟩ := hget j d hd
    rw [e3 hl]; exact lentAs_idem _ _
  have hlen' : ∀ i, ds.length ≤ i → gv i = none := fun i hi => hlen i (by omega)
  have h0 := init_ok (n := fn.ntmps) hn hT (fun b h => (hO b h).1) hgv hinj hargs'
  refine calls_of_wp hf hb ?_
  rw [hslots] at h4
  refine den_ok hΓ hP code 0 _ _ _ w h4 ⟨_, h0⟩ _ fun e s at' w' he hr => ?_
  have hen : (e = .normal ∨ e = .ret) ∧ aresK P (mayGo ann.pms) fn.results.toList szs s (fun d L => match tabsOf L (ann.ks.filter (·.2)) with
        | some tbs => outsOfK L ann.pms 0 fun outs => fin d outs tbs
        | none => none) = some a := by
    cases e with
    | normal => exact ⟨.inl rfl, he⟩
    | ret => exact ⟨.inr rfl, he⟩
    | exit id => cases he
  obtain ⟨hen, hk⟩ := hen
  obtain ⟨d, L', ha, hd⟩ := aresK_some hk
  split at hd
  rotate_left
  · cases hd
  rename_i tbs htb
  obtain ⟨outs, ho, hd⟩ := outsOfK_some hd
  obtain ⟨c, hc⟩ := hr
  obtain ⟨v, k1, k2, k3⟩ := ares_ok (Og := OwnG ann.pms gv) hc (fun g b hg1 hg2 hg3 => by
    simp only [mayGo, Bool.or_eq_true, decide_eq_true_eq] at hg1
    rcases hg1 with hg1 | hg1
    · omega
    · refine ⟨g - 90000, hg1, ?_⟩
      have hg3 : (match given ann.pms ds g with | some _ => gv (g - 90000) | none => none) = some b := hg3
      split at hg3
      · exact hg3
      · cases hg3) ha
  have hturn := end_ok (n := fn.ntmps) hn hT hO hgv hinj hlen' hargs' hTl hnd k2 htb ho k3
  have hturn' : Turned w w' γ c.γ ρ c.ρ O c.O ann.pms gv ann.ks ds0 Ts (newTabs ann.ks Ts tbs) outs szs d v :=
    ⟨hturn.more, hturn.same, hturn.tab, hturn.osub, hturn.kept, fun i sz els els' p1 p2 p3 p4 => hturn.outs i sz els els' p1 (by
      have hi : i < ds.length := by rw [h2]; exact lt_of_get p2
      have hd : ds[i]? = some ds[i] := by simp
      obtain ⟨d0, e1, e2, e3⟩ := hget i _ hd
      rw [hd, e2 (by rw [p1]; simp), ← e1, p2]) p3 p4, hturn.res⟩
  have hfin : at'.defers = [] ∧ ∃ v, (results fn at'.tmps).run P w' = .ok v w' ∧ ∃ d outs tbs, fin d outs tbs = some a ∧ ∃ v' γ' ρ' O', Ending.returned v = .returned v' ∧ Turned w w' γ γ' ρ ρ' O O' ann.pms gv ann.ks ds0 Ts (newTabs ann.ks Ts tbs) outs szs d v' :=
    ⟨hc.defers, v, k1, d, outs, tbs, hd, v, c.γ, c.ρ, c.O, rfl, hturn'⟩
  rcases hen with rfl | rfl
  · exact hfin
  · exact hfin

theorem denS_sound (hΓ : ∀ f sp, Γ f = some sp → Sound P f sp) (hP : P.follows .mixedOrders = true) {ann : Ann} {szs : List Nat} {f : FuncId} (hf : ∃ fn, P.funcs[f]? = some fn ∧ (fn.name == "runtime.NumGoroutine") = false ∧ fn.body.isNone = false) :
    Sound P f (.st ann.pms szs ann.ks (denS P Γ ann szs f)) := by
  refine ⟨hf, fun ds0 Ts a h hTl w γ ρ O gv us hT hO hgv hinj hlen hargs => ?_⟩
  refine (denF_ok hΓ hP hf h hTl hT hO hgv hinj hlen hargs).mono fun e w' ⟨d, outs, tbs, h1, v, γ', ρ', O', h2, h3⟩ => ?_
  injection h1 with h1; subst h1
  exact ⟨v, γ', ρ', O', h2, h3⟩

theorem ResOk.out {w : World} {A A' : Nat → Prop} {N : Nat} {γ} {szs : List Nat} {r : D} {v : Value} (h : ResOk w A N γ szs r v) (hA : ∀ b, A' b → A b) : ResOk w A' N γ szs r v := by
  obtain ⟨ow, h1, h2, h3⟩ := h
  have hcomp : ∀ {β : Option Nat} {sz : Nat} {d : D} {u : Value}, CompOk w (fun b => A b ∨ ∃ i, ow i = some b) N γ β sz d u → CompOk w (fun b => A' b ∨ ∃ i, ow i = some b) N γ β sz d u := by
    intro β sz d u hc
    have hA' : ∀ b, (A' b ∨ ∃ i, ow i = some b) → (A b ∨ ∃ i, ow i = some b) := fun b h => h.imp (hA b) id
    have other : (∀ els, d ≠ .sl .own els) → (β = none ∧ Rep w (fun b => A b ∨ ∃ i, ow i = some b) N γ d u) → (β = none ∧ Rep w (fun b => A' b ∨ ∃ i, ow i = some b) N γ d u) := fun _ h => ⟨h.1, h.2.out hA' (Nat.le_refl _)⟩
    cases d with
    | sl t l =>
      cases t with
      | own =>
        obtain ⟨c1, c2⟩ := hc
        refine ⟨c1, ?_⟩
        cases β with
        | none => exact c2
        | some b =>
          obtain ⟨x, T, fz, p1, p2, p3, vs, p4⟩ := c2
          exact ⟨x, T, fz, p1, p2, p3, vs, fun i d hd => ⟨(p4 i d hd).1.out hA' (Nat.le_refl _), (p4 i d hd).2⟩⟩
      | _ => exact other (by simp) hc
    | _ => exact other (by simp) hc
  refine ⟨ow, h1, fun i b hb => ⟨(h2 i b hb).1, fun h => (h2 i b hb).2 (hA b h)⟩, ?_⟩
  cases r with
  | tup ds =>
    obtain ⟨vs, e1, e2, e3, e4⟩ := h3
    exact ⟨vs, e1, e2, e3, fun i d u sz a b c => hcomp (e4 i d u sz a b c)⟩
  | _ =>
    obtain ⟨sz, e1, e2⟩ := h3
    exact ⟨sz, e1, hcomp e2⟩

theorem denP_sound (hΓ : ∀ f sp, Γ f = some sp → Sound P f sp) (hP : P.follows .mixedOrders = true) {ann : Ann} {szs : List Nat} {f : FuncId} (hf : ∃ fn, P.funcs[f]? = some fn ∧ (fn.name == "runtime.NumGoroutine") = false ∧ fn.body.isNone = false) :
    Sound P f (.pure szs (denP P Γ ann szs f)) := by
  refine ⟨hf, fun ds r h w γ us hus => ?_⟩
  unfold denP at h
  split at h
  rotate_left
  · cases h
  rename_i e1 e2
  have hpm : ∀ i, (pmAt ann.pms i).1 = .lent := fun i => by rw [e1]; rfl
  have hL : ∀ Ts, tabsLoc ann.ks Ts = fun _ => (0, .dead) := by
    intro Ts; rw [e2]; cases Ts <;> rfl
  have hTn : ∀ (Ts : List Tb) k, tabOf (tabsLoc ann.ks Ts) k = none := fun Ts k => by rw [hL]; rfl
  have hT : TabRel (tabsLoc ann.ks []) (ctxOf γ (fun _ _ _ => none) (fun _ => False)) (fun b => b < w.heap.size ∧ ¬ (False ∨ Gv (fun _ => none) b)) w := by
    refine ⟨fun k wr T i cs h => ?_, fun k wr T i b h => ?_, fun k i q k' i' q' b h => ?_, fun k T i q b h => ?_, fun k T i q b h => ?_⟩
    · rw [hTn] at h; cases h
    · rw [hTn] at h; cases h
    · obtain ⟨_, _, h⟩ := h.tab; rw [hTn] at h; cases h
    · rw [hTn] at h; cases h
    · rw [hTn] at h; cases h
  refine (denF_ok hΓ hP hf h (by rw [e2]; rfl) hT (fun b h => h.elim) (fun i b h => by cases h) (fun i j b h => by cases h) (fun _ _ => rfl) ⟨hus.1, fun i d u hd hu => ⟨fun _ => ⟨rfl, (hus.2 i d u hd hu).out (fun b h => by
      rcases h with h | ⟨_, h⟩
      · exact h
      · cases h) (Nat.le_refl _)⟩, fun h => absurd (hpm i) h⟩⟩).mono fun e w' ⟨d, outs, tbs, h1, v, γ', ρ', O', h2, h3⟩ => ?_
  injection h1 with h1; subst h1
  have hγ : γ' = γ := funext fun k => (h3.same k (by rw [e2]; simp [ksW])).1
  subst hγ
  have hno : ∀ b, ¬ OwnG ann.pms (fun _ => none) b := by rintro b ⟨_, _, h⟩; cases h
  refine ⟨v, h2, ⟨h3.kept.os, h3.kept.tape, h3.kept.output, h3.kept.size, fun b hb _ => h3.kept.block b hb (by
    rintro (h | ⟨_, h⟩)
    · exact h
    · cases h), h3.kept.cells⟩, h3.res.out fun b hb => .inl ⟨hb, hno b⟩⟩
end
end Wf

/-
  Functions with tables of their own; functions laid one upon the other.
-/
namespace Wf
open Go Go.RowKit

mutual
/-- Data without handles. -/
def D.noh : D → Bool
  | .h _ _ _ => false
  | .agg cs => D.nohL cs
  | .sl _ l => D.nohL l
  | .mp _ _ es => D.nohE es
  | .fn _ a b => D.nohL a && D.nohL b
  | .at_ d => d.noh
  | .tup l => D.nohL l
  | _ => true
def D.nohL : List D → Bool
  | [] => true
  | d :: r => d.noh && D.nohL r
def D.nohE : List (Int × D) → Bool
  | [] => true
  | p :: r => D.nohP p && D.nohE r
def D.nohP : Int × D → Bool
  | (_, d) => d.noh
end
theorem nohL_get {l : List D} (h : D.nohL l = true) : ∀ {i : Nat} {d : D}, l[i]? = some d → d.noh = true := by
  induction l with
  | nil => intro i d h; simp at h
  | cons x l ih =>
    simp only [D.nohL, Bool.and_eq_true] at h
    intro i d hd
    cases i with
    | zero => simp at hd; subst hd; exact h.1
    | succ i => exact ih h.2 (by simpa using hd)
theorem nohE_get {l : List (Int × D)} (h : D.nohE l = true) : ∀ {i : Nat} {d : Int × D}, l[i]? = some d → d.2.noh = true := by
  induction l with
  | nil => intro i d h; simp at h
  | cons x l ih =>
    simp only [D.nohE, Bool.and_eq_true] at h
    intro i d hd
    cases i with
    | zero => simp at hd; subst hd; obtain ⟨n, y⟩ := x; exact h.1
    | succ i => exact ih h.2 (by simpa using hd)
theorem Rep.noh {w : World} {A : Nat → Prop} {N : Nat} {γ γ' : Nat → Nat → Option Nat} {d : D} {u : Value} (h : Rep w A N γ d u) : d.noh = true → Rep w A N γ' d u := by
  induction h with
  | undef v => exact fun _ => .undef v
  | bool b => exact fun _ => .bool b
  | int k n => exact fun _ => .int k n
  | str s => exact fun _ => .str s
  | nilp => exact fun _ => .nilp
  | nilfn => exact fun _ => .nilfn
  | agg cs vs h1 _ h3 ih => exact fun h => .agg cs vs h1 (fun i d v hd hv => ih i d v hd hv (nohL_get h hd)) h3
  | tup cs vs h1 _ ih => exact fun h => .tup cs vs h1 fun i d v hd hv => ih i d v hd hv (nohL_get h hd)
  | fn f a b va vb h1 h2 _ _ ih1 ih2 =>
    intro h
    simp only [D.noh, Bool.and_eq_true] at h
    exact .fn f a b va vb h1 h2 (fun i d v hd hv => ih1 i d v hd hv (nohL_get h.1 hd)) fun i d v hd hv => ih2 i d v hd hv (nohL_get h.2 hd)
  | slE t a cap h h' h'' => exact fun _ => .slE t a cap h h' h''
  | sl t l b o sz cap vs h1 h1' h2 h3 h4 h5 h6 _ h8 ih => exact fun h => .sl t l b o sz cap vs h1 h1' h2 h3 h4 h5 h6 (fun i d hd => ih i d hd (nohL_get h hd)) h8
  | at_ d v b o h1 h2 h3 _ ih => exact fun h => .at_ d v b o h1 h2 h3 (ih h)
  | h k i off b hn => exact fun h => by cases h
  | nilm => exact fun _ => .nilm
  | mp t k es b m ck h1 h2 h3 h4 h5 h6 _ ih => exact fun h => .mp t k es b m ck h1 h2 h3 h4 h5 h6 fun i e p he hp => ih i e p he hp (nohE_get h hp)
theorem ResOk.noh {w : World} {A : Nat → Prop} {N : Nat} {γ γ' : Nat → Nat → Option Nat} {szs : List Nat} {r : D} {v : Value} (h : ResOk w A N γ szs r v) (hr : r.noh = true) : ResOk w A N γ' szs r v := by
  obtain ⟨ow, h1, h2, h3⟩ := h
  have hcomp : ∀ {A : Nat → Prop} {β : Option Nat} {sz : Nat} {d : D} {u : Value}, d.noh = true → CompOk w A N γ β sz d u → CompOk w A N γ' β sz d u := by
    intro A β sz d u hd hc
    have other : (β = none ∧ Rep w A N γ d u) → (β = none ∧ Rep w A N γ' d u) := fun h => ⟨h.1, h.2.noh hd⟩
    cases d with
    | sl t l =>
      cases t with
      | own =>
        obtain ⟨c1, c2⟩ := hc
        refine ⟨c1, ?_⟩
        cases β with
        | none => exact c2
        | some b =>
          obtain ⟨x, T, fz, p1, p2, p3, vs, p4⟩ := c2
          exact ⟨x, T, fz, p1, p2, p3, vs, fun i d hi => ⟨(p4 i d hi).1.noh (nohL_get hd hi), (p4 i d hi).2⟩⟩
      | _ => exact other hc
    | _ => exact other hc
  refine ⟨ow, h1, h2, ?_⟩
  cases r with
  | tup ds =>
    obtain ⟨vs, e1, e2, e3, e4⟩ := h3
    exact ⟨vs, e1, e2, e3, fun i d u sz a b c => hcomp (nohL_get hr a) (e4 i d u sz a b c)⟩
  | _ =>
    obtain ⟨sz, e1, e2⟩ := h3
    exact ⟨sz, e1, hcomp hr e2⟩

/-- One of two answers, where they are the same. -/
noncomputable def eitherK (x y : Option D) : Option D := open Classical in if x = y then x else none
theorem eitherK_some {x y : Option D} {r : D} (h : eitherK x y = some r) : x = some r ∧ y = some r := by
  unfold eitherK at h
  split at h
  · rename_i e; exact ⟨h, by rw [← e]; exact h⟩
  · cases h
theorem eitherK_same (x : Option D) : eitherK x x = x := by unfold eitherK; simp
/-- A function of one slice, told whether it is nil: where the slice is empty both must answer alike. -/
noncomputable def denE (P : Program) (Γ : Env) (ann : Ann) (szs : List Nat) (f : FuncId) (ds : List D) : Option D := match ds with
  | [.sl _ []] => eitherK (denP P Γ { ann with hints := [(0, .cell .sl)] } szs f [.sl .nul []]) (denP P Γ { ann with hints := [(0, .cell .sl)] } szs f [.sl .nn []])
  | ds => denP P Γ ann szs f ds
theorem denE_sound {P : Program} {Γ : Env} (hΓ : ∀ f sp, Γ f = some sp → Sound P f sp) (hP : P.follows .mixedOrders = true) {ann : Ann} {szs : List Nat} {f : FuncId} (hf : ∃ fn, P.funcs[f]? = some fn ∧ (fn.name == "runtime.NumGoroutine") = false ∧ fn.body.isNone = false) :
    Sound P f (.pure szs (denE P Γ ann szs f)) := by
  refine ⟨hf, fun ds r h w γ us hus => ?_⟩
  unfold denE at h
  split at h
  · obtain ⟨h1, h2⟩ := eitherK_some h
    have hl := hus.1
    match us, hl with
    | [u], _ =>
      have hr := hus.2 0 _ u rfl rfl
      cases hr with
      | slE _ a cap _ _ _ =>
        cases a with
        | none => exact (denP_sound hΓ hP hf).2 _ r h1 w γ _ (Reps.cons (.slE .nul none cap (by simp) (by simp) (by simp)) Reps.nil)
        | some a => exact (denP_sound hΓ hP hf).2 _ r h2 w γ _ (Reps.cons (.slE .nn (some a) cap (by simp) (by simp) (by simp)) Reps.nil)
      | sl _ _ _ _ _ _ _ h => exact absurd rfl h
  · exact (denP_sound hΓ hP hf).2 ds r h w γ us hus

/-- Which function comes in. -/
def fnOf : List D → Nat
  | .fn f _ _ :: _ => f
  | _ :: r => fnOf r
  | [] => 0
def selA : List (Nat × Ann) → Nat → Ann
  | [], _ => {}
  | (f, a) :: r, g => if f = g then a else selA r g
/-- A function that is handed another one: loops told by which. -/
noncomputable def denA (P : Program) (Γ : Env) (l : List (Nat × Ann)) (szs : List Nat) (f : FuncId) (ds : List D) : Option D := denP P Γ (selA l (fnOf ds)) szs f ds
theorem denA_sound {P : Program} {Γ : Env} (hΓ : ∀ f sp, Γ f = some sp → Sound P f sp) (hP : P.follows .mixedOrders = true) {l : List (Nat × Ann)} {szs : List Nat} {f : FuncId} (hf : ∃ fn, P.funcs[f]? = some fn ∧ (fn.name == "runtime.NumGoroutine") = false ∧ fn.body.isNone = false) :
    Sound P f (.pure szs (denA P Γ l szs f)) :=
  ⟨hf, fun ds r h w γ us hus => (denP_sound hΓ hP hf).2 ds r h w γ us hus⟩

/-- A function whose tables nobody else knows. -/
noncomputable def denT (P : Program) (Γ : Env) (ann : Ann) (szs : List Nat) (f : FuncId) (ds : List D) : Option D := match ann.pms with
  | [] => sif (D.nohL ds = true) (denF P Γ ann szs f (prepA ann.pms ann.hints 0 ds) (ann.ks.map fun _ => []) fun d _ _ => sif (d.noh = true) (some d))
  | _ => none

theorem tabsLoc_empty : ∀ (ks : List (Nat × Bool)) (k : Nat), tabOf (tabsLoc ks (ks.map fun _ => [])) k = none ∨ ∃ w, tabOf (tabsLoc ks (ks.map fun _ => [])) k = some (w, [])
  | [], k => .inl rfl
  | (k0, w0) :: ks, k => by
    simp only [List.map_cons, tabsLoc]
    rw [tabOf_set]
    by_cases e : k = k0
    · rw [if_pos e]; exact .inr ⟨w0, rfl⟩
    · rw [if_neg e]; exact tabsLoc_empty ks k

theorem denT_sound {P : Program} {Γ : Env} (hΓ : ∀ f sp, Γ f = some sp → Sound P f sp) (hP : P.follows .mixedOrders = true) {ann : Ann} {szs : List Nat} {f : FuncId} (hf : ∃ fn, P.funcs[f]? = some fn ∧ (fn.name == "runtime.NumGoroutine") = false ∧ fn.body.isNone = false) :
    Sound P f (.pure szs (denT P Γ ann szs f)) := by
  refine ⟨hf, fun ds r h w γ us hus => ?_⟩
  unfold denT at h
  split at h
  rotate_left
  · cases h
  rename_i e1
  obtain ⟨hnoh, h⟩ := sif_some h
  have hpm : ∀ i, (pmAt ann.pms i).1 = .lent := fun i => by rw [e1]; rfl
  have hTn := tabsLoc_empty ann.ks
  have hth : ∀ k i q, ¬ There (tabsLoc ann.ks (ann.ks.map fun _ => [])) k i q := by
    intro k i q h
    cases q with
    | none =>
      obtain ⟨wr, T, h1, h2⟩ := h
      rcases hTn k with e | ⟨w', e⟩ <;> rw [e] at h1 <;> cases h1
      simp at h2
    | some o =>
      obtain ⟨wr, T, d, h1, h2, h3⟩ := h
      rcases hTn k with e | ⟨w', e⟩ <;> rw [e] at h1 <;> cases h1
      simp [cellT] at h2
  have hT : TabRel (tabsLoc ann.ks (ann.ks.map fun _ => [])) (ctxOf (fun _ _ => none) (fun _ _ _ => none) (fun _ => False)) (fun b => b < w.heap.size ∧ ¬ (False ∨ Gv (fun _ => none) b)) w := by
    refine ⟨fun k wr T i cs h h' => ?_, fun k wr T i b h h' => ?_, fun k i q k' i' q' b h => absurd h (hth _ _ _), fun k T i q b _ h => absurd h (hth _ _ _), fun k T i q b _ h => absurd h (hth _ _ _)⟩
    · rcases hTn k with e | ⟨w', e⟩ <;> rw [e] at h <;> cases h
      simp at h'
    · cases h'
  refine (denF_ok hΓ hP hf h (by simp) hT (fun b h => h.elim) (fun i b h => by cases h) (fun i j b h => by cases h) (fun _ _ => rfl) ⟨hus.1, fun i d u hd hu => ⟨fun _ => ⟨rfl, ((hus.2 i d u hd hu).out (fun b h => by
      rcases h with h | ⟨_, h⟩
      · exact h
      · cases h) (Nat.le_refl _)).noh (nohL_get hnoh hd)⟩, fun h => absurd (hpm i) h⟩⟩).mono fun e w' ⟨d, outs, tbs, h1, v, γ', ρ', O', h2, h3⟩ => ?_
  obtain ⟨hd, h1⟩ := sif_some h1
  injection h1 with h1; subst h1
  have hno : ∀ b, ¬ OwnG ann.pms (fun _ => none) b := by rintro b ⟨_, _, h⟩; cases h
  refine ⟨v, h2, ⟨h3.kept.os, h3.kept.tape, h3.kept.output, h3.kept.size, fun b hb _ => h3.kept.block b hb (by
    rintro (h | ⟨_, h⟩)
    · exact h
    · cases h), h3.kept.cells⟩, (h3.res.out fun b hb => .inl ⟨hb, hno b⟩).noh hd⟩

/-- A function, and what it does. -/
structure Fact (P : Program) where
  f : FuncId
  sp : Spec
  ok : Sound P f sp
def penv' : List (FuncId × Spec) → Env
  | [] => fun _ => none
  | x :: r => fun f => if f = x.1 then some x.2 else penv' r f
def penv {P : Program} (l : List (Fact P)) : Env := penv' (l.map fun x => (x.f, x.sp))
theorem penv_ok {P : Program} (l : List (Fact P)) : Env.Ok P (penv l) := by
  induction l with
  | nil => intro f sp h; cases h
  | cons x r ih =>
    intro f sp h
    unfold penv at h ih
    simp only [List.map_cons, penv'] at h
    split at h
    · rename_i e
      injection h with h; subst h; subst e
      exact x.ok
    · exact ih f sp h
end Wf

/-
  Words to reason by.
-/
namespace Wf
open Go Go.RowKit

section
variable {R α : Type}
@[simp] theorem brK_true (x y : Option R) : brK true x y = x := rfl
@[simp] theorem brK_false (x y : Option R) : brK false x y = y := rfl
theorem brK_eq (b : Bool) (x y : Option R) : brK b x y = if b = true then x else y := by cases b <;> rfl
@[simp] theorem sif_pos {c : Prop} [Decidable c] (h : c) (x : Option R) : sif c x = x := by unfold sif; rw [if_pos h]
@[simp] theorem bindK_some_eq (a : α) (f : α → Option R) : bindK (some a) f = f a := rfl
@[simp] theorem bindK_none_eq (f : α → Option R) : bindK none f = none := rfl
@[simp] theorem asI_int (k : IntKind) (n : Int) (f : Int → Option R) : asI k (.int k n) f = f n := by simp [asI]
@[simp] theorem asB_bool (b : Bool) (f : Bool → Option R) : asB (.bool b) f = f b := rfl
@[simp] theorem asS_str (b : ByteArray) (f : ByteArray → Option R) : asS (.str b) f = f b := rfl
@[simp] theorem asSl_sl (t : Tag) (l : List D) (f : Tag → List D → Option R) : asSl (.sl t l) f = f t l := rfl
@[simp] theorem asOwn_own (l : List D) (f : List D → Option R) : asOwn (.sl .own l) f = f l := rfl
@[simp] theorem asLent_lent (l : List D) (f : List D → Option R) : asLent (.sl .lent l) f = f l := rfl
@[simp] theorem asAgg_agg (l : List D) (f : List D → Option R) : asAgg (.agg l) f = f l := rfl
@[simp] theorem asTup_tup (l : List D) (f : List D → Option R) : asTup (.tup l) f = f l := rfl
@[simp] theorem asAt_at (d : D) (f : D → Option R) : asAt (.at_ d) f = f d := rfl
@[simp] theorem asOne_one (d : D) (f : D → Option R) : asOne [d] f = f d := rfl
@[simp] theorem getK_nil (i : Nat) (f : α → Option R) : getK [] i f = none := by simp [getK]
@[simp] theorem getK_zero (a : α) (l : List α) (f : α → Option R) : getK (a :: l) 0 f = f a := rfl
@[simp] theorem getK_succ (a : α) (l : List α) (i : Nat) (f : α → Option R) : getK (a :: l) (i + 1) f = getK l i f := by simp [getK]
theorem getK_of {l : List α} {i : Nat} {a : α} (h : l[i]? = some a) (f : α → Option R) : getK l i f = f a := by unfold getK; rw [h]
@[simp] theorem getCells_nil (f : LfT [] → Option R) : getCells [] [] f = f () := rfl
@[simp] theorem getCells_int (k : IntKind) (n : Int) (ls : List Lf) (cs : List D) (f : LfT (.int k :: ls) → Option R) : getCells (.int k :: ls) (.int k n :: cs) f = getCells ls cs fun y => f (n, y) := by simp [getCells, getCells0, Lf.get]
@[simp] theorem getCells_bool (b : Bool) (ls : List Lf) (cs : List D) (f : LfT (.bool :: ls) → Option R) : getCells (.bool :: ls) (.bool b :: cs) f = getCells ls cs fun y => f (b, y) := by simp [getCells, getCells0, Lf.get]
@[simp] theorem getCells_sl (t : Tag) (l : List D) (ls : List Lf) (cs : List D) (f : LfT (.sl :: ls) → Option R) : getCells (.sl :: ls) (.sl t l :: cs) f = getCells ls cs fun y => f ((t, l), y) := by simp [getCells, getCells0, Lf.get]
@[simp] theorem getCells_lent (l : List D) (ls : List Lf) (cs : List D) (f : LfT (.lent :: ls) → Option R) : getCells (.lent :: ls) (.sl .lent l :: cs) f = getCells ls cs fun y => f (l, y) := by simp [getCells, getCells0, Lf.get]
@[simp] theorem getCells_any (d : D) (ls : List Lf) (cs : List D) (f : LfT (.any :: ls) → Option R) : getCells (.any :: ls) (d :: cs) f = getCells ls cs fun y => f (d, y) := by simp [getCells, getCells0, Lf.get]
@[simp] theorem asH_h (k i : Nat) (f : Nat → Option R) : asH k (.h k i 0) f = f i := by simp [asH]
@[simp] theorem asNil_nilp (f : Bool → Option R) : asNil .nilp f = f true := rfl
@[simp] theorem asNil_h (k i o : Nat) (f : Bool → Option R) : asNil (.h k i o) f = f false := rfl
@[simp] theorem asOwnM_own (kk : MK) (es : List (Int × D)) (f : List (Int × D) → Option R) : asOwnM kk (.mp .own kk es) f = f es := by simp [asOwnM]
@[simp] theorem asMap_lent (kk : MK) (es : List (Int × D)) (f : List (Int × D) → Option R) : asMap kk (.mp .lent kk es) f = f es := by simp [asMap]
@[simp] theorem letT_eq (T : Tb) (f : Tb → Option R) : letT T f = f T := rfl
@[simp] theorem consK_cons (a : α) (l : List α) (f : α → List α → Option R) : consK (a :: l) f = f a l := rfl
@[simp] theorem nilK_nil (x : Option R) : nilK ([] : List α) x = x := rfl
@[simp] theorem getCells_hnd (k i : Nat) (ls : List Lf) (cs : List D) (f : LfT (.hnd k :: ls) → Option R) : getCells (.hnd k :: ls) (.h k i 0 :: cs) f = getCells ls cs fun y => f (i, y) := by simp [getCells, getCells0, Lf.get]
theorem setT_of {T : Tb} {i o : Nat} {cs : List D} {x : D} (h : T[i]? = some cs) : setT T i o x = T.set i (cs.set o x) := by unfold setT; rw [h]
theorem setCells_of {T : Tb} {i o : Nat} {cs xs : List D} (h : T[i]? = some cs) : setCells T i o xs = T.set i (cs.take o ++ xs ++ cs.drop (o + xs.length)) := by unfold setCells; rw [h]
theorem set_here {T : Tb} {i : Nat} {cs : List D} (h : T[i]? = some cs) (x : List D) : (T.set i x)[i]? = some x := by rw [List.getElem?_set]; simp [lt_of_get h]
@[simp] theorem jn_eq (g : α → Option R) (f : (α → Option R) → Option R) : jn g f = f g := rfl
@[simp] theorem letN_eq' (n : Int) (f : Int → Option R) : letN n f = f n := rfl
@[simp] theorem cut_whole {β : Type} (l : List β) : cut 0 l.length l = l := by simp [cut]
@[simp] theorem lentL_nil : D.lentL [] = [] := rfl
@[simp] theorem lentL_cons (d : D) (l : List D) : D.lentL (d :: l) = d.lent :: D.lentL l := rfl
@[simp] theorem lent_int (k : IntKind) (n : Int) : D.lent (.int k n) = .int k n := by simp [D.lent]
@[simp] theorem lent_bool (b : Bool) : D.lent (.bool b) = .bool b := by simp [D.lent]

/-- Going round: what each round comes to. -/
theorem fixN_spec {B : (α → Option R) → α → Option R} {μ : α → Nat} {S : α → Option R} {I : α → Prop}
    (h : ∀ again a, I a → (∀ b, I b → μ b < μ a → again b = S b) → B again a = S a) : ∀ (n : Nat) (a : α), I a → μ a < n → fixN B n a = S a
  | 0, a, _, hn => absurd hn (Nat.not_lt_zero _)
  | n + 1, a, hI, hn => by
    show B (fixN B n) a = S a
    exact h _ a hI fun b hb hlt => fixN_spec h n b hb (by omega)
theorem loopN_spec {B : (α → Option R) → α → Option R} (μ : α → Nat) (S : α → Option R) (I : α → Prop) {a : α}
    (h : ∀ again a, I a → (∀ b, I b → μ b < μ a → again b = S b) → B again a = S a) (hI : I a) (hμ : μ a < 1099511627776) : loopN B a = S a :=
  fixN_spec h fuel a hI (Nat.lt_of_lt_of_le hμ fuel_le)
/-- .. where only that it answers is told. -/
theorem fixN_ex {B : (α → Option R) → α → Option R} {μ : α → Nat} {Q : R → Prop} {I : α → Prop}
    (h : ∀ again a, I a → (∀ b, I b → μ b < μ a → ∃ r, again b = some r ∧ Q r) → ∃ r, B again a = some r ∧ Q r) : ∀ (n : Nat) (a : α), I a → μ a < n → ∃ r, fixN B n a = some r ∧ Q r
  | 0, a, _, hn => absurd hn (Nat.not_lt_zero _)
  | n + 1, a, hI, hn => h _ a hI fun b hb hlt => fixN_ex h n b hb (by omega)
theorem loopN_ex {B : (α → Option R) → α → Option R} (μ : α → Nat) (Q : R → Prop) (I : α → Prop) {a : α}
    (h : ∀ again a, I a → (∀ b, I b → μ b < μ a → ∃ r, again b = some r ∧ Q r) → ∃ r, B again a = some r ∧ Q r) (hI : I a) (hμ : μ a < 1099511627776) : ∃ r, loopN B a = some r ∧ Q r :=
  fixN_ex h fuel a hI (Nat.lt_of_lt_of_le hμ fuel_le)
end

theorem wrap_fit {n : Int} (h0 : -9223372036854775808 ≤ n) (h1 : n < 9223372036854775808) : IntKind.i64.wrap n = n := by
  have e : IntKind.i64.wrap n = if n % 18446744073709551616 < 9223372036854775808 then n % 18446744073709551616 else n % 18446744073709551616 - 18446744073709551616 := by
    simp [IntKind.wrap, IntKind.bits, IntKind.signed]
    try (split <;> omega)
  rw [e]
  split <;> omega
@[simp] def iD (n : Int) : D := .int .i64 n

/-- A list of whole numbers. -/
def intL (l : List Int) : List D := l.map (D.int .i64)
theorem intL_lent (l : List Int) : D.lentL (intL l) = intL l := by
  induction l with
  | nil => rfl
  | cons n l ih => unfold intL at *; simp [ih]
theorem intL_noh (l : List Int) : D.nohL (intL l) = true := by
  induction l with
  | nil => rfl
  | cons n l ih => exact ih
theorem intL_len (l : List Int) : (intL l).length = l.length := by simp [intL]
theorem intL_get {l : List Int} {j : Nat} (h : j < l.length) : (intL l)[j]? = some (.int .i64 l[j]) := by simp [intL, h]
/-- A loop that counts. -/
theorem count_fix {R α : Type} (st : Nat → α) (W : Nat) {B : (α → Option R) → α → Option R} {r : Option R} (h1 : ∀ again k, k < W → B again (st k) = again (st (k + 1))) (h2 : ∀ again, B again (st W) = r) :
    ∀ (m k n : Nat), k + m = W → m < n → fixN B n (st k) = r
  | 0, k, n + 1, h, _ => by
    have : k = W := by omega
    subst this
    exact h2 _
  | m + 1, k, n + 1, h, hn => by
    show B (fixN B n) (st k) = r
    rw [h1 _ k (by omega)]
    exact count_fix st W h1 h2 m (k + 1) n (by omega) (by omega)
theorem count_loop {R α : Type} (st : Nat → α) (W : Nat) (hW : W < 100000) {B : (α → Option R) → α → Option R} {r : Option R} (h1 : ∀ again k, k < W → B again (st k) = again (st (k + 1))) (h2 : ∀ again, B again (st W) = r) : loopN B (st 0) = r :=
  count_fix st W h1 h2 W 0 fuel (by omega) (by have := fuel_le; omega)

end Wf

/-
  From what a law's function answers to its row: what came in reads as it did.
-/
namespace Wf
open Go Go.RowKit Go.ChangeShapes Go.WideShapes

theorem trodAll_stays {H : Type} {enc : TypeId × Value → H} {P : Program} (hl : laidOutB P = true) {W W' : World} {sp : Nat → Bool} : ∀ {ts : List TypeId} {vs : List Value} {ds : List (DataW H)} {ps : List MemPlace},
    (ts.all fun t => P.readableRec t && decide (t < P.types.size)) = true → DataW.TrodAll enc P W 0 (fun _ => true) true ts vs ds ps → Below W.heap.size W W' → (∀ x ∈ ps, x.block < W.heap.size) → (∀ x ∈ ps, sp x.block = true) →
    DataW.TrodAll enc P W' 0 sp true ts vs ds ps
  | [], [], [], ps, _, h, _, _, _ => h
  | [], [], _ :: _, ps, _, h, _, _, _ => by simp [DataW.TrodAll] at h
  | [], _ :: _, _, ps, _, h, _, _, _ => by simp [DataW.TrodAll] at h
  | t :: ts, vs, ds, ps, hr, h, hb, hlt, hsp => by
    obtain ⟨v, vs', d, ds', p, q, rfl, rfl, rfl, h1, h2⟩ := trodAll_cons h
    simp only [List.all_cons, Bool.and_eq_true, decide_eq_true_eq] at hr
    exact trodAll_cons_mk (WideElems.Trod_stays hl hr.1.1 hr.1.2 h1 (fun x hx => hb.same (hlt x (List.mem_append_left _ hx))) (fun x hx => hsp x (List.mem_append_left _ hx)))
      (trodAll_stays hl (by simpa using hr.2) h2 hb (fun x hx => hlt x (List.mem_append_right _ hx)) (fun x hx => hsp x (List.mem_append_right _ hx)))

/-- A struct of three whole numbers. -/
theorem open_three {P : Program} {W : World} {r : Reach} {b0 : Nat} {t u : TypeId} {fs : Array Field} {k : IntKind} {v : Value} (hs : P.underlying t = some (.struct fs)) (hc : P.cellsOf t = 3) (hct : P.cellTypes P.depth t = some [u, u, u])
    (hu : P.underlying u = some (.int k)) (hval : Value.okWide P W r b0 t v) : ∃ x y z, v = .agg #[.int k x, .int k y, .int k z] := by
  unfold Value.okWide at hval
  rw [hs] at hval
  obtain ⟨cs, rfl, hsz, ts, h1, _, h2⟩ := hval
  rw [hct] at h1
  injection h1 with h1; subst h1
  rw [hc] at hsz
  have one : ∀ i (hi : i < cs.size), i < 3 → ∃ n, cs[i] = .int k n := by
    intro i hi h3
    obtain ⟨q, hq, hk⟩ := h2 i cs[i] (by simp)
    have : q = u := by
      match i, h3, hq with
      | 0, _, hq => simpa using hq.symm
      | 1, _, hq => simpa using hq.symm
      | 2, _, hq => simpa using hq.symm
    subst this
    refine okWide_int (P := P) (w := W) (r := r) (base := b0) hu ?_
    unfold Value.okWide
    rw [hu]
    exact hk
  obtain ⟨x, hx⟩ := one 0 (by omega) (by omega)
  obtain ⟨y, hy⟩ := one 1 (by omega) (by omega)
  obtain ⟨z, hz⟩ := one 2 (by omega) (by omega)
  refine ⟨x, y, z, ?_⟩
  congr 1
  apply Array.ext
  · simp [hsz]
  · intro i h1 h2
    match i, h1 with
    | 0, _ => simpa using hx
    | 1, _ => simpa using hy
    | 2, _ => simpa using hz

theorem Rep.three {w : World} {A : Nat → Prop} {N : Nat} {γ} {k : IntKind} {x y z : Int} : Rep w A N γ (.agg [.int k x, .int k y, .int k z]) (.agg #[.int k x, .int k y, .int k z]) := by
  refine .agg _ _ rfl (fun i d v hd hv => ?_) (fun i v hv => ?_)
  · match i, hd, hv with
    | 0, hd, hv => simp at hd hv; subst hd; subst hv; exact .int _ _
    | 1, hd, hv => simp at hd hv; subst hd; subst hv; exact .int _ _
    | 2, hd, hv => simp at hd hv; subst hd; subst hv; exact .int _ _
  · match i, hv with
    | 0, hv => simp at hv; subst hv; rfl
    | 1, hv => simp at hv; subst hv; rfl
    | 2, hv => simp at hv; subst hv; rfl

/-- A slice of whole numbers. -/
theorem open_intl {H : Type} {enc : TypeId × Value → H} {P : Program} {W : World} {r : Reach} {b0 : Nat} {t e : TypeId} {k : IntKind} {v : Value} {d : DataW H} {p : List MemPlace} (ht : P.underlying t = some (.slice e)) (he : P.underlying e = some (.int k)) (hc : P.cellsOf e = 1)
    (hval : Value.okWide P W r b0 t v) (h : DataW.Trod enc P W 0 (fun _ => true) true t v d p) : ∃ l : List Int, ∀ γ, Rep W (fun _ => False) 0 γ (.sl .lent (l.map (D.int k))) v := by
  obtain ⟨a0, len, cap, rfl⟩ := okWide_slice ht hval
  obtain ⟨fuel, hf⟩ := h
  rcases open_ints ht he hc hf with ⟨h1, _⟩ | ⟨a, len', cap', zs, h1, h2, h3, h4, h5, h6, h7, h8⟩
  · have h1 : [Value.slice a0 len cap] = [Value.slice none 0 0] := by simpa [Value.cells] using h1
    simp at h1
    obtain ⟨rfl, rfl, rfl⟩ := h1
    exact ⟨[], fun γ => .slE _ _ _ (by simp) (by simp) (by simp)⟩
  · have h1 : [Value.slice a0 len cap] = [Value.slice (some a) len' cap'] := by simpa [Value.cells] using h1
    simp at h1
    obtain ⟨rfl, rfl, rfl⟩ := h1
    have h5 : zs.length = cap := by simpa using h5
    by_cases hl : len = 0
    · subst hl
      exact ⟨[], fun γ => .slE _ _ _ (by simp) (by simp) (by simp)⟩
    · obtain ⟨b, off, rfl, hcell⟩ := ints_at h7 (by omega)
      have hlen : ((zs.take len).map (D.int k)).length = len := by simp; omega
      refine ⟨zs.take len, fun γ => ?_⟩
      have hb : b < W.heap.size := by
        rcases Nat.lt_or_ge b W.heap.size with h' | h'
        · exact h'
        · have := hcell 0 (by omega)
          simp [World.cell?, Array.getElem?_eq_none h'] at this
      have := Rep.sl (w := W) (A := fun _ => False) (N := 0) (γ := γ) .lent ((zs.take len).map (D.int k)) b off 1 cap (fun i => .int k (zs.getD i 0)) (by intro e; rw [e] at hlen; exact hl hlen.symm) (by simp) (by omega) (by simp) (fun h => h) (by simp) hb (fun i d hd => by
        rw [List.getElem?_map] at hd
        by_cases hi : i < len
        · rw [List.getElem?_take_of_lt hi] at hd
          have hz : zs[i]? = some zs[i] := List.getElem?_eq_getElem (by omega)
          rw [hz] at hd
          simp at hd
          rw [← hd, List.getD_eq_getElem?_getD, hz]
          exact .int _ _
        · rw [List.getElem?_eq_none (by simp; omega)] at hd; cases hd) (fun i hi => ⟨rfl, fun j u hu => by
        rw [hlen] at hi
        have hj : j = 0 := by
          have := (Array.getElem?_eq_some_iff.1 hu).1
          simpa [Value.cells] using this
        subst hj
        have hu : Value.int k (zs.getD i 0) = u := by simpa [Value.cells] using hu
        rw [← hu]
        simpa using hcell i (by omega)⟩)
      rw [hlen] at this
      exact this

/-- What is wanted behind the call: true, and all as it was. -/
theorem row_post {H : Type} {enc : TypeId × Value → H} {P : Program} {f : Func} {s : ChangeSpec} {apart fresh handsOn again : Bool} {W W' : World} {args : Array Value} {ds gs : List (DataW H)} {before : List MemPlace} {tb : TypeId}
    (hl : laidOutB P = true) (hr : (f.params.toList.all fun t => P.readableRec t && decide (t < P.types.size)) = true) (hrt : f.resultTypes = #[tb]) (hb : P.underlying tb = some .bool)
    (hW : DataW.Whole enc P f.params.toList s.vars apart W args.toList ds gs before) (hv : s.vars = []) (hfn : (s.fn H (ds ++ gs)).results = [.lit (.bool true)] ∧ (s.fn H (ds ++ gs)).args = ds ∧ (s.fn H (ds ++ gs)).vars = [])
    (hbel : Below W.heap.size W W') : s.post enc P f apart fresh handsOn again W args (.bool true) W' := by
  have hW' := hW
  obtain ⟨p, q, hA0, hV, rfl, hfz, hnd⟩ := hW
  have hq : q = [] := by
    rw [hv] at hV
    exact (trodVars_none hV).2
  subst hq
  have hlt : ∀ x ∈ p, x.block < W.heap.size := fun x hx => by
    have := hW'.lt x (by simpa using hx)
    simpa using this
  refine post_of_below (pa := p) (pv := []) hW' (fun _ _ _ => ?_) (fun sp hsp => ?_) (fun sp hsp => ?_) (by simp) hbel ?_
  · rw [hfn.1, hrt]
    exact trodAll_cons_mk (shut_bool hb _) trodAll_mk0
  · rw [hfn.2.1]
    exact trodAll_stays hl hr hA0 hbel hlt (fun x hx => hsp x (by simpa using hx))
  · rw [hfn.2.2, hv]
    exact rfl
  · exact ok_one hrt rfl (okWide_bool_mk hb _)
end Wf

