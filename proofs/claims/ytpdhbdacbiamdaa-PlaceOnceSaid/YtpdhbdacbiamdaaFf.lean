/-
  Words to reason by.
-/
import Derived.ProofKit
import Derived.WalkKit
import Derived.OpenShut
import Derived.Carry
import Derived.Test.YtpdhbdacbiamdaaFe
import Derived.Test.YtpdhbdacbiamdaaFd
set_option linter.unusedVariables false
set_option linter.unusedSimpArgs false
set_option linter.unnecessarySimpa false
namespace Wf
open Go Go.RowKit

section
variable {R α : Type}
@[simp] theorem brK_true (x y : Option R) : brK true x y = x := rfl
@[simp] theorem brK_false (x y : Option R) : brK false x y = y := rfl
theorem brK_eq (b : Bool) (x y : Option R) : brK b x y = if b = true then x else y := by cases b <;> rfl
@[simp] theorem sif_pos {c : Prop} [Decidable c] (h : c) (x : Option R) : sif c x = x := by unfold sif; rw [if_pos h]
@[simp] theorem bindK_some_eq (a : α) (f : α → Option R) : bindK (some a) f = f a := rfl
@[simp] theorem bindK_none_eq (f : α → Option R) : bindK none f = none := rfl
@[simp] theorem asI_int (k : IntKind) (n : Int) (f : Int → Option R) : asI k (.int k n) f = f n := by simp [asI]
@[simp] theorem asB_bool (b : Bool) (f : Bool → Option R) : asB (.bool b) f = f b := rfl
@[simp] theorem asS_str (b : ByteArray) (f : ByteArray → Option R) : asS (.str b) f = f b := rfl
@[simp] theorem asSl_sl (t : Tag) (l : List D) (f : Tag → List D → Option R) : asSl (.sl t l) f = f t l := rfl
@[simp] theorem asOwn_own (l : List D) (f : List D → Option R) : asOwn (.sl .own l) f = f l := rfl
@[simp] theorem asLent_lent (l : List D) (f : List D → Option R) : asLent (.sl .lent l) f = f l := rfl
@[simp] theorem asAgg_agg (l : List D) (f : List D → Option R) : asAgg (.agg l) f = f l := rfl
@[simp] theorem asTup_tup (l : List D) (f : List D → Option R) : asTup (.tup l) f = f l := rfl
@[simp] theorem asAt_at (d : D) (f : D → Option R) : asAt (.at_ d) f = f d := rfl
@[simp] theorem asOne_one (d : D) (f : D → Option R) : asOne [d] f = f d := rfl
@[simp] theorem getK_nil (i : Nat) (f : α → Option R) : getK [] i f = none := by simp [getK]
@[simp] theorem getK_zero (a : α) (l : List α) (f : α → Option R) : getK (a :: l) 0 f = f a := rfl
@[simp] theorem getK_succ (a : α) (l : List α) (i : Nat) (f : α → Option R) : getK (a :: l) (i + 1) f = getK l i f := by simp [getK]
theorem getK_of {l : List α} {i : Nat} {a : α} (h : l[i]? = some a) (f : α → Option R) : getK l i f = f a := by unfold getK; rw [h]
@[simp] theorem getCells_nil (f : LfT [] → Option R) : getCells [] [] f = f () := rfl
@[simp] theorem getCells_int (k : IntKind) (n : Int) (ls : List Lf) (cs : List D) (f : LfT (.int k :: ls) → Option R) : getCells (.int k :: ls) (.int k n :: cs) f = getCells ls cs fun y => f (n, y) := by simp [getCells, getCells0, Lf.get]
@[simp] theorem getCells_bool (b : Bool) (ls : List Lf) (cs : List D) (f : LfT (.bool :: ls) → Option R) : getCells (.bool :: ls) (.bool b :: cs) f = getCells ls cs fun y => f (b, y) := by simp [getCells, getCells0, Lf.get]
@[simp] theorem getCells_sl (t : Tag) (l : List D) (ls : List Lf) (cs : List D) (f : LfT (.sl :: ls) → Option R) : getCells (.sl :: ls) (.sl t l :: cs) f = getCells ls cs fun y => f ((t, l), y) := by simp [getCells, getCells0, Lf.get]
@[simp] theorem getCells_lent (l : List D) (ls : List Lf) (cs : List D) (f : LfT (.lent :: ls) → Option R) : getCells (.lent :: ls) (.sl .lent l :: cs) f = getCells ls cs fun y => f (l, y) := by simp [getCells, getCells0, Lf.get]
@[simp] theorem getCells_any (d : D) (ls : List Lf) (cs : List D) (f : LfT (.any :: ls) → Option R) : getCells (.any :: ls) (d :: cs) f = getCells ls cs fun y => f (d, y) := by simp [getCells, getCells0, Lf.get]
@[simp] theorem jn_eq (g : α → Option R) (f : (α → Option R) → Option R) : jn g f = f g := rfl
@[simp] theorem letN_eq' (n : Int) (f : Int → Option R) : letN n f = f n := rfl
@[simp] theorem cut_whole {β : Type} (l : List β) : cut 0 l.length l = l := by simp [cut]
@[simp] theorem lentL_nil : D.lentL [] = [] := rfl
@[simp] theorem lentL_cons (d : D) (l : List D) : D.lentL (d :: l) = d.lent :: D.lentL l := rfl
@[simp] theorem lent_int (k : IntKind) (n : Int) : D.lent (.int k n) = .int k n := by simp [D.lent]
@[simp] theorem lent_bool (b : Bool) : D.lent (.bool b) = .bool b := by simp [D.lent]

/-- Going round: what each round comes to. -/
theorem fixN_spec {B : (α → Option R) → α → Option R} {μ : α → Nat} {S : α → Option R} {I : α → Prop}
    (h : ∀ again a, I a → (∀ b, I b → μ b < μ a → again b = S b) → B again a = S a) : ∀ (n : Nat) (a : α), I a → μ a < n → fixN B n a = S a
  | 0, a, _, hn => absurd hn (Nat.not_lt_zero _)
  | n + 1, a, hI, hn => by
    show B (fixN B n) a = S a
    exact h _ a hI fun b hb hlt => fixN_spec h n b hb (by omega)
theorem loopN_spec {B : (α → Option R) → α → Option R} (μ : α → Nat) (S : α → Option R) (I : α → Prop) {a : α}
    (h : ∀ again a, I a → (∀ b, I b → μ b < μ a → again b = S b) → B again a = S a) (hI : I a) (hμ : μ a < 1099511627776) : loopN B a = S a :=
  fixN_spec h fuel a hI (Nat.lt_of_lt_of_le hμ fuel_le)
end

theorem wrap_fit {n : Int} (h0 : -9223372036854775808 ≤ n) (h1 : n < 9223372036854775808) : IntKind.i64.wrap n = n := by
  have e : IntKind.i64.wrap n = if n % 18446744073709551616 < 9223372036854775808 then n % 18446744073709551616 else n % 18446744073709551616 - 18446744073709551616 := by
    simp [IntKind.wrap, IntKind.bits, IntKind.signed]
    try (split <;> omega)
  rw [e]
  split <;> omega
@[simp] def iD (n : Int) : D := .int .i64 n
end Wf

/-
  From what a law's function answers to its row: what came in reads as it did.
-/
namespace Wf
open Go Go.RowKit Go.ChangeShapes Go.WideShapes

theorem trodAll_stays {H : Type} {enc : TypeId × Value → H} {P : Program} (hl : laidOutB P = true) {W W' : World} {sp : Nat → Bool} : ∀ {ts : List TypeId} {vs : List Value} {ds : List (DataW H)} {ps : List MemPlace},
    (ts.all fun t => P.readableRec t && decide (t < P.types.size)) = true → DataW.TrodAll enc P W 0 (fun _ => true) true ts vs ds ps → Below W.heap.size W W' → (∀ x ∈ ps, x.block < W.heap.size) → (∀ x ∈ ps, sp x.block = true) →
    DataW.TrodAll enc P W' 0 sp true ts vs ds ps
  | [], [], [], ps, _, h, _, _, _ => h
  | [], [], _ :: _, ps, _, h, _, _, _ => by simp [DataW.TrodAll] at h
  | [], _ :: _, _, ps, _, h, _, _, _ => by simp [DataW.TrodAll] at h
  | t :: ts, vs, ds, ps, hr, h, hb, hlt, hsp => by
    obtain ⟨v, vs', d, ds', p, q, rfl, rfl, rfl, h1, h2⟩ := trodAll_cons h
    simp only [List.all_cons, Bool.and_eq_true, decide_eq_true_eq] at hr
    exact trodAll_cons_mk (WideElems.Trod_stays hl hr.1.1 hr.1.2 h1 (fun x hx => hb.same (hlt x (List.mem_append_left _ hx))) (fun x hx => hsp x (List.mem_append_left _ hx)))
      (trodAll_stays hl (by simpa using hr.2) h2 hb (fun x hx => hlt x (List.mem_append_right _ hx)) (fun x hx => hsp x (List.mem_append_right _ hx)))

/-- A struct of three whole numbers. -/
theorem open_three {P : Program} {W : World} {r : Reach} {b0 : Nat} {t u : TypeId} {fs : Array Field} {k : IntKind} {v : Value} (hs : P.underlying t = some (.struct fs)) (hc : P.cellsOf t = 3) (hct : P.cellTypes P.depth t = some [u, u, u])
    (hu : P.underlying u = some (.int k)) (hval : Value.okWide P W r b0 t v) : ∃ x y z, v = .agg #[.int k x, .int k y, .int k z] := by
  unfold Value.okWide at hval
  rw [hs] at hval
  obtain ⟨cs, rfl, hsz, ts, h1, _, h2⟩ := hval
  rw [hct] at h1
  injection h1 with h1; subst h1
  rw [hc] at hsz
  have one : ∀ i (hi : i < cs.size), i < 3 → ∃ n, cs[i] = .int k n := by
    intro i hi h3
    obtain ⟨q, hq, hk⟩ := h2 i cs[i] (by simp)
    have : q = u := by
      match i, h3, hq with
      | 0, _, hq => simpa using hq.symm
      | 1, _, hq => simpa using hq.symm
      | 2, _, hq => simpa using hq.symm
    subst this
    refine okWide_int (P := P) (w := W) (r := r) (base := b0) hu ?_
    unfold Value.okWide
    rw [hu]
    exact hk
  obtain ⟨x, hx⟩ := one 0 (by omega) (by omega)
  obtain ⟨y, hy⟩ := one 1 (by omega) (by omega)
  obtain ⟨z, hz⟩ := one 2 (by omega) (by omega)
  refine ⟨x, y, z, ?_⟩
  congr 1
  apply Array.ext
  · simp [hsz]
  · intro i h1 h2
    match i, h1 with
    | 0, _ => simpa using hx
    | 1, _ => simpa using hy
    | 2, _ => simpa using hz

theorem Rep.three {w : World} {A : Nat → Prop} {N : Nat} {γ} {k : IntKind} {x y z : Int} : Rep w A N γ (.agg [.int k x, .int k y, .int k z]) (.agg #[.int k x, .int k y, .int k z]) := by
  refine .agg _ _ rfl (fun i d v hd hv => ?_) (fun i v hv => ?_)
  · match i, hd, hv with
    | 0, hd, hv => simp at hd hv; subst hd; subst hv; exact .int _ _
    | 1, hd, hv => simp at hd hv; subst hd; subst hv; exact .int _ _
    | 2, hd, hv => simp at hd hv; subst hd; subst hv; exact .int _ _
  · match i, hv with
    | 0, hv => simp at hv; subst hv; rfl
    | 1, hv => simp at hv; subst hv; rfl
    | 2, hv => simp at hv; subst hv; rfl

/-- What is wanted behind the call: true, and all as it was. -/
theorem row_post {H : Type} {enc : TypeId × Value → H} {P : Program} {f : Func} {s : ChangeSpec} {apart fresh handsOn again : Bool} {W W' : World} {args : Array Value} {ds gs : List (DataW H)} {before : List MemPlace} {tb : TypeId}
    (hl : laidOutB P = true) (hr : (f.params.toList.all fun t => P.readableRec t && decide (t < P.types.size)) = true) (hrt : f.resultTypes = #[tb]) (hb : P.underlying tb = some .bool)
    (hW : DataW.Whole enc P f.params.toList s.vars apart W args.toList ds gs before) (hv : s.vars = []) (hfn : (s.fn H (ds ++ gs)).results = [.lit (.bool true)] ∧ (s.fn H (ds ++ gs)).args = ds ∧ (s.fn H (ds ++ gs)).vars = [])
    (hbel : Below W.heap.size W W') : s.post enc P f apart fresh handsOn again W args (.bool true) W' := by
  have hW' := hW
  obtain ⟨p, q, hA0, hV, rfl, hfz, hnd⟩ := hW
  have hq : q = [] := by
    rw [hv] at hV
    exact (trodVars_none hV).2
  subst hq
  have hlt : ∀ x ∈ p, x.block < W.heap.size := fun x hx => by
    have := hW'.lt x (by simpa using hx)
    simpa using this
  refine post_of_below (pa := p) (pv := []) hW' (fun _ _ _ => ?_) (fun sp hsp => ?_) (fun sp hsp => ?_) (by simp) hbel ?_
  · rw [hfn.1, hrt]
    exact trodAll_cons_mk (shut_bool hb _) trodAll_mk0
  · rw [hfn.2.1]
    exact trodAll_stays hl hr hA0 hbel hlt (fun x hx => hsp x (by simpa using hx))
  · rw [hfn.2.2, hv]
    exact rfl
  · exact ok_one hrt rfl (okWide_bool_mk hb _)
end Wf

