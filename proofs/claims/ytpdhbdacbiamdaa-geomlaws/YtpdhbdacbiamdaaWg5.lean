/-
  From what a function answers to what a row says.
-/
import Derived.Test.YtpdhbdacbiamdaaWg4
import Derived.ProofKit
set_option linter.unusedVariables false
set_option linter.unusedSimpArgs false
set_option linter.unnecessarySimpa false
namespace Wf
open Go Go.RowKit Go.ChangeShapes Go.WideShapes

theorem Kept.below {w w' : World} (h : Kept w (fun _ => False) w') : Below w.heap.size w w' :=
  ⟨h.os, h.tape, h.output, h.size, fun k hk => h.block k hk (fun h => h)⟩

/-- What a call of a function without memory of its own does, for flat answers. -/
theorem SoundP.calls {P : Program} {f : FuncId} {szs : List Nat} {F : List D → Option D} (h : SoundP P f szs F) {ds : List D} {b : Bool} (hF : F ds = some (.bool b)) {us : List Value} {w : World}
    (hr : Reps w (fun _ => False) 0 (fun _ => none) ds us) : Calls P f us.toArray w fun e w' => e = .returned (.bool b) ∧ Below w.heap.size w w' := by
  refine (h.2 ds _ hF w _ us hr).mono fun e w' ⟨v, he, hk, hres⟩ => ?_
  obtain ⟨ow, _, _, sz, _, _, hv⟩ := hres
  cases hv
  exact ⟨he, hk.below⟩

theorem post_of_below {H : Type} {enc : TypeId × Value → H} {P : Program} {f : Func} {s : ChangeSpec} {apart fresh handsOn again : Bool} {W W' : World} {args : Array Value} {v : Value} {ds gs : List (DataW H)} {before pa pv : List MemPlace}
    (hW : DataW.Whole enc P f.params.toList s.vars apart W args.toList ds gs before)
    (hres : ∀ (b : Nat) (sp : Nat → Bool) (hd : Bool), DataW.TrodAll enc P W' b sp hd f.resultTypes.toList (v.resultList f.resultTypes.size) (s.fn H (ds ++ gs)).results [])
    (hargs : ∀ sp : Nat → Bool, (∀ p ∈ before, sp p.block = true) → DataW.TrodAll enc P W' 0 sp true f.params.toList args.toList (s.fn H (ds ++ gs)).args pa)
    (hvars : ∀ sp : Nat → Bool, (∀ p ∈ before, sp p.block = true) → DataW.TrodVars enc P W' sp s.vars (s.fn H (ds ++ gs)).vars pv)
    (hps : before = pa ++ pv) (hb : Below W.heap.size W W')
    (hok : ∀ (j : Nat) (t : TypeId) (r : Value), f.resultTypes[j]? = some t → (v.resultList f.resultTypes.size)[j]? = some r → Value.okWide P W' .any 0 t r) :
    s.post enc P f apart fresh handsOn again W args v W' := by
  have hold : ∀ p ∈ before, (fun b => decide (b < W.heap.size)) p.block = true := fun p hp => by simpa using hW.lt p hp
  have hlt : ∀ p ∈ before, p.block < W.heap.size := fun p hp => hW.lt p hp
  have hk : W.keptBut W' (· ∈ before) := hb.frame _
  refine ⟨ds, gs, before, [], pa, pv, hW, hres _ _ _, hargs _ hold, hvars _ hold, World.keptBut_mono (fun p hp => ⟨hp, ?_⟩) hk, fun _ => ?_⟩
  · rw [hps, List.mem_append] at hp
    exact Or.inr hp
  · obtain ⟨_, _, _, _, _, hz, hn⟩ := hW
    refine ⟨hok, _, _, ([] ++ pa) ++ pv, ⟨[] ++ pa, pv, trodAll_append (hargs _ (fun _ _ => rfl)) (hres _ _ _), hvars _ (fun _ _ => rfl), rfl, ?_, ?_⟩, ?_⟩
    · intro b off hp
      have hp' : MemPlace.cell b off ∈ before := by rw [hps]; simpa using hp
      rw [hb.frozen (p := ⟨b, off, none⟩) (hlt _ hp')]
      exact hz b off hp'
    · intro ha
      have := hn ha
      rw [hps] at this
      simpa using this
    · intro p hp _
      rw [hps]
      simpa using hp

theorem PEnv.none_ok {P : Program} : PEnv.Ok P (fun _ => none) := fun _ _ _ h => by cases h
def PEnv.add (Γ : PEnv) (k : FuncId) (szs : List Nat) (F : List D → Option D) : PEnv := fun f => if f = k then some (szs, F) else Γ f
theorem PEnv.Ok.add {P : Program} {Γ : PEnv} (h : Γ.Ok P) {k : FuncId} {szs : List Nat} {F : List D → Option D} (hk : SoundP P k szs F) : (Γ.add k szs F).Ok P := by
  intro f s G hf
  unfold PEnv.add at hf
  split at hf
  · rename_i e
    injection hf with hf; injection hf with h1 h2; subst h1; subst h2; subst e
    exact hk
  · exact h f s G hf
theorem PEnv.add_same (Γ : PEnv) (k : FuncId) (szs F) : (Γ.add k szs F) k = some (szs, F) := by simp [PEnv.add]
theorem PEnv.add_ne {Γ : PEnv} {k f : FuncId} {szs F x} (h : f ≠ k) (hx : Γ f = x) : (Γ.add k szs F) f = x := by simp [PEnv.add, h, hx]
end Wf
