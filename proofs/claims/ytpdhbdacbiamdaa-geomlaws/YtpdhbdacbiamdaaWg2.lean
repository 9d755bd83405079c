/-
  Code, by the machine over plain data.
-/
import Derived.Test.YtpdhbdacbiamdaaWg1
import Derived.Scope
set_option linter.unusedVariables false
set_option linter.unusedSimpArgs false
set_option linter.unnecessarySimpa false
namespace Wf
open Go Go.RowKit

theorem V.idsL_mem {v : V} {g : Nat} : ∀ {l : List V}, v ∈ l → g ∈ v.ids → g ∈ V.idsL l
  | [], h, _ => by cases h
  | x :: l, h, hg => by
    simp only [V.idsL, List.mem_append]
    rcases List.mem_cons.1 h with h | h
    · subst h; exact .inl hg
    · exact .inr (V.idsL_mem h hg)

theorem get_eq {L L' : Loc} {g : Nat} (h : L' g = L g) (n : Nat) : L'.get g n = L.get g n := by unfold Loc.get; rw [h]

theorem Val.drop {c : Ctx} {L L' : Loc} {w : World} {N : Nat} {v : V} {u : Value} (h : Val c L w N v u) (hown : ∀ b, own c L' b → own c L b) : (∀ g ∈ v.ids, L' g = L g) → Val c L' w N v u := by
  induction h with
  | d x v h => exact fun _ => .d _ _ (h.out hown (Nat.le_refl _))
  | ptr g n off v h1 h2 =>
    intro hi
    have e := hi g (by simp [V.ids])
    exact .ptr g n off v (by rw [e]; exact h1) (by rw [get_eq e]; exact h2)
  | ept g n i off v h1 h2 =>
    intro hi
    have e := hi g (by simp [V.ids])
    exact .ept g n i off v (by rw [e]; exact h1) (by rw [get_eq e]; exact h2)
  | ref g n off len v h1 h2 =>
    intro hi
    have e := hi g (by simp [V.ids])
    exact .ref g n off len v (by rw [e]; exact h1) (by rw [get_eq e]; exact h2)
  | bref g n off len v h1 h2 =>
    intro hi
    have e := hi g (by simp [V.ids])
    exact .bref g n off len v (by rw [e]; exact h1) (by rw [get_eq e]; exact h2)
  | map g n v h1 h2 =>
    intro hi
    have e := hi g (by simp [V.ids])
    exact .map g n v (by rw [e]; exact h1) (by rw [get_eq e]; exact h2)
  | clo f a b va vb h1 h2 _ _ ih1 ih2 =>
    intro hi
    refine .clo f a b va vb h1 h2 (fun i v u ha hu => ih1 i v u ha hu fun g hg => hi g ?_) (fun i v u ha hu => ih2 i v u ha hu fun g hg => hi g ?_)
    · simp only [V.ids, List.mem_append]; exact .inl (V.idsL_mem (List.mem_of_getElem? ha) hg)
    · simp only [V.ids, List.mem_append]; exact .inr (V.idsL_mem (List.mem_of_getElem? ha) hg)
  | tup l vs h1 _ ih =>
    intro hi
    refine .tup l vs h1 fun i v u ha hu => ih i v u ha hu fun g hg => hi g ?_
    simp only [V.ids]; exact V.idsL_mem (List.mem_of_getElem? ha) hg

section
variable {P : Program} {M : GM} {Γ : Env M} {N : Nat} {w0 : World} {O0 : Nat → Prop} {γ0 : Nat → Option Addr}

theorem Wk.rel (hM : M.Ok) {s t : St M} (h : Wk s t) : ∀ {a : Act} {w : World}, Rel M N w0 O0 γ0 s a w → Rel M N w0 O0 γ0 t a w := by
  induction h with
  | trans s t u _ _ ih1 ih2 => exact fun hr => ih2 (ih1 hr)
  | nil s i g sz hi =>
    rintro a w ⟨c, hr⟩
    have hi' : i < a.tmps.toList.length := by rw [hr.slots.1]; exact (List.getElem?_eq_some_iff.1 hi).1
    have hu := List.getElem?_eq_getElem hi'
    have hv := (hr.slots.2 i _ _ hi hu).dat
    have hcell : ∃ x, a.tmps.toList[i] = .slice x 0 0 := by
      generalize a.tmps.toList[i] = u at hv
      cases hv with
      | slE _ x cap h => rw [h rfl]; exact ⟨x, rfl⟩
      | sl _ _ _ _ _ _ _ h => exact absurd rfl h
    obtain ⟨x, hx⟩ := hcell
    have hd := none_row hM hr.mem g sz x (wr := []) hr.mem (Grow.refl ..) (by simp [Loc.upd, Loc.new])
    have := hr.did hd (some i)
    have e : a.put (some i) (.slice x 0 0) = a := by
      unfold Act.put
      dsimp only
      congr 1
      rw [← hx]
      apply Array.ext'
      rw [Array.toList_setIfInBounds]
      exact List.set_getElem_self hi'
    rw [e] at this
    exact this
  | drop s s' K h1 h2 h3 h4 h5 h6 =>
    rintro a w ⟨c, hr⟩
    have hown : ∀ b, own c s'.L b → own c s.L b := by
      rintro b (hb | ⟨g, hg, hl⟩)
      · exact .inl hb
      · refine .inr ⟨g, hg, ?_⟩
        by_cases hk : g ∈ K
        · rw [← h3 g hk]; exact hl
        · rw [h4 g hk] at hl; cases hl
    have hnd : ∀ g, (s'.L g).2 ≠ .dead → g ∈ K := fun g hg => by
      by_cases hk : g ∈ K
      · exact hk
      · rw [h4 g hk] at hg; exact absurd rfl hg
    have hnd' : ∀ g, (s'.L g).2 ≠ .dead → (s.L g).2 ≠ .dead := fun g hg => by rw [← h3 g (hnd g hg)]; exact hg
    refine ⟨c, ⟨fun g => ?_, fun g g' b e1 e2 d1 d2 => hr.mem.inj g g' b e1 e2 (hnd' g d1) (hnd' g' d2), fun g b e d => hr.mem.mine g b e (hnd' g d), by rw [h2]; exact hr.mem.glob, hr.mem.size, hr.mem.size0,
      hr.mem.os, hr.mem.tape, hr.mem.output, hr.mem.keep, hr.mem.osub⟩, ⟨by rw [h1]; exact hr.slots.1, fun i v u hv hu => ?_⟩, hr.defers, hr.hγ, hr.cells⟩
    · by_cases hk : g ∈ K
      · have ho := hr.mem.obj g
        have h6' := h6 g hk
        rw [h3 g hk] at h6' ⊢
        cases hx : (s.L g).2 with
        | dead => trivial
        | box ag ds =>
          rw [hx] at ho
          obtain ⟨b, x, T, fz, p1, p2, p3, p4, p5⟩ := ho
          exact ⟨b, x, T, fz, p1, p2, p3, p4, fun i d u hd hu => ⟨(p5 i d u hd hu).1.out hown (Nat.le_refl _), (p5 i d u hd hu).2⟩⟩
        | vbox v =>
          rw [hx] at ho
          obtain ⟨b, u, T, fz, p1, p2, p3, p4, p5⟩ := ho
          exact ⟨b, u, T, fz, p1, p2, p3, p4, p5.drop hown fun g' hg' => h3 g' (h6' v hx g' hg')⟩
        | arr sz els lv =>
          rw [hx] at ho
          cases e : c.ι g with
          | none =>
            simp only [ObjOk, e] at ho ⊢
            exact ho
          | some b =>
            simp only [ObjOk, e] at ho ⊢
            obtain ⟨x, T, fz, p1, p2, p3, vs, p4⟩ := ho
            exact ⟨x, T, fz, p1, p2, p3, vs, fun i d hd => ⟨(p4 i d hd).1.out hown (Nat.le_refl _), (p4 i d hd).2⟩⟩
        | map kk es =>
          rw [hx] at ho
          obtain ⟨b, m, k, p1, p2, p3, p4⟩ := ho
          exact ⟨b, m, k, p1, p2, p3, fun i e p he hp => ⟨(p4 i e p he hp).1, (p4 i e p he hp).2.out hown (Nat.le_refl _)⟩⟩
      · rw [h4 g hk]; trivial
    · rcases h5 i v hv with h | ⟨h, hk⟩
      · subst h; exact .d _ _ (.undef _)
      · exact (hr.slots.2 i v u h hu).drop hown fun g hg => h3 g (hk g hg)

def AExit.real : AExit → Exit
  | .normal => .normal
  | .exit id => .exit id
  | .ret => .ret

theorem least (p : Nat → Prop) (h : ∃ n, p n) : ∃ n, p n ∧ ∀ m, p m → n ≤ m := by
  obtain ⟨n, hn⟩ := h
  induction n using Nat.strongRecOn with
  | _ n ih =>
    by_cases hx : ∃ m, m < n ∧ p m
    · obtain ⟨m, h1, h2⟩ := hx; exact ih m h1 h2
    · exact ⟨n, hn, fun m hm => Nat.le_of_not_lt fun hh => hx ⟨m, hh, hm⟩⟩

theorem awp_ok (hM : M.Ok) (hΓ : ∀ f sp, Γ f = some sp → Sound P M f sp) (hP : P.follows .mixedOrders = true) : ∀ (c : Code) (Q : AExit → St M → Prop) (s : St M) (a : Act) (w : World), awp P Γ c Q s → Rel M N w0 O0 γ0 s a w →
    ∀ Q' : Exit → Act → World → Prop, (∀ e s a w, Q e s → Rel M N w0 O0 γ0 s a w → Q' e.real a w) → c.wp P Q' a w
  | .skip, Q, s, a, w, h, hr, Q', hQ => wp_skip (hQ .normal s a w h hr)
  | .label _, Q, s, a, w, h, hr, Q', hQ => wp_label (hQ .normal s a w h hr)
  | .exit id, Q, s, a, w, h, hr, Q', hQ => wp_exit (hQ (.exit id) s a w h hr)
  | .ret, Q, s, a, w, h, hr, Q', hQ => wp_ret (hQ .ret s a w h hr)
  | .region id ops false, Q, s, a, w, h, hr, Q', hQ => by
    obtain ⟨s', h1, h2⟩ := h
    exact region_text hM hΓ h1 hr fun a w hr' => hQ .normal s' a w h2 hr'
  | .region id ops true, Q, s, a, w, h, hr, Q', hQ => by
    obtain ⟨hl, s', log, h1, hc, h2⟩ := h
    exact region_drawn hM hΓ hP hl h1 hc hr fun a w hr' => hQ .normal s' a w h2 hr'
  | .seq x y, Q, s, a, w, h, hr, Q', hQ => by
    refine wp_seq (awp_ok hM hΓ hP x _ s a w h hr _ fun e s' a' w' he hr' => ?_)
    cases e with
    | normal => exact awp_ok hM hΓ hP y Q s' a' w' he hr' Q' hQ
    | exit id => exact hQ (.exit id) s' a' w' he hr'
    | ret => exact hQ .ret s' a' w' he hr'
  | .cond cc x y, Q, s, a, w, h, hr, Q', hQ => by
    simp only [awp] at h
    obtain ⟨c, hr'⟩ := hr
    have hv := evalV_ok hr'.slots cc
    split at h
    · rename_i e
      rw [e] at hv
      exact wp_cond_true hv.bool (awp_ok hM hΓ hP x Q s a w h ⟨c, hr'⟩ Q' hQ)
    · rename_i e
      rw [e] at hv
      exact wp_cond_false hv.bool (awp_ok hM hΓ hP y Q s a w h ⟨c, hr'⟩ Q' hQ)
    · exact h.elim
  | .block id b, Q, s, a, w, h, hr, Q', hQ => by
    refine wp_block (awp_ok hM hΓ hP b _ s a w h hr _ fun e s' a' w' he hr' => ?_)
    cases e with
    | normal => exact hQ .normal s' a' w' he hr'
    | exit id' =>
      dsimp only at he
      simp only [AExit.real, Exit.inBlock]
      split
      · rename_i hid
        rw [if_pos hid] at he
        exact hQ .normal s' a' w' he hr'
      · rename_i hid
        rw [if_neg hid] at he
        exact hQ (.exit id') s' a' w' he hr'
    | ret => exact hQ .ret s' a' w' he hr'
  | .scope b, Q, s, a, w, h, hr, Q', hQ => by
    refine wp_scope_straight (awp_ok hM hΓ hP b Q s a w h hr _ fun e s' a' w' he hr' => ?_)
    have := hQ e s' a' w' he hr'
    cases e <;> exact this
  | .loop b, Q, s, a, w, h, hr, Q', hQ => by
    obtain ⟨α, J, μ, x0, hw, hround⟩ := h
    classical
    let p : Act → World → Nat → Prop := fun a w n => ∃ x, μ x = n ∧ Rel M N w0 O0 γ0 (J x) a w
    let m : Act → World → Nat := fun a w => if h : ∃ n, p a w n then Classical.choose (least (p a w) h) else 0
    have hm : ∀ a w, (∃ x, Rel M N w0 O0 γ0 (J x) a w) → (∃ x, μ x = m a w ∧ Rel M N w0 O0 γ0 (J x) a w) ∧ ∀ x, Rel M N w0 O0 γ0 (J x) a w → m a w ≤ μ x := by
      intro a w ⟨x, hx⟩
      have he : ∃ n, p a w n := ⟨μ x, x, rfl, hx⟩
      have hs := Classical.choose_spec (least (p a w) he)
      have hmm : m a w = Classical.choose (least (p a w) he) := dif_pos he
      rw [hmm]
      exact ⟨hs.1, fun y hy => hs.2 _ ⟨y, rfl, hy⟩⟩
    refine wp_loop (fun a w => ∃ x, Rel M N w0 O0 γ0 (J x) a w) m ⟨x0, hw.rel hM hr⟩ fun a w hI => ?_
    obtain ⟨⟨x, hx1, hx2⟩, _⟩ := hm a w hI
    refine awp_ok hM hΓ hP b _ (J x) a w (hround x) hx2 _ fun e s' a' w' he hr' => ?_
    cases e with
    | normal =>
      obtain ⟨x', hlt, hwk⟩ := he
      have hr'' := hwk.rel hM hr'
      refine ⟨⟨x', hr''⟩, ?_⟩
      have := (hm a' w' ⟨x', hr''⟩).2 x' hr''
      omega
    | exit id => exact hQ (.exit id) s' a' w' he hr'
    | ret => exact hQ .ret s' a' w' he hr'
  | .rangeFunc _ _ _ _, Q, s, a, w, h, hr, Q', hQ => h.elim
  | .goto _, Q, s, a, w, h, hr, Q', hQ => h.elim
  | .refuse _, Q, s, a, w, h, hr, Q', hQ => h.elim
end
end Wf
