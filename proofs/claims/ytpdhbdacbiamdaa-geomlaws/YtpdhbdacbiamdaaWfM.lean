/-
  What operations do: slices, and what leaves memory alone.
-/
import Derived.Test.YtpdhbdacbiamdaaWfL
set_option linter.unusedVariables false
set_option linter.unusedSimpArgs false
set_option linter.unnecessarySimpa false
namespace Wf
open Go Go.RowKit

section
variable {M : GM} {c : Ctx} {N : Nat} {w0 : World} {O0 : Nat → Prop} {L Lr : Loc} {G : M.S} {w : World}

theorem sliceAt_slice {P : Program} {t sz len cap l h m : Nat} {a : Option Addr} {lu hu mu : Option Value} (ht : tyElem P t = some sz)
    (hb : (Instr.sliceBounds true len cap lu hu mu).run P w = .ok (l, h, m) w) :
    (Instr.sliceAt t (.slice a len cap) lu hu mu).run P w = .ok (.slice (if m = l then a else a.map (·.add (l * sz))) (h - l) (m - l)) w := by
  obtain ⟨e, h1, h2⟩ := ty_elem ht
  simp [Instr.sliceAt, Instr.slice, ty_und h1, hb, ty_size h2]

theorem drop_take_get {α : Type} {l : List α} {a n i : Nat} {d : α} (h : ((l.drop a).take n)[i]? = some d) : l[a + i]? = some d := by
  rw [List.getElem?_take] at h
  split at h
  · rwa [List.getElem?_drop] at h
  · cases h

theorem aslice_ok {P : Program} (hm : Mem M c N w0 O0 L G w) (hs : Sees Lr L) {t : TypeId} {x v : V} {lo hi mx : Option V} {u : Value} {lu hu mu : Option Value} (ha : aslice P Lr t x lo hi mx = some v) (hx : Val c L w N x u)
    (v1 : OptVal c L w N lo lu) (v2 : OptVal c L w N hi hu) (v3 : OptVal c L w N mx mu) :
    ∃ u', (Instr.sliceAt t u lu hu mu).run P w = .ok u' w ∧ Val c L w N v u' := by
  unfold aslice at ha
  cases h1 : optD lo with
  | none => rw [h1] at ha; cases ha
  | some lo' =>
  cases h2 : optD hi with
  | none => rw [h1, h2] at ha; cases ha
  | some hi' =>
  cases h3 : optD mx with
  | none => rw [h1, h2, h3] at ha; cases ha
  | some mx' =>
  rw [h1, h2, h3] at ha
  dsimp only at ha
  cases x with
  | d y =>
    cases y with
    | sl tg l =>
      dsimp only at ha
      split at ha
      · rename_i hc
        obtain ⟨c1, c2, c3, c4, c5, c6, c7, c8⟩ := hc
        injection ha with ha; subst ha
        obtain ⟨sz, hsz⟩ := Option.isSome_iff_exists.1 c1
        have hmh : mx' ≠ none → hi' ≠ none := by
          intro e e2; subst e2; cases mx' with
          | none => exact e rfl
          | some _ => simp at c6
        have hr := hx.dat
        have hl' : (((l.drop (lo'.getD 0).toNat).take (hi'.getD ↑l.length - lo'.getD 0).toNat)).length = (hi'.getD ↑l.length).toNat - (lo'.getD 0).toNat := by
          simp; omega
        cases hr with
        | slE _ a cap hfull =>
          have hb := bounds_run (P := P) (w := w) (isSlice := true) (len := 0) (cap := cap) h1 h2 h3 v1 v2 v3 (Nat.zero_le _) c2 (by simpa using c3) (by simpa using c4) (by simpa using c5) hmh
          refine ⟨_, sliceAt_slice hsz hb, .d _ _ ?_⟩
          have e1 : lo'.getD 0 = 0 := by simp at c3 c4; omega
          have e2 : hi'.getD ((List.length ([] : List D) : Nat) : Int) = 0 := by simp at c3 c4 ⊢; omega
          have e2' : hi'.getD ((0 : Nat) : Int) = 0 := e2
          simp only [List.drop_nil, List.take_nil, e1, e2', Int.toNat_zero, Nat.sub_zero]
          refine .slE _ _ _ fun hf => ?_
          rcases sliceTag_full hf with h | ⟨h, _⟩
          · simp [h]
          · rw [hfull h]; simp
        | sl _ _ b o sz' cap vs g1 g2 g3 g4 g5 g6 g7 g8 =>
          have hb := bounds_run (P := P) (w := w) (isSlice := true) (len := l.length) (cap := cap) h1 h2 h3 v1 v2 v3 g2 c2 c3 c4 c5 hmh
          refine ⟨_, sliceAt_slice hsz hb, .d _ _ ?_⟩
          have hzz : sz' = sz := by
            cases l with
            | nil => exact absurd rfl g1
            | cons d r =>
              have q1 := g7 0 d (by simp)
              have q2 := (g8 0 (by simp)).1
              simp only [List.all_cons, Bool.and_eq_true] at c7 c8
              have q3 := (q1.cells (by simpa using c7.1)).1
              have q4 : some d.width = tyElem P t := by simpa using c8.1
              rw [hsz] at q4; simp at q4; omega
          subst hzz
          generalize hlo : lo'.getD 0 = A at *
          generalize hhi : hi'.getD (l.length : Int) = H at *
          by_cases he : A = H
          · -- nothing is left
            subst he
            have : (l.drop A.toNat).take (A - A).toNat = [] := by simp
            rw [this]
            simp only [Nat.sub_self]
            refine .slE _ _ _ fun hf => ?_
            rcases sliceTag_full hf with h | ⟨h, h'⟩
            · simp [h]
            · have := of_decide_eq_true h'; rw [g3 h]; split <;> omega
          · have hAH : A < H := by omega
            have hm' : ¬ (if mx'.isSome then H.toNat else cap) = A.toNat := by split <;> omega
            rw [if_neg hm']
            simp only [Option.map_some, Addr.add_lit]
            rw [← hl']
            refine .sl _ _ b (o + A.toNat * sz') sz' _ (fun i => vs (A.toNat + i)) (by intro e; rw [e] at hl'; simp at hl'; omega) (by rw [hl']; split <;> omega) ?_ g4 ?_ g6 ?_ ?_
            · intro hf
              rw [hl']
              rcases sliceTag_full hf with h | ⟨h, h'⟩
              · simp [h]
              · have := of_decide_eq_true h'; rw [g3 h]; split <;> omega
            · intro hf
              exact g5 (sliceTag_lent hf)
            · intro i d hd; exact g7 _ d (drop_take_get hd)
            · intro i hi
              rw [hl'] at hi
              obtain ⟨p1, p2⟩ := g8 (A.toNat + i) (by omega)
              refine ⟨p1, fun q y hy => ?_⟩
              have := p2 q y hy
              rw [Nat.add_mul] at this
              rw [show o + A.toNat * sz' + i * sz' + q = o + (A.toNat * sz' + i * sz') + q by omega]; exact this
      · cases ha
    | str s =>
      dsimp only at ha
      split at ha
      · rename_i hc
        obtain ⟨c1, rfl, c2, c3, c4⟩ := hc
        injection ha with ha; subst ha
        have hr := hx.dat
        cases hr
        have hu : P.underlying t = some .string := by
          unfold tyStr at c1; split at c1 <;> simp_all
        rcases optD_val h3 v3 with ⟨_, rfl⟩ | ⟨_, _, e, _⟩
        · have hb := bounds_run (P := P) (w := w) (isSlice := false) (len := s.size) (cap := s.size) h1 h2 h3 v1 v2 v3 (Nat.le_refl _) c2 c3 c4 (by simp) (by simp)
          refine ⟨.string (s.extract (lo'.getD 0).toNat (hi'.getD ↑s.size).toNat), ?_, .d _ _ (.str _)⟩
          simp [Instr.sliceAt, Instr.slice, ty_und hu, hb]
        · cases e
      · cases ha
    | _ => cases ha
  | ref g n off len =>
    dsimp only at ha
    cases ht : tyElem P t with
    | none => rw [ht] at ha; cases ha
    | some sz =>
    cases hy : Lr.get g n with
    | arr sz' els lv =>
      rw [ht, hy] at ha
      dsimp only at ha
      split at ha
      · rename_i hc
        obtain ⟨rfl, rfl, c2, c3, c4⟩ := hc
        injection ha with ha; subst ha
        have hL := hs g n (by rw [hy]; simp)
        rw [hy] at hL
        cases hx with
        | ref _ _ _ _ _ k1 k2 =>
          obtain ⟨p1, a, cap, rfl, p3, p4⟩ := k2 _ _ _ hL
          have hb := bounds_run (P := P) (w := w) (isSlice := true) (len := len) (cap := cap) h1 h2 h3 v1 v2 v3 p3 c2 c3 c4 (by simp) (by simp)
          refine ⟨_, sliceAt_slice ht hb, .ref _ _ _ _ _ k1 fun sz2 els2 l2 h2' => ?_⟩
          rw [hL] at h2'; cases h2'
          generalize hlo : lo'.getD 0 = A at *
          generalize hhi : hi'.getD (len : Int) = H at *
          refine ⟨by omega, _, cap - A.toNat, by rw [show (H - A).toNat = H.toNat - A.toNat by omega]; rfl, by omega, ?_⟩
          rcases p4 with p4 | ⟨b, y, T, fz, q1, rfl, q3, q4⟩
          · exact .inl (by omega)
          · by_cases hcap : cap = A.toNat
            · exact .inl (by omega)
            · refine .inr ⟨b, y, T, fz, q1, ?_, q3, ?_⟩
              · simp [hcap, Addr.add_lit]
                rw [Nat.add_mul]
              · rw [show off + A.toNat + (cap - A.toNat) = off + cap by omega]; exact q4
      · cases ha
    | _ => rw [ht, hy] at ha; cases ha
  | ptr g n off =>
    dsimp only at ha
    split at ha
    · rename_i k sz ag ad ds ht hy
      split at ha
      · rename_i hc
        obtain ⟨c0, rfl, rfl, c2, c3, c4, c5⟩ := hc
        injection ha with ha; subst ha
        have hL := hs g n (by rw [hy]; simp)
        rw [hy] at hL
        obtain ⟨e, hu, he, _⟩ := ty_arr ht
        cases hx with
        | ptr _ _ _ _ k1 k2 =>
          obtain ⟨b, q1, rfl⟩ := k2 (by rw [hL]; simp)
          rcases optD_val h3 v3 with ⟨_, rfl⟩ | ⟨_, _, e, _⟩
          · have hb := bounds_run (P := P) (w := w) (isSlice := false) (len := k) (cap := k) h1 h2 h3 v1 v2 v3 (Nat.le_refl _) c2 c3 c4 (by simp) (by simp)
            generalize hlo : lo'.getD 0 = A at *
            generalize hhi : hi'.getD (k : Int) = H at *
            simp only [Option.isSome_none, Bool.false_eq_true, if_false] at hb
            refine ⟨.slice (some (if k = A.toNat then ⟨b, 0, none⟩ else ⟨b, A.toNat, none⟩)) (H.toNat - A.toNat) (k - A.toNat), ?_, .bref _ _ _ _ _ k1 fun k' hk => ?_⟩
            · simp [Instr.sliceAt, ty_und hu, Instr.sureAddr, hb, ty_size he, Addr.add_lit]
            · rw [hL] at hk; simp [HObj.boxLen] at hk; subst hk
              refine ⟨by omega, b, q1, ?_⟩
              rw [← c0, show (H - A).toNat = H.toNat - A.toNat by omega]
              congr 2
              split
              · rename_i e
                have : A.toNat = 0 := by omega
                rw [this]
              · rfl
          · cases e
      · cases ha
    all_goals cases ha
  | _ => cases ha

end
end Wf
