/-
  What operations do: places, parts.
-/
import Derived.Test.YtpdhbdacbiamdaaWfK
set_option linter.unusedVariables false
set_option linter.unusedSimpArgs false
set_option linter.unnecessarySimpa false
namespace Wf
open Go Go.RowKit

theorem ty_fld {P : Program} {s f off size : Nat} (h : tyFld P s f = some (off, size)) : ∃ fs x, P.underlying s = some (.struct fs) ∧ fs[f]? = some x ∧ x.offset = off ∧ tySize P x.type = some size := by
  unfold tyFld at h
  split at h
  · rename_i fs hu
    cases hx : fs[f]? with
    | none => rw [hx] at h; cases h
    | some x =>
      rw [hx] at h
      cases hi : P.info? x.type with
      | none => simp [hi] at h
      | some i =>
        simp [hi] at h
        exact ⟨fs, x, hu, hx, h.1, by unfold tySize; simp [hi, h.2]⟩
  · cases h

theorem ty_fldAgg {P : Program} {s f : Nat} {ag : Bool} (h : tyFldAgg P s f = some ag) : ∃ fs x, P.underlying s = some (.struct fs) ∧ fs[f]? = some x ∧ tyAgg P x.type = some ag := by
  unfold tyFldAgg at h
  split at h
  · rename_i fs hu
    cases hx : fs[f]? with
    | none => rw [hx] at h; cases h
    | some x => rw [hx] at h; exact ⟨fs, x, hu, hx, h⟩
  · cases h

theorem ty_elem {P : Program} {t sz : Nat} (h : tyElem P t = some sz) : ∃ e, P.underlying t = some (.slice e) ∧ tySize P e = some sz := by
  unfold tyElem at h
  split at h
  · rename_i e hu; exact ⟨e, hu, h⟩
  · cases h

theorem ty_arr {P : Program} {t n sz : Nat} {ag : Bool} (h : tyArr P t = some (n, sz, ag)) : ∃ e, P.underlying t = some (.array n e) ∧ tySize P e = some sz ∧ tyAgg P e = some ag := by
  unfold tyArr at h
  split at h
  · rename_i n' e hu
    cases hi : P.info? e with
    | none => rw [hi] at h; cases h
    | some i =>
      rw [hi] at h
      cases ha : tyAgg P e with
      | none => simp [ha] at h
      | some a =>
        simp [ha] at h
        obtain ⟨rfl, h2, rfl⟩ := h
        exact ⟨e, hu, by unfold tySize; simp [hi, h2], ha⟩
  · cases h

theorem fieldAt_run {P : Program} {s f off size b o : Nat} {w : World} (h : tyFld P s f = some (off, size)) (h0 : size ≠ 0) :
    (Instr.fieldAt s (.pointer (some ⟨b, o, none⟩)) f).run P w = .ok (.pointer (some ⟨b, o + off, none⟩)) w := by
  obtain ⟨fs, x, h1, h2, rfl, h4⟩ := ty_fld h
  simp only [Instr.fieldAt, Sem.run_bind, ty_und h1, Result.andThen_ok]
  simp only [h2, Instr.sureAddr, Sem.run_bind, Sem.run_pure, Result.andThen_ok, fieldPlace, ty_size h4, h0, if_false, Addr.add_lit]

theorem run_part {P : Program} {t n off : Nat} {ag : Bool} {w : World} {cs : Array Value} {v : Value} (hag : tyAgg P t = some ag) (hn : tySize P t = some n)
    (h : if ag then v = .agg (cs.extract off (off + n)) else cs[off]? = some v) : (part t cs off).run P w = .ok v w := by
  unfold part
  simp only [Sem.run_bind, ty_agg hag, Result.andThen_ok]
  cases ag with
  | true => simp at h; simp [ty_size hn, h]
  | false => simp at h; simp [h]

section
variable {M : GM} {c : Ctx} {N : Nat} {w0 : World} {O0 : Nat → Prop} {L Lr : Loc} {G : M.S} {w : World}

theorem at_part {d : D} {ag : Bool} {n off : Nat} {cs : List D} {u : Value} (hp : partD ag n off cs = some d) (h0 : ag = true ∨ n = 1)
    (h : Val c L w N (.d (.at_ (.agg cs))) u) : ∃ b o, u = .pointer (some ⟨b, o, none⟩) ∧ Val c L w N (.d (.at_ d)) (.pointer (some ⟨b, o + off, none⟩)) := by
  have hr := h.dat
  cases hr with
  | at_ _ v b o g1 g2 g3 g4 =>
    cases g4 with
    | agg _ vs q1 q2 q3 =>
      obtain ⟨v', r1, r2, r3⟩ := part_rep hp q1 (fun i d u hd hu => ⟨q2 i d u hd hu, q3 i u hu⟩)
      refine ⟨b, o, rfl, .d _ _ (.at_ _ v' _ _ g1 g2 (fun j u hu => ?_) r1)⟩
      have := g3 (off + j) u (by simpa [Value.cells] using r3 j u hu)
      rwa [← Nat.add_assoc] at this

theorem afieldAddr_ok {P : Program} {s f : Nat} {x v : V} {u : Value} (ha : afieldAddr P s x f = some v) (hx : Val c L w N x u)
    (hlive : ∀ g n off, x = .ptr g n off → L.get g n ≠ .dead) (harr : ∀ g n i off, x = .ept g n i off → ∃ sz els l, L.get g n = .arr sz els l ∧ i < els.length) :
    ∃ u', (Instr.fieldAt s u f).run P w = .ok u' w ∧ Val c L w N v u' := by
  unfold afieldAddr at ha
  cases hf : tyFld P s f with
  | none => rw [hf] at ha; cases ha
  | some p =>
  obtain ⟨off, size⟩ := p
  cases hag : tyFldAgg P s f with
  | none => rw [hf, hag] at ha; cases ha
  | some ag =>
  rw [hf, hag] at ha
  dsimp only at ha
  split at ha
  · cases ha
  · rename_i h0
    cases x with
    | ptr g n o =>
      injection ha with ha; subst ha
      cases hx with
      | ptr _ _ _ _ k1 k2 =>
        obtain ⟨b, e, rfl⟩ := k2 (hlive _ _ _ rfl)
        exact ⟨_, fieldAt_run hf h0, .ptr _ _ _ _ k1 fun _ => ⟨b, e, rfl⟩⟩
    | ept g n i o =>
      injection ha with ha; subst ha
      cases hx with
      | ept _ _ _ _ _ k1 k2 =>
        obtain ⟨sz, els, l, h1, h2⟩ := harr _ _ _ _ rfl
        obtain ⟨b, e, rfl⟩ := k2 _ _ _ h1 h2
        refine ⟨_, fieldAt_run hf h0, .ept _ _ _ _ _ k1 fun sz' els' l' h1' _ => ⟨b, e, ?_⟩⟩
        rw [h1] at h1'; cases h1'; rw [Nat.add_assoc]
    | d y =>
      cases y with
      | at_ z =>
        cases z with
        | agg cs =>
          dsimp only at ha
          cases hp : partD ag size off cs with
          | none => rw [hp] at ha; cases ha
          | some d =>
            rw [hp] at ha
            injection ha with ha; subst ha
            have : ag = true ∨ size = 1 ∨ True := .inr (.inr trivial)
            have hr := hx.dat
            cases hr with
            | at_ _ v b o g1 g2 g3 g4 =>
              cases g4 with
              | agg _ vs q1 q2 q3 =>
                obtain ⟨v', r1, r2, r3⟩ := part_rep hp q1 (fun i d u hd hu => ⟨q2 i d u hd hu, q3 i u hu⟩)
                refine ⟨_, fieldAt_run hf h0, .d _ _ (.at_ _ v' _ _ g1 g2 (fun j u hu => ?_) r1)⟩
                have := g3 (off + j) u (by simpa [Value.cells] using r3 j u hu)
                rwa [← Nat.add_assoc] at this
        | _ => cases ha
      | h k o =>
        injection ha with ha; subst ha
        have hr := hx.dat
        cases hr with
        | h _ _ b o' hk =>
          refine ⟨_, fieldAt_run hf h0, .d _ _ ?_⟩
          rw [Nat.add_assoc]; exact .h _ _ _ _ hk
      | _ => cases ha
    | _ => cases ha

theorem indexAt_slice {P : Program} {t sz b o len cap : Nat} {k : IntKind} {i : Int} (h : tyElem P t = some sz) (h0 : 0 ≤ i) (h1 : i < len) :
    (Instr.indexAt t (.slice (some ⟨b, o, none⟩) len cap) (.int k i)).run P w = .ok (.pointer (some ⟨b, o + i.toNat * sz, none⟩)) w := by
  obtain ⟨e, h2, h3⟩ := ty_elem h
  simp [Instr.indexAt, ty_und h2, asIntOf, h0, h1, ty_size h3, Addr.add_lit]

theorem indexAt_array {P : Program} {t n sz b o : Nat} {ag : Bool} {k : IntKind} {i : Int} (h : tyArr P t = some (n, sz, ag)) (h0 : 0 ≤ i) (h1 : i < n) :
    (Instr.indexAt t (.pointer (some ⟨b, o, none⟩)) (.int k i)).run P w = .ok (.pointer (some ⟨b, o + i.toNat * sz, none⟩)) w := by
  obtain ⟨e, h2, h3, _⟩ := ty_arr h
  simp [Instr.indexAt, ty_und h2, asIntOf, h0, h1, ty_size h3, Addr.add_lit, Instr.sureAddr]

theorem aindexAddr_ok {P : Program} (hm : Mem M c N w0 O0 L G w) (hs : Sees Lr L) {t : TypeId} {x i v : V} {u ui : Value} (ha : aindexAddr P Lr t x i = some v) (hx : Val c L w N x u) (hi : Val c L w N i ui)
    (hlive : ∀ g n off, x = .ptr g n off → Lr.get g n ≠ .dead) (hbl : ∀ g n off len, x = .bref g n off len → ∃ ag ds, Lr.get g n = .box ag ds) :
    ∃ u', (Instr.indexAt t u ui).run P w = .ok u' w ∧ Val c L w N v u' := by
  unfold aindexAddr at ha
  split at ha
  rotate_left
  · cases ha
  rename_i k j
  have := hi.int; subst this
  split at ha
  · cases ha
  rename_i hneg
  have h0 : 0 ≤ j := by omega
  cases x with
  | d y =>
    cases y with
    | sl tg l =>
      dsimp only at ha
      cases ht : tyElem P t with
      | none => rw [ht] at ha; cases ha
      | some sz =>
      cases hd : l[j.toNat]? with
      | none => rw [ht, hd] at ha; cases ha
      | some d =>
      rw [ht, hd] at ha
      dsimp only at ha
      split at ha
      · rename_i hw
        obtain ⟨hw, hcd⟩ := hw
        injection ha with ha; subst ha
        have hlt : j.toNat < l.length := by
          rcases Nat.lt_or_ge j.toNat l.length with h | h
          · exact h
          · rw [List.getElem?_eq_none h] at hd; cases hd
        have hr := hx.dat
        cases hr with
        | slE _ a cap _ => simp at hd
        | sl _ _ b o sz' cap vs g1 g2 g3 g4 g5 g6 g7 g8 =>
          obtain ⟨q1, q2⟩ := g8 j.toNat hlt
          have hdr := g7 _ _ hd
          have hz : sz' = sz := by
            have := hdr.cells (by simpa using hcd)
            omega
          subst hz
          exact ⟨_, indexAt_slice ht h0 (by omega), .d _ _ (.at_ _ _ _ _ g4 g6 q2 hdr)⟩
      · cases ha
    | at_ z =>
      cases z with
      | agg cs =>
        dsimp only at ha
        cases ht : tyArr P t with
        | none => rw [ht] at ha; cases ha
        | some p =>
          obtain ⟨n, sz, ag⟩ := p
          rw [ht] at ha
          dsimp only at ha
          split at ha
          · rename_i hlt
            cases hp : partD ag sz (j.toNat * sz) cs with
            | none => rw [hp] at ha; cases ha
            | some d =>
              rw [hp] at ha
              injection ha with ha; subst ha
              have hr := hx.dat
              cases hr with
              | at_ _ v b o g1 g2 g3 g4 =>
                cases g4 with
                | agg _ vs q1 q2 q3 =>
                  obtain ⟨v', r1, r2, r3⟩ := part_rep hp q1 (fun i d u hd hu => ⟨q2 i d u hd hu, q3 i u hu⟩)
                  refine ⟨_, indexAt_array ht h0 (by omega), .d _ _ (.at_ _ v' _ _ g1 g2 (fun j' u hu => ?_) r1)⟩
                  have := g3 (j.toNat * sz + j') u (by simpa [Value.cells] using r3 j' u hu)
                  rwa [← Nat.add_assoc] at this
          · cases ha
      | _ => cases ha
    | h k' off =>
      dsimp only at ha
      cases ht : tyArr P t with
      | none => rw [ht] at ha; cases ha
      | some p =>
        obtain ⟨n, sz, ag⟩ := p
        rw [ht] at ha
        dsimp only at ha
        split at ha
        · rename_i hlt
          injection ha with ha; subst ha
          have hr := hx.dat
          cases hr with
          | h _ _ b o hk =>
            refine ⟨_, indexAt_array ht h0 (by omega), .d _ _ ?_⟩
            rw [Nat.add_assoc]; exact .h _ _ _ _ hk
        · cases ha
    | _ => cases ha
  | ref g l off n =>
    dsimp only at ha
    cases ht : tyElem P t with
    | none => rw [ht] at ha; cases ha
    | some sz =>
    cases hy : Lr.get g l with
    | arr sz' els lv =>
      rw [ht, hy] at ha
      dsimp only at ha
      split at ha
      · rename_i hc
        obtain ⟨h1, rfl⟩ := hc
        injection ha with ha; subst ha
        have hL := hs g l (by rw [hy]; simp)
        rw [hy] at hL
        cases hx with
        | ref _ _ _ _ _ k1 k2 =>
          obtain ⟨p1, a, cap, rfl, p3, p4⟩ := k2 _ _ _ hL
          rcases p4 with p4 | ⟨b, y, T, fz, q1, rfl, q3, q4⟩
          · omega
          · refine ⟨_, indexAt_slice ht h0 (by omega), .ept _ _ _ _ _ k1 fun sz2 els2 l2 h2 _ => ⟨b, q1, ?_⟩⟩
            rw [hL] at h2; cases h2
            rw [Nat.add_mul, Nat.add_zero]
      · cases ha
    | _ => rw [ht, hy] at ha; cases ha
  | bref g l off n =>
    dsimp only at ha
    cases ht : tyElem P t with
    | none => rw [ht] at ha; cases ha
    | some sz =>
      rw [ht] at ha
      dsimp only at ha
      split at ha
      · rename_i hc
        obtain ⟨rfl, h1⟩ := hc
        injection ha with ha; subst ha
        obtain ⟨ag, ds, hy⟩ := hbl _ _ _ _ rfl
        have hL := hs g l (by rw [hy]; simp)
        rw [hy] at hL
        cases hx with
        | bref _ _ _ _ _ k1 k2 =>
          obtain ⟨p1, b, p2, rfl⟩ := k2 _ (by rw [hL]; rfl)
          refine ⟨_, indexAt_slice ht h0 (by omega), .ptr _ _ _ _ k1 fun _ => ⟨b, p2, ?_⟩⟩
          rw [Nat.mul_one]
      · cases ha
  | ptr g l off =>
    dsimp only at ha
    cases ht : tyArr P t with
    | none => rw [ht] at ha; cases ha
    | some p =>
      obtain ⟨n, sz, ag⟩ := p
      rw [ht] at ha
      dsimp only at ha
      split at ha
      · rename_i hlt
        injection ha with ha; subst ha
        have hd := hlive _ _ _ rfl
        have hL := hs g l hd
        cases hx with
        | ptr _ _ _ _ k1 k2 =>
          obtain ⟨b, e, rfl⟩ := k2 (by rw [hL]; exact hd)
          exact ⟨_, indexAt_array ht h0 (by omega), .ptr _ _ _ _ k1 fun _ => ⟨b, e, rfl⟩⟩
      · cases ha
  | _ => cases ha


theorem okPtr_ptr {v : V} (hs : Sees Lr L) (h : okPtr Lr v = true) : (∀ g n off, v = .ptr g n off → Lr.get g n ≠ .dead ∧ L.get g n ≠ .dead) ∧
    (∀ g n i off, v = .ept g n i off → ∃ sz els l, L.get g n = .arr sz els l ∧ i < els.length) ∧ (∀ g n off len, v = .bref g n off len → ∃ ag ds, Lr.get g n = .box ag ds) := by
  refine ⟨?_, ?_, ?_⟩
  · rintro g n off rfl
    have h1 : Lr.get g n ≠ .dead := by intro e; simp [okPtr, e] at h
    exact ⟨h1, by rw [hs g n h1]; exact h1⟩
  · rintro g n i off rfl
    simp only [okPtr] at h
    cases hx : Lr.get g n <;> rw [hx] at h <;> simp at h
    exact ⟨_, _, _, by rw [hs g n (by rw [hx]; simp), hx], h⟩
  · rintro g n off len rfl
    simp only [okPtr] at h
    cases hx : Lr.get g n <;> rw [hx] at h <;> simp at h
    exact ⟨_, _, rfl⟩

-- slices of slices
theorem sliceBound_run {P : Program} {k : IntKind} {i : Int} {y : Nat} {code : BoundsCode} (h0 : 0 ≤ i) (h1 : i ≤ y) : (Instr.sliceBound (.int k i) y code).run P w = .ok i.toNat w := by
  simp [Instr.sliceBound, asIntOf, h0, h1]

/-- An optional bound, and its value. -/
def OptVal (c : Ctx) (L : Loc) (w : World) (N : Nat) : Option V → Option Value → Prop
  | none, none => True
  | some v, some u => Val c L w N v u
  | _, _ => False

theorem optD_val {x : Option V} {u : Option Value} {y : Option Int} (h : optD x = some y) (hv : OptVal c L w N x u) : (y = none ∧ u = none) ∨ ∃ k n, y = some n ∧ u = some (.int k n) := by
  cases x with
  | none => cases u <;> simp_all [optD, OptVal]
  | some v =>
    cases u with
    | none => simp [OptVal] at hv
    | some u =>
      cases v with
      | d z =>
        cases z <;> simp [optD] at h
        rename_i k n
        subst h
        exact .inr ⟨k, n, rfl, by rw [Val.int hv]⟩
      | _ => simp [optD] at h

theorem bounds_run {P : Program} {isSlice : Bool} {len cap : Nat} {lo hi mx : Option V} {lu hu mu : Option Value} {lo' hi' mx' : Option Int}
    (h1 : optD lo = some lo') (h2 : optD hi = some hi') (h3 : optD mx = some mx') (v1 : OptVal c L w N lo lu) (v2 : OptVal c L w N hi hu) (v3 : OptVal c L w N mx mu)
    (hlc : len ≤ cap) (ha : 0 ≤ lo'.getD 0) (hb : lo'.getD 0 ≤ hi'.getD len) (hc : hi'.getD len ≤ len) (hm : mx'.getD (hi'.getD len) = hi'.getD len) (hmh : mx' ≠ none → hi' ≠ none) :
    (Instr.sliceBounds isSlice len cap lu hu mu).run P w = .ok ((lo'.getD 0).toNat, (hi'.getD len).toNat, if mx'.isSome then (hi'.getD len).toNat else cap) w := by
  unfold Instr.sliceBounds
  have sb : ∀ {k : IntKind} {i : Int} {y : Nat} {code : BoundsCode}, 0 ≤ i → i ≤ y → (Instr.sliceBound (.int k i) y code).run P w = .ok i.toNat w := fun h0 h1 => sliceBound_run h0 h1
  have nn : ¬ ((none : Option Int) ≠ none) := by simp
  rcases optD_val h1 v1 with ⟨rfl, rfl⟩ | ⟨k1, n1, rfl, rfl⟩ <;> rcases optD_val h2 v2 with ⟨rfl, rfl⟩ | ⟨k2, n2, rfl, rfl⟩ <;> rcases optD_val h3 v3 with ⟨rfl, rfl⟩ | ⟨k3, n3, rfl, rfl⟩
  · simp
  · exact absurd rfl (hmh (by simp))
  · simp only [Option.getD_some, Option.getD_none] at *
    simp [sb (k := k2) (i := n2) (y := cap) (by omega) (by omega)]
  · simp only [Option.getD_some, Option.getD_none] at *
    subst hm
    simp [sb (k := k3) (i := n3) (y := cap) (by omega) (by omega), sb (k := k2) (i := n3) (y := n3.toNat) (by omega) (by omega)]
  · simp only [Option.getD_some, Option.getD_none] at *
    simp [sb (k := k1) (i := n1) (y := len) (by omega) (by omega)]
  · exact absurd rfl (hmh (by simp))
  · simp only [Option.getD_some, Option.getD_none] at *
    simp [sb (k := k2) (i := n2) (y := cap) (by omega) (by omega), sb (k := k1) (i := n1) (y := n2.toNat) (by omega) (by omega)]
  · simp only [Option.getD_some, Option.getD_none] at *
    subst hm
    simp [sb (k := k3) (i := n3) (y := cap) (by omega) (by omega), sb (k := k2) (i := n3) (y := n3.toNat) (by omega) (by omega), sb (k := k1) (i := n1) (y := n3.toNat) (by omega) (by omega)]

end
end Wf
