/-
  What operations do: append, make, copy, literals.
-/
import Derived.Test.YtpdhbdacbiamdaaWfO
set_option linter.unusedVariables false
set_option linter.unusedSimpArgs false
set_option linter.unnecessarySimpa false
namespace Wf
open Go Go.RowKit

section
variable {M : GM} {c : Ctx} {N : Nat} {w0 : World} {O0 : Nat → Prop} {L Lr : Loc} {G : M.S} {w : World}

/-- append, where there is room. -/
theorem append_room {P : Program} {ty ty2 rty e sz sLen sCap n : Nat} {a : Option Addr} {u : Value} {new : Array Value} {i : TypeInfo} (hu : P.underlying ty = some (.slice e)) (hi : P.info? e = some i) (hs : i.size = sz)
    (h2 : (tyElem P ty2).isSome) (hl : Builtin.lenOf u = pure n) (hf : (Builtin.firstCells sz n u).run P w = .ok new w) (hle : sLen + n ≤ sCap) {w' : World}
    (hst : match a with | some a => (storeCells (a.add (sLen * sz)) new.toList).run P w = .ok () w' | none => w' = w) :
    (Builtin.append_ #[ty, ty2] rty #[.slice a sLen sCap, u]).run P w = .ok (.slice a (sLen + n) sCap) w' := by
  obtain ⟨sz2, hsz2⟩ := Option.isSome_iff_exists.1 h2
  obtain ⟨e2, hu2, _⟩ := ty_elem hsz2
  have hsize : ∀ w, (Go.sizeOf e).run P w = .ok sz w := fun w => ty_size (by unfold tySize; simp [hi, hs]) w
  unfold Builtin.append_
  simp [ty_und hu, ty_und hu2, hsize, hl, hle, hf]
  cases a with
  | none => simp at hst; simp [hst]
  | some a => simp at hst; simp [hst]

/-- append, where there is none. -/
theorem append_grow {P : Program} {ty ty2 rty e sz sLen sCap n : Nat} {a : Option Addr} {u zv : Value} {old new : Array Value} {i : TypeInfo} (hu : P.underlying ty = some (.slice e)) (hi : P.info? e = some i) (hs : i.size = sz)
    (hz : i.zero = some zv) (hzs : zv.cells.size = sz) (hb : i.bytes ≤ 4096) (hn : sLen + n ≤ 2 ^ 32)
    (h2 : (tyElem P ty2).isSome) (hl : Builtin.lenOf u = pure n) (hold : ∀ k, (Builtin.firstCells sz sLen (.slice a sLen sCap)).run P (w.drewN k) = .ok old (w.drewN k))
    (hnew : ∀ k, (Builtin.firstCells sz n u).run P (w.drewN k) = .ok new (w.drewN k)) (hgt : sCap < sLen + n) (ho1 : old.size = sLen * sz) (hn1 : new.size = n * sz) :
    ∃ cap x, sLen + n ≤ cap ∧ x.size = cap * sz ∧ (∀ k, k < (sLen + n) * sz → x[k]? = (old ++ new)[k]?) ∧
      (Builtin.append_ #[ty, ty2] rty #[.slice a sLen sCap, u]).run P w = .ok (.slice (some ⟨w.heap.size, 0, none⟩) (sLen + n) cap) (w.drew.alloc (.cells x e)) := by
  obtain ⟨sz2, hsz2⟩ := Option.isSome_iff_exists.1 h2
  obtain ⟨e2, hu2, _⟩ := ty_elem hsz2
  have hsize : ∀ w, (Go.sizeOf e).run P w = .ok sz w := fun w => ty_size (by unfold tySize; simp [hi, hs]) w
  have hinfo : ∀ w, (typeInfo e).run P w = .ok i w := fun w => by simp [typeInfo, hi]
  have hzero : ∀ w, (zeroValue e).run P w = .ok zv w := fun w => by simp [zeroValue, hinfo, hz]
  have hcap := nextslicecap_le (sLen + n) sCap hgt
  have hbig : ¬ (Builtin.nextslicecap (sLen + n) sCap * i.bytes > 2 ^ 48) := by
    have h1 : Builtin.nextslicecap (sLen + n) sCap * i.bytes ≤ (2 * 2 ^ 32 + 2000) * 4096 := Nat.mul_le_mul (by omega) hb
    have h2 : (2 * 2 ^ 32 + 2000) * 4096 ≤ 2 ^ 48 := by decide
    omega
  let cap := sLen + n + w.tape w.drawn (.appendCap (sLen + n) sCap e) % (2 ^ 63 - (sLen + n))
  have hnot : ¬ (sLen + n ≤ sCap) := by omega
  have hmax : ¬ (((sLen + n : Nat) : Int) > IntKind.i64.max ∧ (false = true ∨ i.bytes = 0)) := by
    rintro ⟨h, _⟩
    have : IntKind.i64.max = 9223372036854775807 := by decide
    rw [this] at h; omega
  have hold1 := hold 1
  have hnew1 := hnew 1
  refine ⟨cap, old ++ new ++ Builtin.zeroCells zv.cells (cap - (sLen + n)), Nat.le_add_right _ _, ?_, ?_, ?_⟩
  · simp [Builtin.zeroCells, ho1, hn1, hzs]
    rw [← Nat.add_mul, ← Nat.add_mul]; congr 1; have : sLen + n ≤ cap := Nat.le_add_right _ _; omega
  · intro k hk
    rw [Array.getElem?_append_left]
    rw [Nat.add_mul] at hk; simp [ho1, hn1]; exact hk
  · have hd : w.drewN 1 = w.drew := rfl
    rw [hd] at hold1 hnew1
    have hA : ¬ ((9223372036854775807 : Int) < ↑sLen + ↑n) := by omega
    have hB : ¬ (281474976710656 < Builtin.nextslicecap (sLen + n) sCap * i.bytes) := hbig
    have hF : (Question.appendCap (sLen + n) sCap e).forced = false := rfl
    have hC : (Question.appendCap (sLen + n) sCap e).cut (w.tape w.drawn (.appendCap (sLen + n) sCap e)) = cap := rfl
    unfold Builtin.append_
    simp [ty_und hu, ty_und hu2, hsize, hl, hnot, hinfo, hA, hB, hF, hC, hold1, hnew1, hzero, newRow]

theorem RowIn.append {w : World} {A : Nat → Prop} {N : Nat} {γ : Nat → Option Addr} {sz : Nat} {a b : List D} {x y z : Array Value} (h : RowIn w A N γ sz a x) (k : RowIn w A N γ sz b y)
    (hx : x.size = a.length * sz) (hy : y.size = b.length * sz) (hz : ∀ k, k < (a.length + b.length) * sz → z[k]? = (x ++ y)[k]?) : RowIn w A N γ sz (a ++ b) z := by
  obtain ⟨us, hu⟩ := h
  obtain ⟨vs, hv⟩ := k
  refine ⟨fun i => if i < a.length then us i else vs (i - a.length), fun i d hd => ?_⟩
  by_cases hi : i < a.length
  · rw [List.getElem?_append_left hi] at hd
    obtain ⟨p1, p2, p3⟩ := hu i d hd
    simp only [hi, if_true]
    refine ⟨p1, p2, fun q u hq => ?_⟩
    have hqs : q < sz := by
      rcases Nat.lt_or_ge q (us i).cells.size with h' | h'
      · omega
      · rw [Array.getElem?_eq_none h'] at hq; cases hq
    have hlt : i * sz + q < a.length * sz := by
      have : (i + 1) * sz ≤ a.length * sz := Nat.mul_le_mul_right _ hi
      rw [Nat.succ_mul] at this; omega
    rw [hz _ (by rw [Nat.add_mul]; omega), Array.getElem?_append_left (by omega)]
    exact p3 q u hq
  · rw [List.getElem?_append_right (by omega)] at hd
    obtain ⟨p1, p2, p3⟩ := hv _ d hd
    simp only [hi, if_false]
    refine ⟨p1, p2, fun q u hq => ?_⟩
    have hj : i - a.length < b.length := by
      rcases Nat.lt_or_ge (i - a.length) b.length with h' | h'
      · exact h'
      · rw [List.getElem?_eq_none h'] at hd; cases hd
    have hqs : q < sz := by
      rcases Nat.lt_or_ge q (vs (i - a.length)).cells.size with h' | h'
      · omega
      · rw [Array.getElem?_eq_none h'] at hq; cases hq
    have hi2 : i * sz = a.length * sz + (i - a.length) * sz := by rw [← Nat.add_mul]; congr 1; omega
    have hlt : (i - a.length) * sz + q < b.length * sz := by
      have : (i - a.length + 1) * sz ≤ b.length * sz := Nat.mul_le_mul_right _ hj
      rw [Nat.succ_mul] at this; omega
    rw [hz _ (by rw [Nat.add_mul]; omega), Array.getElem?_append_right (by omega), hx, show i * sz + q - a.length * sz = (i - a.length) * sz + q by omega]
    exact p3 q u hq

theorem RowIn.grow {c L w c' L' w'} (h : Grow c L w c' L' w') {N sz : Nat} {els : List D} {x : Array Value} (hr : RowIn w (own c L) N c.γ sz els x) : RowIn w' (own c' L') N c'.γ sz els x := by
  obtain ⟨vs, hv⟩ := hr
  exact ⟨vs, fun i d hd => ⟨((hv i d hd).1).grow h, (hv i d hd).2.1, (hv i d hd).2.2⟩⟩

theorem RowIn.nil {w : World} {A : Nat → Prop} {N : Nat} {γ : Nat → Option Addr} {sz : Nat} {x : Array Value} : RowIn w A N γ sz [] x := ⟨fun _ => undef, by simp⟩

theorem Did.drew {out : Out M.S} {u : Value} {w' : World} (hg : Grow c L w c L w.drew) (h : Did M c N w0 O0 L G w.drew out u w') : Did M c N w0 O0 L G w out u w' := by
  obtain ⟨c', h1, h2, h3⟩ := h
  exact ⟨c', h1, hg.trans h2, h3⟩

theorem Mem.drewN (hM : M.Ok) (h : Mem M c N w0 O0 L G w) (k : Nat) : Mem M c N w0 O0 L G (w.drewN k) ∧ Grow c L w c L (w.drewN k) := by
  have hg : Grow c L w c L (w.drewN k) := ⟨Nat.le_refl _, fun _ _ _ => rfl, fun _ _ h => h, fun _ _ h => h, fun _ y _ fz h _ => ⟨y, fz, h, rfl⟩, fun _ => Nat.le_refl _, fun _ _ => .inr ⟨rfl, Compat.refl _⟩⟩
  exact ⟨⟨fun g => (h.obj g).grow hg fun _ _ _ => rfl, h.inj, h.mine, hM.stable h.glob (fun _ _ => rfl) (Nat.le_refl _), h.size, h.size0, h.os, h.tape, h.output, h.keep, h.osub⟩, hg⟩

theorem aappend_ok {P : Program} (hM : M.Ok) (hm : Mem M c N w0 O0 L G w) (hs : Sees Lr L) {t : Nat} (hnew : Lr t = L t) {ty ty2 rty : TypeId} {s x : V} {su xu : Value} {o : Out M.S} (ha : aappend P Lr t ty s x = some o)
    (h2 : (tyElem P ty2).isSome) (hv : Val c L w N s su) (hx : Val c L w N x xu) :
    ∃ u w', (Builtin.append_ #[ty, ty2] rty #[su, xu]).run P w = .ok u w' ∧ Did M c N w0 O0 L G w o u w' := by
  have hnew' : Lr.new t = L.new t := by unfold Loc.new; rw [hnew]
  unfold aappend at ha
  rw [hnew'] at ha
  cases hxs : elsOf Lr x with
  | none => rw [hxs] at ha; cases ha
  | some xs =>
  rw [hxs] at ha
  dsimp only at ha
  obtain ⟨xa, xcap, rfl, _, _⟩ := els_ok hm hs hxs hx
  have hlen : Builtin.lenOf (.slice xa xs.length xcap) = pure xs.length := rfl
  have htlt : (L t).1 < L.new t := by simp [Loc.new]
  obtain ⟨hdm, hdg⟩ := Mem.drew hM hm
  cases s with
  | d y =>
    cases y with
    | sl tg l0 =>
      cases tg with
      | full =>
        cases l0 with
        | nil =>
          dsimp only at ha
          cases hty : appendTy P ty xs.length with
          | none => rw [hty] at ha; cases ha
          | some sz =>
            rw [hty] at ha
            simp only [Option.bind_some] at ha
            split at ha
            · rename_i hok
              injection ha with ha; subst ha
              obtain ⟨e, i, z, zv, t1, t2, t3, t4, t5, t6, t7, t8, t9, t10⟩ := append_ty hty
              have hr := hv.dat
              cases hr with
              | sl _ _ _ _ _ _ _ g1 => exact absurd rfl g1
              | slE _ a cap hf =>
                have := hf rfl; subst this
                obtain ⟨nx, n1, n2, n3, n4⟩ := firstCells_ok (P := P) hm hs hxs hx hok
                by_cases h0 : xs = []
                · subst h0
                  have := append_room (P := P) (ty2 := ty2) (rty := rty) (a := a) (sLen := 0) (sCap := 0) (w := w) (w' := w) t1 t2 t3 h2 hlen (n1 w fun _ => rfl) (by simp) (by
                    have : nx = #[] := Array.eq_empty_of_size_eq_zero (by simpa using n2)
                    subst this
                    cases a <;> simp [storeCells])
                  exact ⟨_, _, by simpa using this, by simpa using none_row hM hm t sz a (wr := []) hm (Grow.refl ..) htlt⟩
                · have hpos : 0 < xs.length := List.length_pos_iff.2 h0
                  obtain ⟨cap, cx, q1, q2, q3, q4⟩ := append_grow (P := P) (ty2 := ty2) (rty := rty) (a := a) (sLen := 0) (sCap := 0) (n := xs.length) (old := #[]) (new := nx) t1 t2 t3 t4
                    (by rw [(valD_cells t5).1]; exact t7) t9 (by omega) h2 hlen (fun k => by cases a <;> simp [Builtin.firstCells, loadCells, loadCellsFrom]) (fun k => n1 _ fun _ => rfl) (by omega) (by simp) (by simpa using n2)
                  refine ⟨_, _, q4, Did.drew hdg ?_⟩
                  have := new_row hM hdm (t := t) (sz := sz) (els := xs) (x := cx) (T := e) (wr := []) (cap := cap) (by
                    have := RowIn.append (z := cx) (a := []) (x := #[]) RowIn.nil (n3.grow hdg) (by simp) n2 (fun k hk => q3 k (by simpa using hk))
                    exact this) hdm (Grow.refl ..) htlt (by omega) (by omega)
                  simpa using this
            · cases ha
        | cons y l =>
          dsimp only at ha
          cases xs with
          | nil => cases ha
          | cons x1 xr =>
          dsimp only at ha
          cases hty : appendTy P ty ((y :: l).length + (x1 :: xr).length) with
          | none => rw [hty] at ha; cases ha
          | some sz =>
            rw [hty] at ha
            simp only [Option.bind_some] at ha
            split at ha
            · rename_i hok
              injection ha with ha; subst ha
              obtain ⟨e, i, z, zv, t1, t2, t3, t4, t5, t6, t7, t8, t9, t10⟩ := append_ty hty
              obtain ⟨nx, n1, n2, n3, n4⟩ := firstCells_ok (P := P) hm hs hxs hx hok.1
              obtain ⟨ox, o1, o2, o3, o4⟩ := firstCells_ok (P := P) hm hs (l := y :: l) (v := .d (.sl .full (y :: l))) rfl hv hok.2
              have hr := hv.dat
              cases hr with
              | sl _ _ b bo sz' cap' vs g1 g2 g3 g4 g5 g6 g7 g8 =>
                have := g3 rfl; subst this
                obtain ⟨cap, cx, q1, q2, q3, q4⟩ := append_grow (P := P) (ty2 := ty2) (rty := rty) (a := some ⟨b, bo, none⟩) (sLen := (y :: l).length) (sCap := (y :: l).length) (n := (x1 :: xr).length) (old := ox) (new := nx) t1 t2 t3 t4
                  (by rw [(valD_cells t5).1]; exact t7) t9 t10 h2 hlen (fun k => o1 _ fun _ => rfl) (fun k => n1 _ fun _ => rfl) (by simp) o2 n2
                refine ⟨_, _, q4, Did.drew hdg ?_⟩
                have := new_row hM hdm (t := t) (sz := sz) (els := (y :: l) ++ (x1 :: xr)) (x := cx) (T := e) (wr := []) (cap := cap)
                  (RowIn.append (z := cx) (o3.grow hdg) (n3.grow hdg) o2 n2 q3) hdm (Grow.refl ..) htlt (by omega) (by rw [List.length_append]; exact q1)
                rw [List.length_append] at this
                simpa using this
            · cases ha
      | _ => cases l0 <;> cases ha
    | _ => cases ha
  | ref g n off len =>
    dsimp only at ha
    split at ha
    · rename_i sz' els hy
      cases hty : appendTy P ty (len + xs.length) with
      | none => rw [hty] at ha; cases ha
      | some sz =>
        rw [hty] at ha
        simp only [Option.bind_some] at ha
        split at ha
        · rename_i hok
          obtain ⟨hok, hle, rfl⟩ := hok
          injection ha with ha; subst ha
          obtain ⟨e, i, z, zv, t1, t2, t3, t4, t5, t6, t7, t8, t9, t10⟩ := append_ty hty
          obtain ⟨nx, n1, n2, n3, n4⟩ := firstCells_ok (P := P) hm hs hxs hx hok
          have hL := hs g n (by rw [hy]; simp)
          rw [hy] at hL
          obtain ⟨e1, e2⟩ := get_at hL (by simp)
          have hne : Lr.get g n ≠ .dead := by rw [hy]; simp
          have helsOf : elsOf Lr (.ref g n 0 len) = some els := by
            simp only [elsOf, hy]; rw [if_pos (by omega)]; simp [hle]
          have hml := Mem.less hm g .dead (.inl rfl)
          have hgl := Grow.less hm g .dead (.inl rfl)
          rw [e1] at hml hgl
          have htl : (((L.upd [(g, (n, HObj.dead))]) t).1) < L.new t := by
            simp only [Loc.upd]
            by_cases hgt : t = g
            · subst hgt; rw [Loc.set_same]; simp [Loc.new, e1]
            · rw [Loc.set_ne _ _ hgt]; exact htlt
          cases hv with
          | ref _ _ _ _ _ k1 k2 =>
            obtain ⟨_, a, cap, rfl, p3, p4⟩ := k2 _ _ _ hL
            by_cases hroom : len + xs.length ≤ cap
            · rcases p4 with rfl | ⟨b, y, T, fz, r1, rfl, r3, r4⟩
              · have hx0 : xs = [] := List.eq_nil_of_length_eq_zero (by omega)
                have hl0 : len = 0 := by omega
                have he0 : els = [] := List.eq_nil_of_length_eq_zero (by omega)
                subst hx0; subst hl0; subst he0
                have hnx : nx = #[] := Array.eq_empty_of_size_eq_zero (by simpa using n2)
                have := append_room (P := P) (ty2 := ty2) (rty := rty) (a := a) (sLen := 0) (sCap := 0) (w := w) (w' := w) t1 t2 t3 h2 hlen (n1 w fun _ => rfl) (by simp) (by
                  subst hnx; cases a <;> simp [storeCells])
                exact ⟨_, _, by simpa using this, by simpa using none_row hM hm t sz' a (wr := [(g, (n, .dead))]) hml hgl htl⟩
              · have hob := hm.get hL (by simp)
                rw [r1] at hob
                obtain ⟨x', T', fz', g2, g3, g4, us, g5⟩ := hob
                rw [r3] at g2; cases g2
                have hsc : len * sz' + nx.toList.length ≤ y.size := by
                  have : (len + xs.length) * sz' ≤ cap * sz' := Nat.mul_le_mul_right _ hroom
                  rw [Nat.add_mul] at this
                  have h0 : (0 + cap) * sz' = cap * sz' := by rw [Nat.zero_add]
                  simp; omega
                have hst := run_storeCells (P := P) (b := b) (o := len * sz') (T := T) (fz := fz) nx.toList 0 y w r3 (by simpa using hsc) (fun j _ hj => g3 j (by simp at hj hsc; omega))
                  (fun u hu => by
                    obtain ⟨k, hk, rfl⟩ := List.mem_iff_getElem.1 hu
                    exact n4 k _ (by simp at hk ⊢))
                have := append_room (P := P) (ty2 := ty2) (rty := rty) (a := some ⟨b, 0 * sz', none⟩) (sLen := len) (sCap := cap) (w := w) (w' := put w b (splice y (len * sz') nx.toList) T fz) t1 t2 t3 h2 hlen (n1 w fun _ => rfl) hroom (by
                  simp only [Addr.add_lit, Nat.zero_mul, Nat.zero_add]; simpa using hst)
                refine ⟨_, _, this, ?_⟩
                have := more_row hM hm (t := t) (cap := cap) hL r1 r3 hle (by simpa using r4) hroom n3 n2
                simpa using this
            · have hold : ∃ ox, (∀ w' : World, (∀ a, w'.cell? a = w.cell? a) → (Builtin.firstCells sz' len (.slice a len cap)).run P w' = .ok ox w') ∧ ox.size = els.length * sz' ∧ RowIn w (own c L) N c.γ sz' els ox := by
                by_cases h0 : len = 0
                · subst h0
                  have he0 : els = [] := List.eq_nil_of_length_eq_zero (by omega)
                  subst he0
                  refine ⟨#[], fun w' _ => ?_, by simp, RowIn.nil⟩
                  cases a <;> simp [Builtin.firstCells, loadCells, loadCellsFrom]
                · rcases p4 with h' | ⟨b, y, T, fz, r1, rfl, r3, r4⟩
                  · omega
                  · have hob := hm.get hL (by simp)
                    rw [r1] at hob
                    obtain ⟨x', T', fz', g2, g3, g4, us, g5⟩ := hob
                    obtain ⟨ox, o1, o2, o3, _⟩ := firstCells_of (P := P) (w := w) (l := els) (b := b) (o := 0 * sz') (cap := cap) (vs := us) (fun i d hd => by
                      obtain ⟨s1, s2, s3⟩ := g5 i d hd
                      rw [Nat.zero_mul, Nat.zero_add]; exact ⟨s1, s2, s3⟩)
                    rw [← hle] at o1
                    exact ⟨ox, o1, o2, o3⟩
              obtain ⟨ox, o1, o2, o3⟩ := hold
              obtain ⟨cap2, cx, q1, q2, q3, q4⟩ := append_grow (P := P) (ty2 := ty2) (rty := rty) (a := a) (sLen := len) (sCap := cap) (n := xs.length) (old := ox) (new := nx) t1 t2 t3 t4
                (by rw [(valD_cells t5).1]; exact t7) t9 t10 h2 hlen (fun k => o1 _ fun _ => rfl) (fun k => n1 _ fun _ => rfl) (by omega) (by rw [o2, hle]) n2
              refine ⟨_, _, q4, Did.drew hdg ?_⟩
              obtain ⟨hdm2, hdg2⟩ := Mem.drew hM hml
              have := new_row hM hdm (t := t) (sz := sz') (els := els ++ xs) (x := cx) (T := e) (wr := [(g, (n, .dead))]) (cap := cap2)
                (RowIn.append (z := cx) ((o3.grow hgl).grow hdg2) ((n3.grow hgl).grow hdg2) o2 n2 (fun k hk => q3 k (by rw [hle]; exact hk))) hdm2 (by
                  have := Grow.less hdm g .dead (.inl rfl)
                  rw [e1] at this; exact this) htl (by omega) (by rw [List.length_append]; omega)
              rw [List.length_append, ← hle] at this
              simpa using this
        · cases ha
    · cases ha
  | _ => cases ha

end
end Wf
