/-
  Lists alike, and the road back.
-/
import Derived.Test.YtpdhbdacbiamdaaY5
set_option linter.unusedVariables false
set_option linter.unusedSimpArgs false
set_option linter.unnecessarySimpa false
namespace Wf
open Go Go.RowKit Go.Proofs
set_option linter.unusedSimpArgs false
set_option linter.unusedVariables false

def iL (l : List Int) : List D := l.map iD
@[simp] theorem iL_len (l : List Int) : (iL l).length = l.length := by unfold iL; simp
theorem iL_lent (l : List Int) : D.lentL (iL l) = iL l := by
  induction l with
  | nil => rfl
  | cons a l ih => show _ :: D.lentL (iL l) = _; rw [ih]; rfl
theorem iL_get {l : List Int} {i : Nat} {v : Int} (h : l[i]? = some v) : (iL l)[i]? = some (iD v) := by unfold iL; rw [List.getElem?_map, h]; rfl
def numI (g : Geo) (row : Int) (n : Nat) : List Int := (List.range n).map fun (j : Nat) => numP g row (j : Int)
def numsI (g : Geo) (row : Int) : List Int := if fineP g row then numI g row g.width.toNat else []
theorem numD_iL (g : Geo) (row : Int) (n : Nat) : numD g row n = iL (numI g row n) := by unfold numD numI iL; rw [List.map_map]; rfl
theorem numsD_iL (g : Geo) (row : Int) : numsD g row = iL (numsI g row) := by
  unfold numsD numsI; split
  · exact numD_iL ..
  · rfl

theorem numsI_len (g : Geo) (row : Int) : (numsI g row).length ≤ 8 := by
  have := width_le g.l g.d g.c
  have : g.width ≤ 8 := this.2
  unfold numsI; split
  · unfold numI; simp; omega
  · simp
theorem same_int (t t' : Tag) (l m : List Int) (hl : l.length < 1000000000) : F_wattlekeep_Same_int [.sl t (iL l), .sl t' (iL m)] = some (.bool (decide (l = m))) := by
  rw [F_wattlekeep_Same_int_eq]
  unfold g_wattlekeep_Same_int
  rw [iL_lent, iL_lent]
  simp only [iL_len]
  by_cases h : l.length = m.length
  · simp only [h, bne_self_eq_false, brK_eq, Bool.false_eq_true, if_false]
    refine loopN_spec (fun a => ((l.length : Int) - a.1.2.2.1).toNat) (fun _ => some (D.bool (decide (l = m)))) (fun a => ∃ i : Nat, i ≤ l.length ∧ (∀ j < i, l[j]? = m[j]?) ∧ a = ((iL l, iL m, (i : Int), PUnit.unit), PUnit.unit)) ?_ ⟨0, by omega, by omega, rfl⟩ ?_
    rotate_left
    · simp; omega
    rintro again _ ⟨i, i0, hj, rfl⟩ ih
    dsimp only
    simp only [iL_len]
    by_cases hi : i < l.length
    · obtain ⟨u, hu⟩ : ∃ u, l[i]? = some u := ⟨l[i], by simp [hi]⟩
      obtain ⟨v, hv⟩ : ∃ v, m[i]? = some v := ⟨m[i], by simp [← h, hi]⟩
      have wi : IntKind.i64.wrap ((i : Int) + 1) = (i : Int) + 1 := wrap_fit (by omega) (by omega)
      simp only [show (i : Int) < (l.length : Int) by omega, decide_true, if_true, Int.toNat_natCast]
      rw [sif_pos (by omega), getK_of (iL_get hu)]
      simp only [iD, asI_int]
      rw [sif_pos (by omega), getK_of (iL_get hv)]
      simp only [iD, asI_int]
      by_cases e : u = v
      · subst e
        simp only [bne_self_eq_false, Bool.false_eq_true, if_false, letN_eq', wi]
        refine ih _ ⟨i + 1, by omega, ?_, rfl⟩ (by dsimp only; omega)
        intro j hj1
        by_cases e : j = i
        · rw [e, hu, hv]
        · exact hj j (by omega)
      · have : l ≠ m := by rintro rfl; rw [hu] at hv; exact e (Option.some.inj hv)
        simp [e, this]
    · have : l = m := by
        refine List.ext_getElem? fun j => ?_
        by_cases hj1 : j < l.length
        · exact hj j (by omega)
        · rw [List.getElem?_eq_none (by omega), List.getElem?_eq_none (by omega)]
      simp [show ¬ (i : Int) < (l.length : Int) by omega, this]
      omega
  · have : l ≠ m := by rintro rfl; exact h rfl
    have h2 : ¬ ((l.length : Int) = (m.length : Int)) := by omega
    simp [brK_eq, this, h2]

theorem back_col {g : Geo} {disk row : Int} (h : fineP g row = true) (d0 : 0 ≤ disk) (d1 : disk < g.d) (hp : disk ≠ (parP g row).1) (hq : disk ≠ (parP g row).2) :
    0 ≤ colBack g disk row ∧ colBack g disk row < g.width ∧ ∀ n, 0 ≤ n → n < g.width → (diskP g row n = disk ↔ n = colBack g disk row) := by
  obtain ⟨hk, h0, h1⟩ := fine_iff.1 h
  have hl := ok_iff.1 hk
  have hpa := par_in hk row
  have hwd := width_of hk
  have hdk : ∀ n, 0 ≤ n → n < g.width → diskP g row n = (parA g row + (g.l - 4) + n) % g.d := by
    intro n n0 n1; unfold diskP; rw [if_pos ⟨h, n0, n1⟩]
  unfold parP at hp hq
  rw [if_pos h] at hp hq
  simp only at hp hq
  rw [hwd] at hdk ⊢
  unfold colBack
  have : ∀ n, 0 ≤ n → n < g.d - (g.l - 4) → ((parA g row + (g.l - 4) + n) % g.d = disk ↔ n = (disk - parA g row - (g.l - 4) + 2 * g.d) % g.d) := by
    intro n n0 n1
    generalize parA g row = p at *
    have hd : g.d = 3 ∨ g.d = 4 ∨ g.d = 5 ∨ g.d = 6 ∨ g.d = 7 ∨ g.d = 8 := by omega
    generalize g.d = d at *
    generalize g.l = l at *
    rcases hd with rfl | rfl | rfl | rfl | rfl | rfl <;> omega
  refine ⟨?_, ?_, fun n n0 n1 => by rw [hdk n n0 n1]; exact this n n0 n1⟩
  · exact (mod_d hk _).1
  · clear this hdk
    generalize parA g row = p at *
    have hd : g.d = 3 ∨ g.d = 4 ∨ g.d = 5 ∨ g.d = 6 ∨ g.d = 7 ∨ g.d = 8 := by omega
    generalize g.d = d at *
    generalize g.l = l at *
    have hl5 : l = 5 ∨ l = 6 := by omega
    rcases hl5 with rfl | rfl <;> simp at hq <;> rcases hd with rfl | rfl | rfl | rfl | rfl | rfl <;> omega
section
variable (g : Geo) (disk row : Int)
theorem back_place : F_place_Back [g.D, .int .i64 disk, .int .i64 row] = some (ofD (backP g disk row)) := by
  have hi := in_place g row
  have hp := par_place g row
  have hnum := number_place g row (colBack g disk row)
  unfold Geo.D at *
  rw [F_place_Back_eq]
  unfold g_place_Back
  rw [hi, hp, budget_geom]
  unfold backP ofD
  cases h : fineP g row
  · simp [brK_eq]
  · obtain ⟨hk, h0, h1⟩ := fine_iff.1 h
    have hd := ok_d hk
    have hl := ok_iff.1 hk
    have hb := budget_of hk
    have hpa := par_in hk row
    by_cases d0 : disk < 0
    · simp [brK_eq, d0, show ¬ 0 ≤ disk by omega]
    · by_cases d1 : g.d ≤ disk
      · simp [brK_eq, d0, d1, show ¬ disk < g.d by omega]
      · have hp1 : (parP g row).1 = parA g row := by unfold parP; simp [h]
        by_cases e1 : disk = parA g row
        · simp [brK_eq, d0, d1, show 0 ≤ disk by omega, show disk < g.d by omega, hp1, e1.symm, hb]
        · by_cases e2 : disk = (parP g row).2
          · simp [brK_eq, d0, d1, show 0 ≤ disk by omega, show disk < g.d by omega, hp1, e1, e2.symm, hb]
          · obtain ⟨c0, c1, _⟩ := back_col h (by omega) (by omega) (by rw [hp1]; exact e1) e2
            have hwd := width_ok hk
            have w1 : IntKind.i64.wrap (disk - parA g row) = disk - parA g row := wrap_fit (by omega) (by omega)
            have w2 : IntKind.i64.wrap (disk - parA g row - (g.l - 4)) = disk - parA g row - (g.l - 4) := wrap_fit (by omega) (by omega)
            have w3 : IntKind.i64.wrap (2 * g.d) = 2 * g.d := wrap_fit (by omega) (by omega)
            have w4 : IntKind.i64.wrap (disk - parA g row - (g.l - 4) + 2 * g.d) = disk - parA g row - (g.l - 4) + 2 * g.d := wrap_fit (by omega) (by omega)
            have t5 : (disk - parA g row - (g.l - 4) + 2 * g.d).tmod g.d = colBack g disk row := tmod_n (by omega)
            have := hnum h c0 (by omega)
            simp [brK_eq, d0, d1, show 0 ≤ disk by omega, show disk < g.d by omega, hp1, e1, e2, hb, w1, w2, w3, w4, t5, show g.d ≠ 0 by omega, this]
theorem back_ref : F_wattleref01_Back [g.D, .int .i64 disk, .int .i64 row] = some (ofD (backP g disk row)) := by
  have hi := fine_ref g row
  have hp := par_ref g row
  have hn := nums_ref g row
  have hdk := fun k => disk_ref g row k
  unfold Geo.D at *
  rw [F_wattleref01_Back_eq]
  unfold g_wattleref01_Back
  rw [hi, hp, hn]
  unfold backP ofD
  cases h : fineP g row
  · simp [brK_eq]
  · obtain ⟨hk, h0, h1⟩ := fine_iff.1 h
    have hd := ok_d hk
    have hpa := par_in hk row
    by_cases d0 : disk < 0
    · simp [brK_eq, d0, show ¬ 0 ≤ disk by omega]
    · by_cases d1 : g.d ≤ disk
      · simp [brK_eq, d0, d1, show ¬ disk < g.d by omega]
      · have hp1 : (parP g row).1 = parA g row := by unfold parP; simp [h]
        by_cases e1 : disk = parA g row
        · simp [brK_eq, d0, d1, show 0 ≤ disk by omega, show disk < g.d by omega, hp1, e1.symm]
        · by_cases e2 : disk = (parP g row).2
          · simp [brK_eq, d0, d1, show 0 ≤ disk by omega, show disk < g.d by omega, hp1, e1, e2.symm]
          · obtain ⟨c0, c1, hc⟩ := back_col h (by omega) (by omega) (by rw [hp1]; exact e1) e2
            have hwd := width_ok hk
            have hns : numsD g row = numD g row g.width.toNat := by unfold numsD; rw [if_pos h]
            simp [brK_eq, d0, d1, show 0 ≤ disk by omega, show disk < g.d by omega, hp1, e1, e2, hns, numD_len]
            refine loopN_spec (fun a => (g.width - a.1.2.2.2.2.2.1).toNat) (fun _ => some (D.tup [iD 0, iD (numP g row (colBack g disk row)), D.bool true])) (fun a => ∃ i : Nat, (i : Int) ≤ colBack g disk row ∧
              a = ((disk, row, (g.l, g.d, g.c, PUnit.unit), numD g row g.width.toNat, ((g.width.toNat : Nat) : Int), (i : Int), PUnit.unit), PUnit.unit)) ?_ ⟨0, by omega, by simp⟩ ?_
            rotate_left
            · simp; omega
            rintro again _ ⟨i, i0, rfl⟩ ih
            dsimp only
            have hiw : i < g.width.toNat := by omega
            have wi : IntKind.i64.wrap ((i : Int) + 1) = (i : Int) + 1 := wrap_fit (by omega) (by omega)
            have hci := hc i (by omega) (by omega)
            have hg := numD_get g row g.width.toNat hiw
            by_cases e : (i : Int) = colBack g disk row
            · simp [-Int.ofNat_toNat, show (i : Int) < (g.width.toNat : Int) by omega, numD_len, hiw, getK_of hg, hdk, hci.2 e]
              rw [e]
            · have hne : diskP g row i ≠ disk := fun e' => e (hci.1 e')
              have := ih _ ⟨i + 1, by omega, rfl⟩ (by dsimp only; omega)
              simp [-Int.ofNat_toNat, show (i : Int) < (g.width.toNat : Int) by omega, numD_len, hiw, getK_of hg, hdk, wi, hne]
              exact this
end
section
variable (l d c disk row : Int)
theorem back_place' : F_place_Back [gD l d c, .int .i64 disk, .int .i64 row] = some (.tup [iD (backP ⟨l, d, c⟩ disk row).1, iD (backP ⟨l, d, c⟩ disk row).2.1, .bool (backP ⟨l, d, c⟩ disk row).2.2]) := back_place ⟨l, d, c⟩ disk row
theorem back_ref' : F_wattleref01_Back [gD l d c, .int .i64 disk, .int .i64 row] = some (.tup [iD (backP ⟨l, d, c⟩ disk row).1, iD (backP ⟨l, d, c⟩ disk row).2.1, .bool (backP ⟨l, d, c⟩ disk row).2.2]) := back_ref ⟨l, d, c⟩ disk row
end
end Wf

