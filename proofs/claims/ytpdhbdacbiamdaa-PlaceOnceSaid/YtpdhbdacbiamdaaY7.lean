/-
  Each place once.
-/
import Derived.Test.YtpdhbdacbiamdaaY6
set_option linter.unusedVariables false
set_option linter.unusedSimpArgs false
set_option linter.unnecessarySimpa false
namespace Wf
open Go Go.RowKit Go.Proofs
set_option linter.unusedSimpArgs false
set_option linter.unusedVariables false

theorem disk_at {g : Geo} {row k : Int} (h : fineP g row = true) (k0 : 0 ≤ k) (k1 : k < g.width) : diskP g row k = (parA g row + (g.l - 4) + k) % g.d := by
  unfold diskP; rw [if_pos ⟨h, k0, k1⟩]
theorem disk_in {g : Geo} {row k : Int} (h : fineP g row = true) (k0 : 0 ≤ k) (k1 : k < g.width) : 0 ≤ diskP g row k ∧ diskP g row k < g.d := by
  rw [disk_at h k0 k1]; exact mod_d (fine_iff.1 h).1 _
theorem disk_par {g : Geo} {row k : Int} (h : fineP g row = true) (k0 : 0 ≤ k) (k1 : k < g.width) : diskP g row k ≠ (parP g row).1 ∧ diskP g row k ≠ (parP g row).2 := by
  have hk := (fine_iff.1 h).1
  have hd := disk_in h k0 k1
  rw [disk_at h k0 k1] at *
  have hp := par_in hk row
  have hl := ok_iff.1 hk
  rw [width_of hk] at k1
  unfold parP
  rw [if_pos h]
  simp only
  generalize parA g row = p at *
  have hdc : g.d = 3 ∨ g.d = 4 ∨ g.d = 5 ∨ g.d = 6 ∨ g.d = 7 ∨ g.d = 8 := by omega
  generalize g.d = d at *
  generalize g.l = l at *
  have hl5 : l = 5 ∨ l = 6 := by omega
  rcases hl5 with rfl | rfl
  · simp; rcases hdc with rfl | rfl | rfl | rfl | rfl | rfl <;> omega
  · simp; rcases hdc with rfl | rfl | rfl | rfl | rfl | rfl <;> omega
theorem disk_once {g : Geo} {row j k : Int} (h : fineP g row = true) (j0 : 0 ≤ j) (j1 : j < g.width) (k0 : 0 ≤ k) (k1 : k < g.width) (e : diskP g row j = diskP g row k) : j = k := by
  have hk := (fine_iff.1 h).1
  rw [disk_at h k0 k1, disk_at h j0 j1] at e
  have hp := par_in hk row
  have hl := ok_iff.1 hk
  rw [width_of hk] at k1 j1
  generalize parA g row = p at *
  have hdc : g.d = 3 ∨ g.d = 4 ∨ g.d = 5 ∨ g.d = 6 ∨ g.d = 7 ∨ g.d = 8 := by omega
  generalize g.d = d at *
  generalize g.l = l at *
  rcases hdc with rfl | rfl | rfl | rfl | rfl | rfl <;> omega
theorem of_num {g : Geo} {row k : Int} (h : fineP g row = true) (k0 : 0 ≤ k) (k1 : k < g.width) : ofP g (numP g row k) = (diskP g row k, row, true) := by
  obtain ⟨hk, h0, h1⟩ := fine_iff.1 h
  obtain ⟨n0, n1⟩ := num_in hk h0 h1 k0 k1
  have : rowOf g (numP g row k) = row ∧ colOf g (numP g row k) = k := by
    have hw := width_ok hk
    have hc := (ok_iff.1 hk).2.2
    unfold rowOf colOf numP
    generalize g.c = c at *
    generalize g.width = w at *
    have hw : w = 2 ∨ w = 3 ∨ w = 4 ∨ w = 5 ∨ w = 6 ∨ w = 7 := by omega
    rcases hc with rfl | rfl | rfl <;> rcases hw with rfl | rfl | rfl | rfl | rfl | rfl <;> omega
  unfold ofP
  rw [if_pos ⟨n0, n1⟩, this.1, this.2]
theorem back_num {g : Geo} {row k : Int} (h : fineP g row = true) (k0 : 0 ≤ k) (k1 : k < g.width) : backP g (diskP g row k) row = (0, numP g row k, true) := by
  obtain ⟨d0, d1⟩ := disk_in h k0 k1
  obtain ⟨p0, p1⟩ := disk_par h k0 k1
  have := ((back_col h d0 d1 p0 p1).2.2 k k0 k1).1 rfl
  unfold backP
  rw [if_pos ⟨h, d0, d1⟩, if_neg p0, if_neg p1, ← this]

theorem findD_append (m n : Int) (y : D) (es : List (Int × D)) : findD m (es ++ [(n, y)]) = if (findD m es).isSome then findD m es else if m = n then some y else none := by
  induction es with
  | nil => simp [findD]
  | cons e es ih =>
    obtain ⟨a, u⟩ := e
    simp only [List.cons_append, findD]
    by_cases h : m = a
    · simp [h]
    · simp only [h, if_false]; exact ih
theorem setD_new {n : Int} {y : D} {es : List (Int × D)} (h : findD n es = none) : setD n y es = es ++ [(n, y)] := by
  induction es with
  | nil => rfl
  | cons e es ih =>
    obtain ⟨a, u⟩ := e
    simp only [findD] at h
    by_cases h1 : n = a
    · simp [h1] at h
    · simp only [h1, if_false] at h
      simp [setD, h1, ih h]
end Wf

