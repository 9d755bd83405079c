/-
  A sector's place, and back.
-/
import Derived.Test.YtpdhbdacbiamdaaY7
set_option linter.unusedVariables false
set_option linter.unusedSimpArgs false
set_option linter.unnecessarySimpa false
namespace Wf
open Go Go.RowKit Go.Proofs
set_option linter.unusedSimpArgs false
set_option linter.unusedVariables false

theorem num_place {g : Geo} {a : Int} (h0 : 0 ≤ a) (h1 : a < g.cap) : fineP g (rowOf g a) = true ∧ 0 ≤ colOf g a ∧ colOf g a < g.width ∧ numP g (rowOf g a) (colOf g a) = a := by
  have hk := cap_ok h0 h1
  have hr := row_fine h0 h1
  have hm := mod_w hk (a / g.c)
  refine ⟨fine_iff.2 ⟨hk, hr.1, hr.2.1⟩, hm.1, hm.2, ?_⟩
  have hw := width_ok hk
  have hc := (ok_iff.1 hk).2.2
  unfold numP rowOf colOf
  generalize g.c = c at *
  generalize g.width = w at *
  have hw : w = 2 ∨ w = 3 ∨ w = 4 ∨ w = 5 ∨ w = 6 ∨ w = 7 := by omega
  rcases hc with rfl | rfl | rfl <;> rcases hw with rfl | rfl | rfl | rfl | rfl | rfl <;> omega
/-- Two sectors of one place are one sector. -/
theorem place_once {g : Geo} {a b : Int} (h0 : 0 ≤ a) (h1 : a < g.cap) (b0 : 0 ≤ b) (b1 : b < g.cap) (e1 : rowOf g a = rowOf g b) (e2 : diskP g (rowOf g a) (colOf g a) = diskP g (rowOf g b) (colOf g b)) : a = b := by
  obtain ⟨f1, f2, f3, f4⟩ := num_place h0 h1
  obtain ⟨g1, g2, g3, g4⟩ := num_place b0 b1
  rw [e1] at e2 f4
  have := disk_once g1 f2 f3 g2 g3 e2
  rw [this] at f4
  exact f4.symm.trans g4
end Wf

