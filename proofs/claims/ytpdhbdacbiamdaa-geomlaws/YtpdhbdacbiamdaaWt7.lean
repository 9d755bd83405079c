/-
  All calls of a law, laid one upon the other.
-/
import Derived.Test.YtpdhbdacbiamdaaWt6
import Derived.Test.YtpdhbdacbiamdaaWg5
set_option linter.unusedVariables false
set_option linter.unusedSimpArgs false
set_option linter.unnecessarySimpa false
namespace Wf
open Go Go.RowKit Go.Proofs
def env57 : PEnv := PEnv.add (fun _ => none : PEnv) 57 [1] F57
theorem call57 : SoundP Try.prog 57 [1] F57 := s57 (Γ := (fun _ => none : PEnv)) PEnv.none_ok 
theorem env57_ok : env57.Ok Try.prog := PEnv.Ok.add PEnv.none_ok call57
def env52 : PEnv := PEnv.add env57 52 [1] F52
theorem call52 : SoundP Try.prog 52 [1] F52 := s52 (Γ := env57) env57_ok (PEnv.add_same _ _ _ _)
theorem env52_ok : env52.Ok Try.prog := PEnv.Ok.add env57_ok call52
def env16 : PEnv := PEnv.add env52 16 [1] F16
theorem call16 : SoundP Try.prog 16 [1] F16 := s16 (Γ := env52) env52_ok (PEnv.add_same _ _ _ _)
theorem env16_ok : env16.Ok Try.prog := PEnv.Ok.add env52_ok call16
def env17 : PEnv := PEnv.add env16 17 [1] F17
theorem call17 : SoundP Try.prog 17 [1] F17 := s17 (Γ := env16) env16_ok (PEnv.add_same _ _ _ _)
theorem env17_ok : env17.Ok Try.prog := PEnv.Ok.add env16_ok call17
def env18 : PEnv := PEnv.add env17 18 [1] F18
theorem call18 : SoundP Try.prog 18 [1] F18 := s18 (Γ := env17) env17_ok (PEnv.add_ne (by decide) (PEnv.add_same _ _ _ _)) (PEnv.add_same _ _ _ _)
theorem env18_ok : env18.Ok Try.prog := PEnv.Ok.add env17_ok call18
def env19 : PEnv := PEnv.add env18 19 [1] F19
theorem call19 : SoundP Try.prog 19 [1] F19 := s19 (Γ := env18) env18_ok (PEnv.add_same _ _ _ _)
theorem env19_ok : env19.Ok Try.prog := PEnv.Ok.add env18_ok call19
def env20 : PEnv := PEnv.add env19 20 [1] F20
theorem call20 : SoundP Try.prog 20 [1] F20 := s20 (Γ := env19) env19_ok (PEnv.add_ne (by decide) (PEnv.add_ne (by decide) (PEnv.add_ne (by decide) (PEnv.add_same _ _ _ _)))) (PEnv.add_ne (by decide) (PEnv.add_same _ _ _ _))
theorem env20_ok : env20.Ok Try.prog := PEnv.Ok.add env19_ok call20
def env21 : PEnv := PEnv.add env20 21 [1] F21
theorem call21 : SoundP Try.prog 21 [1] F21 := s21 (Γ := env20) env20_ok (PEnv.add_ne (by decide) (PEnv.add_same _ _ _ _))
theorem env21_ok : env21.Ok Try.prog := PEnv.Ok.add env20_ok call21
def env36 : PEnv := PEnv.add env21 36 [1] F36
theorem call36 : SoundP Try.prog 36 [1] F36 := s36 (Γ := env21) env21_ok 
theorem env36_ok : env36.Ok Try.prog := PEnv.Ok.add env21_ok call36
def env22 : PEnv := PEnv.add env36 22 [1] F22
theorem call22 : SoundP Try.prog 22 [1] F22 := s22 (Γ := env36) env36_ok (PEnv.add_same _ _ _ _)
theorem env22_ok : env22.Ok Try.prog := PEnv.Ok.add env36_ok call22
def env23 : PEnv := PEnv.add env22 23 [1] F23
theorem call23 : SoundP Try.prog 23 [1] F23 := s23 (Γ := env22) env22_ok 
theorem env23_ok : env23.Ok Try.prog := PEnv.Ok.add env22_ok call23
def env28 : PEnv := PEnv.add env23 28 [1] F28
theorem call28 : SoundP Try.prog 28 [1] F28 := s28 (Γ := env23) env23_ok (PEnv.add_ne (by decide) (PEnv.add_same _ _ _ _)) (PEnv.add_same _ _ _ _)
theorem env28_ok : env28.Ok Try.prog := PEnv.Ok.add env23_ok call28
theorem call5 : SoundP Try.prog 5 [1] F5 := s5 (Γ := env28) env28_ok (PEnv.add_same _ _ _ _) (PEnv.add_ne (by decide) (PEnv.add_ne (by decide) (PEnv.add_ne (by decide) (PEnv.add_ne (by decide) (PEnv.add_ne (by decide) (PEnv.add_ne (by decide) (PEnv.add_ne (by decide) (PEnv.add_ne (by decide) (PEnv.add_same _ _ _ _))))))))) (PEnv.add_ne (by decide) (PEnv.add_ne (by decide) (PEnv.add_ne (by decide) (PEnv.add_ne (by decide) (PEnv.add_ne (by decide) (PEnv.add_ne (by decide) (PEnv.add_ne (by decide) (PEnv.add_same _ _ _ _)))))))) (PEnv.add_ne (by decide) (PEnv.add_ne (by decide) (PEnv.add_ne (by decide) (PEnv.add_ne (by decide) (PEnv.add_ne (by decide) (PEnv.add_ne (by decide) (PEnv.add_same _ _ _ _))))))) (PEnv.add_ne (by decide) (PEnv.add_ne (by decide) (PEnv.add_ne (by decide) (PEnv.add_ne (by decide) (PEnv.add_ne (by decide) (PEnv.add_same _ _ _ _)))))) (PEnv.add_ne (by decide) (PEnv.add_ne (by decide) (PEnv.add_ne (by decide) (PEnv.add_ne (by decide) (PEnv.add_same _ _ _ _)))))
end Wf
