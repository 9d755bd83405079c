/-
  No cell of these rows narrows 'for every input' (looked for: loops, veiled, ifaces, maps, wideKeys, modest, calm, conditions, laid).
  DERIVED. THE GIVEN ROWS OF THIS SEAT. 6 by the template 'for every input the law returns true; each argument reads behind the call as it read before'; 0 by the template 'total and deterministic' (their statements: YtlbdpbbpoghncaaGreatTotals.lean).
  GIVEN WITH THE SEED: the statements are not yours to turn. If you find one false, say at which input.
  Laid BY PROGRAM, IN A SANDBOX (cutbox-rows.mjs): the forced cells as the released guide's own fill.sh prints them over the translation 3f8b683706240762… (all of the seat's roots in one cut). By AI agents, Wed Nov 11 2026. No macro, syntax, notation, axiom, sorry.
-/
import Derived.Test.YtlbdpbbpoghncaaGreatChecked
import GoSem.Claim
import GoSem.ClaimJoined
import GoSem.ClaimMapViews
import Derived.JoinedTies
import Derived.KernelRfl
namespace Go.Proofs.YtlbdpbbpoghncaaGreat
/- THE CELL 'sum', in the pinned program and in every row, IS THE sha256 OF THE DUMP (.gsa) THAT YtlbdpbbpoghncaaGreatProg.lean LOADS. Nothing in Lean hashes anything: it is a label: what it is worth is what the hold of that sum in a sandbox is worth. -/
noncomputable def Tryz.pinned : Pinned := { name := "ytlbdpbbpoghncaagreat", sum := "3f8b68370624076224f141342db280b72f8abc276319ff9d2e45482097003d9b", checked := Tryz.checked }
namespace Rows
def none {H : Type} : Left H := { results := [], args := [] }

/-- 'wattlelaw15.UpdateErrors': WHATEVER THE INPUT: true; the input reads as it did. -/
def updateErrorsSpec : ChangeSpec := { name := "updateErrors", fn := fun _ => fun
  | [d1, d2, d3, d4, d5, d6] => { results := [.lit (.bool true)], args := [d1, d2, d3, d4, d5, d6] }
  | _ => none }
def updateErrorsRow : OpenClaim := { program := "ytlbdpbbpoghncaagreat", sum := "3f8b68370624076224f141342db280b72f8abc276319ff9d2e45482097003d9b", func := "wattle/wattlelaw15.UpdateErrors", spec := "updateErrors", unfollowed := true, recurses := true, apart := false }
def UpdateErrorsSaid : Prop := updateErrorsRow.holds Tryz.pinned (OpenSpec.ofChange updateErrorsSpec)

/-- ITS FALSE NEIGHBOUR: 'it returns false'. Refute it at one input. -/
def updateErrorsWrong : ChangeSpec := { name := "updateErrors", fn := fun _ => fun
  | [d1, d2, d3, d4, d5, d6] => { results := [.lit (.bool false)], args := [d1, d2, d3, d4, d5, d6] }
  | _ => none }
def UpdateErrorsWrongFalsely : Prop := updateErrorsRow.holds Tryz.pinned (OpenSpec.ofChange updateErrorsWrong)

/-- 'wattlelaw15.UpdateRows': WHATEVER THE INPUT: true; the input reads as it did. -/
def updateRowsSpec : ChangeSpec := { name := "updateRows", fn := fun _ => fun
  | [d1, d2, d3] => { results := [.lit (.bool true)], args := [d1, d2, d3] }
  | _ => none }
def updateRowsRow : OpenClaim := { program := "ytlbdpbbpoghncaagreat", sum := "3f8b68370624076224f141342db280b72f8abc276319ff9d2e45482097003d9b", func := "wattle/wattlelaw15.UpdateRows", spec := "updateRows", unfollowed := true, recurses := true, apart := false }
def UpdateRowsSaid : Prop := updateRowsRow.holds Tryz.pinned (OpenSpec.ofChange updateRowsSpec)

/-- ITS FALSE NEIGHBOUR: 'it returns false'. Refute it at one input. -/
def updateRowsWrong : ChangeSpec := { name := "updateRows", fn := fun _ => fun
  | [d1, d2, d3] => { results := [.lit (.bool false)], args := [d1, d2, d3] }
  | _ => none }
def UpdateRowsWrongFalsely : Prop := updateRowsRow.holds Tryz.pinned (OpenSpec.ofChange updateRowsWrong)

/-- 'wattlelaw15.UpdateDoes': WHATEVER THE INPUT: true; the input reads as it did. -/
def updateDoesSpec : ChangeSpec := { name := "updateDoes", fn := fun _ => fun
  | [d1, d2, d3, d4] => { results := [.lit (.bool true)], args := [d1, d2, d3, d4] }
  | _ => none }
def updateDoesRow : OpenClaim := { program := "ytlbdpbbpoghncaagreat", sum := "3f8b68370624076224f141342db280b72f8abc276319ff9d2e45482097003d9b", func := "wattle/wattlelaw15.UpdateDoes", spec := "updateDoes", unfollowed := true, recurses := true, apart := false }
def UpdateDoesSaid : Prop := updateDoesRow.holds Tryz.pinned (OpenSpec.ofChange updateDoesSpec)

/-- ITS FALSE NEIGHBOUR: 'it returns false'. Refute it at one input. -/
def updateDoesWrong : ChangeSpec := { name := "updateDoes", fn := fun _ => fun
  | [d1, d2, d3, d4] => { results := [.lit (.bool false)], args := [d1, d2, d3, d4] }
  | _ => none }
def UpdateDoesWrongFalsely : Prop := updateDoesRow.holds Tryz.pinned (OpenSpec.ofChange updateDoesWrong)

/-- 'wattlelaw15.UpdateCrash': WHATEVER THE INPUT: true; the input reads as it did. -/
def updateCrashSpec : ChangeSpec := { name := "updateCrash", fn := fun _ => fun
  | [d1, d2, d3, d4, d5, d6, d7] => { results := [.lit (.bool true)], args := [d1, d2, d3, d4, d5, d6, d7] }
  | _ => none }
def updateCrashRow : OpenClaim := { program := "ytlbdpbbpoghncaagreat", sum := "3f8b68370624076224f141342db280b72f8abc276319ff9d2e45482097003d9b", func := "wattle/wattlelaw15.UpdateCrash", spec := "updateCrash", unfollowed := true, recurses := true, apart := false }
def UpdateCrashSaid : Prop := updateCrashRow.holds Tryz.pinned (OpenSpec.ofChange updateCrashSpec)

/-- ITS FALSE NEIGHBOUR: 'it returns false'. Refute it at one input. -/
def updateCrashWrong : ChangeSpec := { name := "updateCrash", fn := fun _ => fun
  | [d1, d2, d3, d4, d5, d6, d7] => { results := [.lit (.bool false)], args := [d1, d2, d3, d4, d5, d6, d7] }
  | _ => none }
def UpdateCrashWrongFalsely : Prop := updateCrashRow.holds Tryz.pinned (OpenSpec.ofChange updateCrashWrong)

/-- 'wattlelaw20.WindowMoves': WHATEVER THE INPUT: true; the input reads as it did. -/
def windowMovesSpec : ChangeSpec := { name := "windowMoves", fn := fun _ => fun
  | [d1, d2, d3, d4] => { results := [.lit (.bool true)], args := [d1, d2, d3, d4] }
  | _ => none }
def windowMovesRow : OpenClaim := { program := "ytlbdpbbpoghncaagreat", sum := "3f8b68370624076224f141342db280b72f8abc276319ff9d2e45482097003d9b", func := "wattle/wattlelaw20.WindowMoves", spec := "windowMoves", unfollowed := true, recurses := true, apart := false }
def WindowMovesSaid : Prop := windowMovesRow.holds Tryz.pinned (OpenSpec.ofChange windowMovesSpec)

/-- ITS FALSE NEIGHBOUR: 'it returns false'. Refute it at one input. -/
def windowMovesWrong : ChangeSpec := { name := "windowMoves", fn := fun _ => fun
  | [d1, d2, d3, d4] => { results := [.lit (.bool false)], args := [d1, d2, d3, d4] }
  | _ => none }
def WindowMovesWrongFalsely : Prop := windowMovesRow.holds Tryz.pinned (OpenSpec.ofChange windowMovesWrong)

/-- 'wattlelaw20.WindowCrash': WHATEVER THE INPUT: true; the input reads as it did. -/
def windowCrashSpec : ChangeSpec := { name := "windowCrash", fn := fun _ => fun
  | [d1, d2, d3, d4, d5, d6] => { results := [.lit (.bool true)], args := [d1, d2, d3, d4, d5, d6] }
  | _ => none }
def windowCrashRow : OpenClaim := { program := "ytlbdpbbpoghncaagreat", sum := "3f8b68370624076224f141342db280b72f8abc276319ff9d2e45482097003d9b", func := "wattle/wattlelaw20.WindowCrash", spec := "windowCrash", unfollowed := true, recurses := true, apart := false }
def WindowCrashSaid : Prop := windowCrashRow.holds Tryz.pinned (OpenSpec.ofChange windowCrashSpec)

/-- ITS FALSE NEIGHBOUR: 'it returns false'. Refute it at one input. -/
def windowCrashWrong : ChangeSpec := { name := "windowCrash", fn := fun _ => fun
  | [d1, d2, d3, d4, d5, d6] => { results := [.lit (.bool false)], args := [d1, d2, d3, d4, d5, d6] }
  | _ => none }
def WindowCrashWrongFalsely : Prop := windowCrashRow.holds Tryz.pinned (OpenSpec.ofChange windowCrashWrong)

/- THE SECOND FORM. 'bulk': how many values and letters a reading holds, each counted each time it is reached (what is shared counts as often as it is met; a slice's spare places count too). A statement '..UptoSaid' is the law's where the arguments, and the package variables that the reading takes, are together of bulk at most 1048576: NARROWER than '..Said'. Prove '..Said' where nothing that the law and all that it calls make is longer than what came in: it says more and counts as full. Else prove '..UptoSaid'. A law counts once. -/
mutual
def uptoBulk {H : Type} : DataW H → Nat
  | .lit (.string bytes) => bytes.length + 1
  | .lit _ => 1
  | .nil => 1
  | .ptr d => uptoBulk d + 1
  | .slice elems spare => uptoBulkAll elems + uptoBulkAll spare + 1
  | .agg parts => uptoBulkAll parts + 1
  | .iface _ d => uptoBulk d + 1
  | .map entries => uptoBulkEntries entries + 1
  | .held _ => 1
def uptoBulkAll {H : Type} : List (DataW H) → Nat
  | [] => 0
  | d :: r => uptoBulk d + uptoBulkAll r
def uptoBulkEntries {H : Type} : List (Lit × DataW H) → Nat
  | [] => 0
  | x :: r => uptoBulkEntry x + uptoBulkEntries r
def uptoBulkEntry {H : Type} : Lit × DataW H → Nat
  | (.string bytes, d) => bytes.length + uptoBulk d + 1
  | (_, d) => uptoBulk d + 1
 end
def uptoSmall : (H : Type) → List (DataW H) → Bool := fun _ ds => decide (uptoBulkAll ds ≤ 1048576)
def OpenSpec.upto (s : _root_.Go.ChangeSpec) : _root_.Go.OpenSpec := { _root_.Go.OpenSpec.ofChange s with cond := some uptoSmall }

/-- 'wattlelaw15.UpdateErrors', WHERE WHAT IT READS IS OF BULK AT MOST 1048576: true; the input reads as it did. -/
def updateErrorsUptoRow : OpenClaim := { program := "ytlbdpbbpoghncaagreat", sum := "3f8b68370624076224f141342db280b72f8abc276319ff9d2e45482097003d9b", func := "wattle/wattlelaw15.UpdateErrors", spec := "updateErrors", unfollowed := true, recurses := true, apart := false, narrowed := true }
def UpdateErrorsUptoSaid : Prop := updateErrorsUptoRow.holds Tryz.pinned (OpenSpec.upto updateErrorsSpec)

/-- 'wattlelaw15.UpdateRows', WHERE WHAT IT READS IS OF BULK AT MOST 1048576: true; the input reads as it did. -/
def updateRowsUptoRow : OpenClaim := { program := "ytlbdpbbpoghncaagreat", sum := "3f8b68370624076224f141342db280b72f8abc276319ff9d2e45482097003d9b", func := "wattle/wattlelaw15.UpdateRows", spec := "updateRows", unfollowed := true, recurses := true, apart := false, narrowed := true }
def UpdateRowsUptoSaid : Prop := updateRowsUptoRow.holds Tryz.pinned (OpenSpec.upto updateRowsSpec)

/-- 'wattlelaw15.UpdateDoes', WHERE WHAT IT READS IS OF BULK AT MOST 1048576: true; the input reads as it did. -/
def updateDoesUptoRow : OpenClaim := { program := "ytlbdpbbpoghncaagreat", sum := "3f8b68370624076224f141342db280b72f8abc276319ff9d2e45482097003d9b", func := "wattle/wattlelaw15.UpdateDoes", spec := "updateDoes", unfollowed := true, recurses := true, apart := false, narrowed := true }
def UpdateDoesUptoSaid : Prop := updateDoesUptoRow.holds Tryz.pinned (OpenSpec.upto updateDoesSpec)

/-- 'wattlelaw15.UpdateCrash', WHERE WHAT IT READS IS OF BULK AT MOST 1048576: true; the input reads as it did. -/
def updateCrashUptoRow : OpenClaim := { program := "ytlbdpbbpoghncaagreat", sum := "3f8b68370624076224f141342db280b72f8abc276319ff9d2e45482097003d9b", func := "wattle/wattlelaw15.UpdateCrash", spec := "updateCrash", unfollowed := true, recurses := true, apart := false, narrowed := true }
def UpdateCrashUptoSaid : Prop := updateCrashUptoRow.holds Tryz.pinned (OpenSpec.upto updateCrashSpec)

/-- 'wattlelaw20.WindowMoves', WHERE WHAT IT READS IS OF BULK AT MOST 1048576: true; the input reads as it did. -/
def windowMovesUptoRow : OpenClaim := { program := "ytlbdpbbpoghncaagreat", sum := "3f8b68370624076224f141342db280b72f8abc276319ff9d2e45482097003d9b", func := "wattle/wattlelaw20.WindowMoves", spec := "windowMoves", unfollowed := true, recurses := true, apart := false, narrowed := true }
def WindowMovesUptoSaid : Prop := windowMovesUptoRow.holds Tryz.pinned (OpenSpec.upto windowMovesSpec)

/-- 'wattlelaw20.WindowCrash', WHERE WHAT IT READS IS OF BULK AT MOST 1048576: true; the input reads as it did. -/
def windowCrashUptoRow : OpenClaim := { program := "ytlbdpbbpoghncaagreat", sum := "3f8b68370624076224f141342db280b72f8abc276319ff9d2e45482097003d9b", func := "wattle/wattlelaw20.WindowCrash", spec := "windowCrash", unfollowed := true, recurses := true, apart := false, narrowed := true }
def WindowCrashUptoSaid : Prop := windowCrashUptoRow.holds Tryz.pinned (OpenSpec.upto windowCrashSpec)

end Rows
end Go.Proofs.YtlbdpbbpoghncaaGreat
