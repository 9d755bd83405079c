/-
  No cell of these rows narrows 'for every input' (looked for: loops, veiled, ifaces, maps, wideKeys, modest, calm, conditions, laid).
  DERIVED. THE GIVEN ROWS OF THIS SEAT. 12 by the template 'for every input the law returns true; each argument reads behind the call as it read before'; 0 by the template 'total and deterministic' (their statements: YtlbdpbbpoghncaaTotals.lean).
  GIVEN WITH THE SEED: the statements are not yours to turn. If you find one false, say at which input.
  Laid BY PROGRAM, IN A SANDBOX (cutbox-rows.mjs): the forced cells as the released guide's own fill.sh prints them over the translation fd7f6723d6633a33… (all of the seat's roots in one cut). By AI agents, Wed Nov 11 2026. No macro, syntax, notation, axiom, sorry.
-/
import Derived.Test.YtlbdpbbpoghncaaChecked
import GoSem.Claim
import GoSem.ClaimJoined
import GoSem.ClaimMapViews
import Derived.JoinedTies
import Derived.KernelRfl
namespace Go.Proofs.Ytlbdpbbpoghncaa
/- THE CELL 'sum', in the pinned program and in every row, IS THE sha256 OF THE DUMP (.gsa) THAT YtlbdpbbpoghncaaProg.lean LOADS. Nothing in Lean hashes anything: it is a label: what it is worth is what the hold of that sum in a sandbox is worth. -/
noncomputable def Try.pinned : Pinned := { name := "ytlbdpbbpoghncaa", sum := "fd7f6723d6633a330cf5e649fe04b0a7cbdd92b9b595744ad8f68a7f35f08f02", checked := Try.checked }
namespace Rows
def none {H : Type} : Left H := { results := [], args := [] }

/-- 'wattlelaw14.StripeReads': WHATEVER THE INPUT: true; the input reads as it did. -/
def stripeReadsSpec : ChangeSpec := { name := "stripeReads", fn := fun _ => fun
  | [d1, d2, d3, d4, d5, d6, d7] => { results := [.lit (.bool true)], args := [d1, d2, d3, d4, d5, d6, d7] }
  | _ => none }
def stripeReadsRow : OpenClaim := { program := "ytlbdpbbpoghncaa", sum := "fd7f6723d6633a330cf5e649fe04b0a7cbdd92b9b595744ad8f68a7f35f08f02", func := "wattle/wattlelaw14.StripeReads", spec := "stripeReads", unfollowed := true, recurses := true, apart := false }
def StripeReadsSaid : Prop := stripeReadsRow.holds Try.pinned (OpenSpec.ofChange stripeReadsSpec)

/-- ITS FALSE NEIGHBOUR: 'it returns false'. Refute it at one input. -/
def stripeReadsWrong : ChangeSpec := { name := "stripeReads", fn := fun _ => fun
  | [d1, d2, d3, d4, d5, d6, d7] => { results := [.lit (.bool false)], args := [d1, d2, d3, d4, d5, d6, d7] }
  | _ => none }
def StripeReadsWrongFalsely : Prop := stripeReadsRow.holds Try.pinned (OpenSpec.ofChange stripeReadsWrong)

/-- 'wattlelaw14.StripeBack': WHATEVER THE INPUT: true; the input reads as it did. -/
def stripeBackSpec : ChangeSpec := { name := "stripeBack", fn := fun _ => fun
  | [d1, d2, d3, d4, d5, d6] => { results := [.lit (.bool true)], args := [d1, d2, d3, d4, d5, d6] }
  | _ => none }
def stripeBackRow : OpenClaim := { program := "ytlbdpbbpoghncaa", sum := "fd7f6723d6633a330cf5e649fe04b0a7cbdd92b9b595744ad8f68a7f35f08f02", func := "wattle/wattlelaw14.StripeBack", spec := "stripeBack", unfollowed := true, recurses := true, apart := false }
def StripeBackSaid : Prop := stripeBackRow.holds Try.pinned (OpenSpec.ofChange stripeBackSpec)

/-- ITS FALSE NEIGHBOUR: 'it returns false'. Refute it at one input. -/
def stripeBackWrong : ChangeSpec := { name := "stripeBack", fn := fun _ => fun
  | [d1, d2, d3, d4, d5, d6] => { results := [.lit (.bool false)], args := [d1, d2, d3, d4, d5, d6] }
  | _ => none }
def StripeBackWrongFalsely : Prop := stripeBackRow.holds Try.pinned (OpenSpec.ofChange stripeBackWrong)

/-- 'wattlelaw14.StripeErrors': WHATEVER THE INPUT: true; the input reads as it did. -/
def stripeErrorsSpec : ChangeSpec := { name := "stripeErrors", fn := fun _ => fun
  | [d] => { results := [.lit (.bool true)], args := [d] }
  | _ => none }
def stripeErrorsRow : OpenClaim := { program := "ytlbdpbbpoghncaa", sum := "fd7f6723d6633a330cf5e649fe04b0a7cbdd92b9b595744ad8f68a7f35f08f02", func := "wattle/wattlelaw14.StripeErrors", spec := "stripeErrors", unfollowed := true, recurses := true, apart := false }
def StripeErrorsSaid : Prop := stripeErrorsRow.holds Try.pinned (OpenSpec.ofChange stripeErrorsSpec)

/-- ITS FALSE NEIGHBOUR: 'it returns false'. Refute it at one input. -/
def stripeErrorsWrong : ChangeSpec := { name := "stripeErrors", fn := fun _ => fun
  | [d] => { results := [.lit (.bool false)], args := [d] }
  | _ => none }
def StripeErrorsWrongFalsely : Prop := stripeErrorsRow.holds Try.pinned (OpenSpec.ofChange stripeErrorsWrong)

/-- 'wattlelaw14.StripeWrites': WHATEVER THE INPUT: true; the input reads as it did. -/
def stripeWritesSpec : ChangeSpec := { name := "stripeWrites", fn := fun _ => fun
  | [d1, d2, d3, d4, d5, d6, d7] => { results := [.lit (.bool true)], args := [d1, d2, d3, d4, d5, d6, d7] }
  | _ => none }
def stripeWritesRow : OpenClaim := { program := "ytlbdpbbpoghncaa", sum := "fd7f6723d6633a330cf5e649fe04b0a7cbdd92b9b595744ad8f68a7f35f08f02", func := "wattle/wattlelaw14.StripeWrites", spec := "stripeWrites", unfollowed := true, recurses := true, apart := false }
def StripeWritesSaid : Prop := stripeWritesRow.holds Try.pinned (OpenSpec.ofChange stripeWritesSpec)

/-- ITS FALSE NEIGHBOUR: 'it returns false'. Refute it at one input. -/
def stripeWritesWrong : ChangeSpec := { name := "stripeWrites", fn := fun _ => fun
  | [d1, d2, d3, d4, d5, d6, d7] => { results := [.lit (.bool false)], args := [d1, d2, d3, d4, d5, d6, d7] }
  | _ => none }
def StripeWritesWrongFalsely : Prop := stripeWritesRow.holds Try.pinned (OpenSpec.ofChange stripeWritesWrong)

/-- 'wattlelaw15.UpdatePlans': WHATEVER THE INPUT: true; the input reads as it did. -/
def updatePlansSpec : ChangeSpec := { name := "updatePlans", fn := fun _ => fun
  | [d1, d2, d3, d4, d5, d6] => { results := [.lit (.bool true)], args := [d1, d2, d3, d4, d5, d6] }
  | _ => none }
def updatePlansRow : OpenClaim := { program := "ytlbdpbbpoghncaa", sum := "fd7f6723d6633a330cf5e649fe04b0a7cbdd92b9b595744ad8f68a7f35f08f02", func := "wattle/wattlelaw15.UpdatePlans", spec := "updatePlans", unfollowed := true, recurses := true, apart := false }
def UpdatePlansSaid : Prop := updatePlansRow.holds Try.pinned (OpenSpec.ofChange updatePlansSpec)

/-- ITS FALSE NEIGHBOUR: 'it returns false'. Refute it at one input. -/
def updatePlansWrong : ChangeSpec := { name := "updatePlans", fn := fun _ => fun
  | [d1, d2, d3, d4, d5, d6] => { results := [.lit (.bool false)], args := [d1, d2, d3, d4, d5, d6] }
  | _ => none }
def UpdatePlansWrongFalsely : Prop := updatePlansRow.holds Try.pinned (OpenSpec.ofChange updatePlansWrong)

/-- 'wattlelaw16.RebuildErrors': WHATEVER THE INPUT: true; the input reads as it did. -/
def rebuildErrorsSpec : ChangeSpec := { name := "rebuildErrors", fn := fun _ => fun
  | [d1, d2, d3, d4] => { results := [.lit (.bool true)], args := [d1, d2, d3, d4] }
  | _ => none }
def rebuildErrorsRow : OpenClaim := { program := "ytlbdpbbpoghncaa", sum := "fd7f6723d6633a330cf5e649fe04b0a7cbdd92b9b595744ad8f68a7f35f08f02", func := "wattle/wattlelaw16.RebuildErrors", spec := "rebuildErrors", unfollowed := true, recurses := true, apart := false }
def RebuildErrorsSaid : Prop := rebuildErrorsRow.holds Try.pinned (OpenSpec.ofChange rebuildErrorsSpec)

/-- ITS FALSE NEIGHBOUR: 'it returns false'. Refute it at one input. -/
def rebuildErrorsWrong : ChangeSpec := { name := "rebuildErrors", fn := fun _ => fun
  | [d1, d2, d3, d4] => { results := [.lit (.bool false)], args := [d1, d2, d3, d4] }
  | _ => none }
def RebuildErrorsWrongFalsely : Prop := rebuildErrorsRow.holds Try.pinned (OpenSpec.ofChange rebuildErrorsWrong)

/-- 'wattlelaw16.RebuildTwo': WHATEVER THE INPUT: true; the input reads as it did. -/
def rebuildTwoSpec : ChangeSpec := { name := "rebuildTwo", fn := fun _ => fun
  | [d1, d2, d3, d4] => { results := [.lit (.bool true)], args := [d1, d2, d3, d4] }
  | _ => none }
def rebuildTwoRow : OpenClaim := { program := "ytlbdpbbpoghncaa", sum := "fd7f6723d6633a330cf5e649fe04b0a7cbdd92b9b595744ad8f68a7f35f08f02", func := "wattle/wattlelaw16.RebuildTwo", spec := "rebuildTwo", unfollowed := true, recurses := true, apart := false }
def RebuildTwoSaid : Prop := rebuildTwoRow.holds Try.pinned (OpenSpec.ofChange rebuildTwoSpec)

/-- ITS FALSE NEIGHBOUR: 'it returns false'. Refute it at one input. -/
def rebuildTwoWrong : ChangeSpec := { name := "rebuildTwo", fn := fun _ => fun
  | [d1, d2, d3, d4] => { results := [.lit (.bool false)], args := [d1, d2, d3, d4] }
  | _ => none }
def RebuildTwoWrongFalsely : Prop := rebuildTwoRow.holds Try.pinned (OpenSpec.ofChange rebuildTwoWrong)

/-- 'wattlelaw16.RebuildRows': WHATEVER THE INPUT: true; the input reads as it did. -/
def rebuildRowsSpec : ChangeSpec := { name := "rebuildRows", fn := fun _ => fun
  | [d1, d2, d3, d4, d5, d6] => { results := [.lit (.bool true)], args := [d1, d2, d3, d4, d5, d6] }
  | _ => none }
def rebuildRowsRow : OpenClaim := { program := "ytlbdpbbpoghncaa", sum := "fd7f6723d6633a330cf5e649fe04b0a7cbdd92b9b595744ad8f68a7f35f08f02", func := "wattle/wattlelaw16.RebuildRows", spec := "rebuildRows", unfollowed := true, recurses := true, apart := false }
def RebuildRowsSaid : Prop := rebuildRowsRow.holds Try.pinned (OpenSpec.ofChange rebuildRowsSpec)

/-- ITS FALSE NEIGHBOUR: 'it returns false'. Refute it at one input. -/
def rebuildRowsWrong : ChangeSpec := { name := "rebuildRows", fn := fun _ => fun
  | [d1, d2, d3, d4, d5, d6] => { results := [.lit (.bool false)], args := [d1, d2, d3, d4, d5, d6] }
  | _ => none }
def RebuildRowsWrongFalsely : Prop := rebuildRowsRow.holds Try.pinned (OpenSpec.ofChange rebuildRowsWrong)

/-- 'wattlelaw16.RebuildQuiet': WHATEVER THE INPUT: true; the input reads as it did. -/
def rebuildQuietSpec : ChangeSpec := { name := "rebuildQuiet", fn := fun _ => fun
  | [d1, d2, d3, d4, d5, d6, d7] => { results := [.lit (.bool true)], args := [d1, d2, d3, d4, d5, d6, d7] }
  | _ => none }
def rebuildQuietRow : OpenClaim := { program := "ytlbdpbbpoghncaa", sum := "fd7f6723d6633a330cf5e649fe04b0a7cbdd92b9b595744ad8f68a7f35f08f02", func := "wattle/wattlelaw16.RebuildQuiet", spec := "rebuildQuiet", unfollowed := true, recurses := true, apart := false }
def RebuildQuietSaid : Prop := rebuildQuietRow.holds Try.pinned (OpenSpec.ofChange rebuildQuietSpec)

/-- ITS FALSE NEIGHBOUR: 'it returns false'. Refute it at one input. -/
def rebuildQuietWrong : ChangeSpec := { name := "rebuildQuiet", fn := fun _ => fun
  | [d1, d2, d3, d4, d5, d6, d7] => { results := [.lit (.bool false)], args := [d1, d2, d3, d4, d5, d6, d7] }
  | _ => none }
def RebuildQuietWrongFalsely : Prop := rebuildQuietRow.holds Try.pinned (OpenSpec.ofChange rebuildQuietWrong)

/-- 'wattlelaw20.WindowLost': WHATEVER THE INPUT: true; the input reads as it did. -/
def windowLostSpec : ChangeSpec := { name := "windowLost", fn := fun _ => fun
  | [d1, d2, d3, d4, d5, d6] => { results := [.lit (.bool true)], args := [d1, d2, d3, d4, d5, d6] }
  | _ => none }
def windowLostRow : OpenClaim := { program := "ytlbdpbbpoghncaa", sum := "fd7f6723d6633a330cf5e649fe04b0a7cbdd92b9b595744ad8f68a7f35f08f02", func := "wattle/wattlelaw20.WindowLost", spec := "windowLost", unfollowed := true, recurses := true, apart := false }
def WindowLostSaid : Prop := windowLostRow.holds Try.pinned (OpenSpec.ofChange windowLostSpec)

/-- ITS FALSE NEIGHBOUR: 'it returns false'. Refute it at one input. -/
def windowLostWrong : ChangeSpec := { name := "windowLost", fn := fun _ => fun
  | [d1, d2, d3, d4, d5, d6] => { results := [.lit (.bool false)], args := [d1, d2, d3, d4, d5, d6] }
  | _ => none }
def WindowLostWrongFalsely : Prop := windowLostRow.holds Try.pinned (OpenSpec.ofChange windowLostWrong)

/-- 'wattlelaw20.WindowErrors': WHATEVER THE INPUT: true; the input reads as it did. -/
def windowErrorsSpec : ChangeSpec := { name := "windowErrors", fn := fun _ => fun
  | [d1, d2, d3, d4] => { results := [.lit (.bool true)], args := [d1, d2, d3, d4] }
  | _ => none }
def windowErrorsRow : OpenClaim := { program := "ytlbdpbbpoghncaa", sum := "fd7f6723d6633a330cf5e649fe04b0a7cbdd92b9b595744ad8f68a7f35f08f02", func := "wattle/wattlelaw20.WindowErrors", spec := "windowErrors", unfollowed := true, recurses := true, apart := false }
def WindowErrorsSaid : Prop := windowErrorsRow.holds Try.pinned (OpenSpec.ofChange windowErrorsSpec)

/-- ITS FALSE NEIGHBOUR: 'it returns false'. Refute it at one input. -/
def windowErrorsWrong : ChangeSpec := { name := "windowErrors", fn := fun _ => fun
  | [d1, d2, d3, d4] => { results := [.lit (.bool false)], args := [d1, d2, d3, d4] }
  | _ => none }
def WindowErrorsWrongFalsely : Prop := windowErrorsRow.holds Try.pinned (OpenSpec.ofChange windowErrorsWrong)

/-- 'wattlelaw20.WindowWrites': WHATEVER THE INPUT: true; the input reads as it did. -/
def windowWritesSpec : ChangeSpec := { name := "windowWrites", fn := fun _ => fun
  | [d1, d2, d3, d4, d5] => { results := [.lit (.bool true)], args := [d1, d2, d3, d4, d5] }
  | _ => none }
def windowWritesRow : OpenClaim := { program := "ytlbdpbbpoghncaa", sum := "fd7f6723d6633a330cf5e649fe04b0a7cbdd92b9b595744ad8f68a7f35f08f02", func := "wattle/wattlelaw20.WindowWrites", spec := "windowWrites", unfollowed := true, recurses := true, apart := false }
def WindowWritesSaid : Prop := windowWritesRow.holds Try.pinned (OpenSpec.ofChange windowWritesSpec)

/-- ITS FALSE NEIGHBOUR: 'it returns false'. Refute it at one input. -/
def windowWritesWrong : ChangeSpec := { name := "windowWrites", fn := fun _ => fun
  | [d1, d2, d3, d4, d5] => { results := [.lit (.bool false)], args := [d1, d2, d3, d4, d5] }
  | _ => none }
def WindowWritesWrongFalsely : Prop := windowWritesRow.holds Try.pinned (OpenSpec.ofChange windowWritesWrong)

/- THE SECOND FORM. 'bulk': how many values and letters a reading holds, each counted each time it is reached (what is shared counts as often as it is met; a slice's spare places count too). A statement '..UptoSaid' is the law's where the arguments, and the package variables that the reading takes, are together of bulk at most 1048576: NARROWER than '..Said'. Prove '..Said' where nothing that the law and all that it calls make is longer than what came in: it says more and counts as full. Else prove '..UptoSaid'. A law counts once. -/
mutual
def uptoBulk {H : Type} : DataW H → Nat
  | .lit (.string bytes) => bytes.length + 1
  | .lit _ => 1
  | .nil => 1
  | .ptr d => uptoBulk d + 1
  | .slice elems spare => uptoBulkAll elems + uptoBulkAll spare + 1
  | .agg parts => uptoBulkAll parts + 1
  | .iface _ d => uptoBulk d + 1
  | .map entries => uptoBulkEntries entries + 1
  | .held _ => 1
def uptoBulkAll {H : Type} : List (DataW H) → Nat
  | [] => 0
  | d :: r => uptoBulk d + uptoBulkAll r
def uptoBulkEntries {H : Type} : List (Lit × DataW H) → Nat
  | [] => 0
  | x :: r => uptoBulkEntry x + uptoBulkEntries r
def uptoBulkEntry {H : Type} : Lit × DataW H → Nat
  | (.string bytes, d) => bytes.length + uptoBulk d + 1
  | (_, d) => uptoBulk d + 1
 end
def uptoSmall : (H : Type) → List (DataW H) → Bool := fun _ ds => decide (uptoBulkAll ds ≤ 1048576)
def OpenSpec.upto (s : _root_.Go.ChangeSpec) : _root_.Go.OpenSpec := { _root_.Go.OpenSpec.ofChange s with cond := some uptoSmall }

/-- 'wattlelaw14.StripeReads', WHERE WHAT IT READS IS OF BULK AT MOST 1048576: true; the input reads as it did. -/
def stripeReadsUptoRow : OpenClaim := { program := "ytlbdpbbpoghncaa", sum := "fd7f6723d6633a330cf5e649fe04b0a7cbdd92b9b595744ad8f68a7f35f08f02", func := "wattle/wattlelaw14.StripeReads", spec := "stripeReads", unfollowed := true, recurses := true, apart := false, narrowed := true }
def StripeReadsUptoSaid : Prop := stripeReadsUptoRow.holds Try.pinned (OpenSpec.upto stripeReadsSpec)

/-- 'wattlelaw14.StripeBack', WHERE WHAT IT READS IS OF BULK AT MOST 1048576: true; the input reads as it did. -/
def stripeBackUptoRow : OpenClaim := { program := "ytlbdpbbpoghncaa", sum := "fd7f6723d6633a330cf5e649fe04b0a7cbdd92b9b595744ad8f68a7f35f08f02", func := "wattle/wattlelaw14.StripeBack", spec := "stripeBack", unfollowed := true, recurses := true, apart := false, narrowed := true }
def StripeBackUptoSaid : Prop := stripeBackUptoRow.holds Try.pinned (OpenSpec.upto stripeBackSpec)

/-- 'wattlelaw14.StripeErrors', WHERE WHAT IT READS IS OF BULK AT MOST 1048576: true; the input reads as it did. -/
def stripeErrorsUptoRow : OpenClaim := { program := "ytlbdpbbpoghncaa", sum := "fd7f6723d6633a330cf5e649fe04b0a7cbdd92b9b595744ad8f68a7f35f08f02", func := "wattle/wattlelaw14.StripeErrors", spec := "stripeErrors", unfollowed := true, recurses := true, apart := false, narrowed := true }
def StripeErrorsUptoSaid : Prop := stripeErrorsUptoRow.holds Try.pinned (OpenSpec.upto stripeErrorsSpec)

/-- 'wattlelaw14.StripeWrites', WHERE WHAT IT READS IS OF BULK AT MOST 1048576: true; the input reads as it did. -/
def stripeWritesUptoRow : OpenClaim := { program := "ytlbdpbbpoghncaa", sum := "fd7f6723d6633a330cf5e649fe04b0a7cbdd92b9b595744ad8f68a7f35f08f02", func := "wattle/wattlelaw14.StripeWrites", spec := "stripeWrites", unfollowed := true, recurses := true, apart := false, narrowed := true }
def StripeWritesUptoSaid : Prop := stripeWritesUptoRow.holds Try.pinned (OpenSpec.upto stripeWritesSpec)

/-- 'wattlelaw15.UpdatePlans', WHERE WHAT IT READS IS OF BULK AT MOST 1048576: true; the input reads as it did. -/
def updatePlansUptoRow : OpenClaim := { program := "ytlbdpbbpoghncaa", sum := "fd7f6723d6633a330cf5e649fe04b0a7cbdd92b9b595744ad8f68a7f35f08f02", func := "wattle/wattlelaw15.UpdatePlans", spec := "updatePlans", unfollowed := true, recurses := true, apart := false, narrowed := true }
def UpdatePlansUptoSaid : Prop := updatePlansUptoRow.holds Try.pinned (OpenSpec.upto updatePlansSpec)

/-- 'wattlelaw16.RebuildErrors', WHERE WHAT IT READS IS OF BULK AT MOST 1048576: true; the input reads as it did. -/
def rebuildErrorsUptoRow : OpenClaim := { program := "ytlbdpbbpoghncaa", sum := "fd7f6723d6633a330cf5e649fe04b0a7cbdd92b9b595744ad8f68a7f35f08f02", func := "wattle/wattlelaw16.RebuildErrors", spec := "rebuildErrors", unfollowed := true, recurses := true, apart := false, narrowed := true }
def RebuildErrorsUptoSaid : Prop := rebuildErrorsUptoRow.holds Try.pinned (OpenSpec.upto rebuildErrorsSpec)

/-- 'wattlelaw16.RebuildTwo', WHERE WHAT IT READS IS OF BULK AT MOST 1048576: true; the input reads as it did. -/
def rebuildTwoUptoRow : OpenClaim := { program := "ytlbdpbbpoghncaa", sum := "fd7f6723d6633a330cf5e649fe04b0a7cbdd92b9b595744ad8f68a7f35f08f02", func := "wattle/wattlelaw16.RebuildTwo", spec := "rebuildTwo", unfollowed := true, recurses := true, apart := false, narrowed := true }
def RebuildTwoUptoSaid : Prop := rebuildTwoUptoRow.holds Try.pinned (OpenSpec.upto rebuildTwoSpec)

/-- 'wattlelaw16.RebuildRows', WHERE WHAT IT READS IS OF BULK AT MOST 1048576: true; the input reads as it did. -/
def rebuildRowsUptoRow : OpenClaim := { program := "ytlbdpbbpoghncaa", sum := "fd7f6723d6633a330cf5e649fe04b0a7cbdd92b9b595744ad8f68a7f35f08f02", func := "wattle/wattlelaw16.RebuildRows", spec := "rebuildRows", unfollowed := true, recurses := true, apart := false, narrowed := true }
def RebuildRowsUptoSaid : Prop := rebuildRowsUptoRow.holds Try.pinned (OpenSpec.upto rebuildRowsSpec)

/-- 'wattlelaw16.RebuildQuiet', WHERE WHAT IT READS IS OF BULK AT MOST 1048576: true; the input reads as it did. -/
def rebuildQuietUptoRow : OpenClaim := { program := "ytlbdpbbpoghncaa", sum := "fd7f6723d6633a330cf5e649fe04b0a7cbdd92b9b595744ad8f68a7f35f08f02", func := "wattle/wattlelaw16.RebuildQuiet", spec := "rebuildQuiet", unfollowed := true, recurses := true, apart := false, narrowed := true }
def RebuildQuietUptoSaid : Prop := rebuildQuietUptoRow.holds Try.pinned (OpenSpec.upto rebuildQuietSpec)

/-- 'wattlelaw20.WindowLost', WHERE WHAT IT READS IS OF BULK AT MOST 1048576: true; the input reads as it did. -/
def windowLostUptoRow : OpenClaim := { program := "ytlbdpbbpoghncaa", sum := "fd7f6723d6633a330cf5e649fe04b0a7cbdd92b9b595744ad8f68a7f35f08f02", func := "wattle/wattlelaw20.WindowLost", spec := "windowLost", unfollowed := true, recurses := true, apart := false, narrowed := true }
def WindowLostUptoSaid : Prop := windowLostUptoRow.holds Try.pinned (OpenSpec.upto windowLostSpec)

/-- 'wattlelaw20.WindowErrors', WHERE WHAT IT READS IS OF BULK AT MOST 1048576: true; the input reads as it did. -/
def windowErrorsUptoRow : OpenClaim := { program := "ytlbdpbbpoghncaa", sum := "fd7f6723d6633a330cf5e649fe04b0a7cbdd92b9b595744ad8f68a7f35f08f02", func := "wattle/wattlelaw20.WindowErrors", spec := "windowErrors", unfollowed := true, recurses := true, apart := false, narrowed := true }
def WindowErrorsUptoSaid : Prop := windowErrorsUptoRow.holds Try.pinned (OpenSpec.upto windowErrorsSpec)

/-- 'wattlelaw20.WindowWrites', WHERE WHAT IT READS IS OF BULK AT MOST 1048576: true; the input reads as it did. -/
def windowWritesUptoRow : OpenClaim := { program := "ytlbdpbbpoghncaa", sum := "fd7f6723d6633a330cf5e649fe04b0a7cbdd92b9b595744ad8f68a7f35f08f02", func := "wattle/wattlelaw20.WindowWrites", spec := "windowWrites", unfollowed := true, recurses := true, apart := false, narrowed := true }
def WindowWritesUptoSaid : Prop := windowWritesUptoRow.holds Try.pinned (OpenSpec.upto windowWritesSpec)

end Rows
end Go.Proofs.Ytlbdpbbpoghncaa
