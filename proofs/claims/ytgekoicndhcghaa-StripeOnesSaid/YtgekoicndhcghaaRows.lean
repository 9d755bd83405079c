/-
  No cell of these rows narrows 'for every input' (looked for: loops, veiled, ifaces, maps, wideKeys, modest, calm, conditions, laid).
  DERIVED. THE GIVEN ROWS OF THIS SEAT. 3 by the template 'for every input the law returns true; each argument reads behind the call as it read before'; 0 by the template 'total and deterministic' (their statements: YtgekoicndhcghaaTotals.lean).
  GIVEN WITH THE SEED: the statements are not yours to turn. If you find one false, say at which input.
  Laid BY PROGRAM, IN A SANDBOX (cutbox-rows.mjs): the forced cells as the released guide's own fill.sh prints them over the translation f6bf404a0a66f7fc… (all of the seat's roots in one cut). By AI agents, Wed Nov 11 2026. No macro, syntax, notation, axiom, sorry.
-/
import Derived.Test.YtgekoicndhcghaaChecked
import GoSem.Claim
import GoSem.ClaimJoined
import GoSem.ClaimMapViews
import Derived.JoinedTies
import Derived.KernelRfl
namespace Go.Proofs.Ytgekoicndhcghaa
/- THE CELL 'sum', in the pinned program and in every row, IS THE sha256 OF THE DUMP (.gsa) THAT YtgekoicndhcghaaProg.lean LOADS. Nothing in Lean hashes anything: it is a label: what it is worth is what the hold of that sum in a sandbox is worth. -/
noncomputable def Try.pinned : Pinned := { name := "ytgekoicndhcghaa", sum := "f6bf404a0a66f7fcb3560c7b08297dbe2d399a9179eb3acf46bb218910f12ea0", checked := Try.checked }
namespace Rows
def none {H : Type} : Left H := { results := [], args := [] }

/-- 'wattlelaw24.VirtualKeeps': WHATEVER THE INPUT: true; the input reads as it did. -/
def virtualKeepsSpec : ChangeSpec := { name := "virtualKeeps", fn := fun _ => fun
  | [d1, d2, d3, d4] => { results := [.lit (.bool true)], args := [d1, d2, d3, d4] }
  | _ => none }
def virtualKeepsRow : OpenClaim := { program := "ytgekoicndhcghaa", sum := "f6bf404a0a66f7fcb3560c7b08297dbe2d399a9179eb3acf46bb218910f12ea0", func := "wattle/wattlelaw24.VirtualKeeps", spec := "virtualKeeps", unfollowed := true, recurses := true, apart := false }
def VirtualKeepsSaid : Prop := virtualKeepsRow.holds Try.pinned (OpenSpec.ofChange virtualKeepsSpec)

/-- ITS FALSE NEIGHBOUR: 'it returns false'. Refute it at one input. -/
def virtualKeepsWrong : ChangeSpec := { name := "virtualKeeps", fn := fun _ => fun
  | [d1, d2, d3, d4] => { results := [.lit (.bool false)], args := [d1, d2, d3, d4] }
  | _ => none }
def VirtualKeepsWrongFalsely : Prop := virtualKeepsRow.holds Try.pinned (OpenSpec.ofChange virtualKeepsWrong)

/-- 'wattlelaw24.VirtualSame': WHATEVER THE INPUT: true; the input reads as it did. -/
def virtualSameSpec : ChangeSpec := { name := "virtualSame", fn := fun _ => fun
  | [d1, d2] => { results := [.lit (.bool true)], args := [d1, d2] }
  | _ => none }
def virtualSameRow : OpenClaim := { program := "ytgekoicndhcghaa", sum := "f6bf404a0a66f7fcb3560c7b08297dbe2d399a9179eb3acf46bb218910f12ea0", func := "wattle/wattlelaw24.VirtualSame", spec := "virtualSame", unfollowed := true, recurses := true, apart := false }
def VirtualSameSaid : Prop := virtualSameRow.holds Try.pinned (OpenSpec.ofChange virtualSameSpec)

/-- ITS FALSE NEIGHBOUR: 'it returns false'. Refute it at one input. -/
def virtualSameWrong : ChangeSpec := { name := "virtualSame", fn := fun _ => fun
  | [d1, d2] => { results := [.lit (.bool false)], args := [d1, d2] }
  | _ => none }
def VirtualSameWrongFalsely : Prop := virtualSameRow.holds Try.pinned (OpenSpec.ofChange virtualSameWrong)

/-- 'wattlelaw14.StripeOnes': WHATEVER THE INPUT: true; the input reads as it did. -/
def stripeOnesSpec : ChangeSpec := { name := "stripeOnes", fn := fun _ => fun
  | [d1, d2, d3, d4, d5] => { results := [.lit (.bool true)], args := [d1, d2, d3, d4, d5] }
  | _ => none }
def stripeOnesRow : OpenClaim := { program := "ytgekoicndhcghaa", sum := "f6bf404a0a66f7fcb3560c7b08297dbe2d399a9179eb3acf46bb218910f12ea0", func := "wattle/wattlelaw14.StripeOnes", spec := "stripeOnes", unfollowed := true, recurses := true, apart := false }
def StripeOnesSaid : Prop := stripeOnesRow.holds Try.pinned (OpenSpec.ofChange stripeOnesSpec)

/-- ITS FALSE NEIGHBOUR: 'it returns false'. Refute it at one input. -/
def stripeOnesWrong : ChangeSpec := { name := "stripeOnes", fn := fun _ => fun
  | [d1, d2, d3, d4, d5] => { results := [.lit (.bool false)], args := [d1, d2, d3, d4, d5] }
  | _ => none }
def StripeOnesWrongFalsely : Prop := stripeOnesRow.holds Try.pinned (OpenSpec.ofChange stripeOnesWrong)

/- THE SECOND FORM. 'bulk': how many values and letters a reading holds, each counted each time it is reached (what is shared counts as often as it is met; a slice's spare places count too). A statement '..UptoSaid' is the law's where the arguments, and the package variables that the reading takes, are together of bulk at most 1048576: NARROWER than '..Said'. Prove '..Said' where nothing that the law and all that it calls make is longer than what came in: it says more and counts as full. Else prove '..UptoSaid'. A law counts once. -/
mutual
def uptoBulk {H : Type} : DataW H → Nat
  | .lit (.string bytes) => bytes.length + 1
  | .lit _ => 1
  | .nil => 1
  | .ptr d => uptoBulk d + 1
  | .slice elems spare => uptoBulkAll elems + uptoBulkAll spare + 1
  | .agg parts => uptoBulkAll parts + 1
  | .iface _ d => uptoBulk d + 1
  | .map entries => uptoBulkEntries entries + 1
  | .held _ => 1
def uptoBulkAll {H : Type} : List (DataW H) → Nat
  | [] => 0
  | d :: r => uptoBulk d + uptoBulkAll r
def uptoBulkEntries {H : Type} : List (Lit × DataW H) → Nat
  | [] => 0
  | x :: r => uptoBulkEntry x + uptoBulkEntries r
def uptoBulkEntry {H : Type} : Lit × DataW H → Nat
  | (.string bytes, d) => bytes.length + uptoBulk d + 1
  | (_, d) => uptoBulk d + 1
 end
def uptoSmall : (H : Type) → List (DataW H) → Bool := fun _ ds => decide (uptoBulkAll ds ≤ 1048576)
def OpenSpec.upto (s : _root_.Go.ChangeSpec) : _root_.Go.OpenSpec := { _root_.Go.OpenSpec.ofChange s with cond := some uptoSmall }

/-- 'wattlelaw24.VirtualKeeps', WHERE WHAT IT READS IS OF BULK AT MOST 1048576: true; the input reads as it did. -/
def virtualKeepsUptoRow : OpenClaim := { program := "ytgekoicndhcghaa", sum := "f6bf404a0a66f7fcb3560c7b08297dbe2d399a9179eb3acf46bb218910f12ea0", func := "wattle/wattlelaw24.VirtualKeeps", spec := "virtualKeeps", unfollowed := true, recurses := true, apart := false, narrowed := true }
def VirtualKeepsUptoSaid : Prop := virtualKeepsUptoRow.holds Try.pinned (OpenSpec.upto virtualKeepsSpec)

/-- 'wattlelaw24.VirtualSame', WHERE WHAT IT READS IS OF BULK AT MOST 1048576: true; the input reads as it did. -/
def virtualSameUptoRow : OpenClaim := { program := "ytgekoicndhcghaa", sum := "f6bf404a0a66f7fcb3560c7b08297dbe2d399a9179eb3acf46bb218910f12ea0", func := "wattle/wattlelaw24.VirtualSame", spec := "virtualSame", unfollowed := true, recurses := true, apart := false, narrowed := true }
def VirtualSameUptoSaid : Prop := virtualSameUptoRow.holds Try.pinned (OpenSpec.upto virtualSameSpec)

/-- 'wattlelaw14.StripeOnes', WHERE WHAT IT READS IS OF BULK AT MOST 1048576: true; the input reads as it did. -/
def stripeOnesUptoRow : OpenClaim := { program := "ytgekoicndhcghaa", sum := "f6bf404a0a66f7fcb3560c7b08297dbe2d399a9179eb3acf46bb218910f12ea0", func := "wattle/wattlelaw14.StripeOnes", spec := "stripeOnes", unfollowed := true, recurses := true, apart := false, narrowed := true }
def StripeOnesUptoSaid : Prop := stripeOnesUptoRow.holds Try.pinned (OpenSpec.upto stripeOnesSpec)

end Rows
end Go.Proofs.Ytgekoicndhcghaa
