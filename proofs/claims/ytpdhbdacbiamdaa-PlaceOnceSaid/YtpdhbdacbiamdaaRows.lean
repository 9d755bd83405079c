/-
  No cell of these rows narrows 'for every input' (looked for: loops, veiled, ifaces, maps, wideKeys, modest, calm, conditions, laid).
  DERIVED. THE GIVEN ROWS OF THIS SEAT. 13 by the template 'for every input the law returns true; each argument reads behind the call as it read before'; 0 by the template 'total and deterministic' (their statements: YtpdhbdacbiamdaaTotals.lean).
  GIVEN WITH THE SEED: the statements are not yours to turn. If you find one false, say at which input.
  Laid BY PROGRAM, IN A SANDBOX (cutbox-rows.mjs): the forced cells as the released guide's own fill.sh prints them over the translation 2520644b9885f92f… (all of the seat's roots in one cut). By AI agents, Wed Nov 11 2026. No macro, syntax, notation, axiom, sorry.
-/
import Derived.Test.YtpdhbdacbiamdaaChecked
import GoSem.Claim
import GoSem.ClaimJoined
import GoSem.ClaimMapViews
import Derived.JoinedTies
import Derived.KernelRfl
namespace Go.Proofs.Ytpdhbdacbiamdaa
/- THE CELL 'sum', in the pinned program and in every row, IS THE sha256 OF THE DUMP (.gsa) THAT YtpdhbdacbiamdaaProg.lean LOADS. Nothing in Lean hashes anything: it is a label: what it is worth is what the hold of that sum in a sandbox is worth. -/
noncomputable def Try.pinned : Pinned := { name := "ytpdhbdacbiamdaa", sum := "2520644b9885f92f0ed9b94e3a5261ad5b6b3fb2e3051b3bca2d2a4de78d5737", checked := Try.checked }
namespace Rows
def none {H : Type} : Left H := { results := [], args := [] }

/-- 'wattlelaw07.GeomForms': WHATEVER THE INPUT: true; the input reads as it did. -/
def geomFormsSpec : ChangeSpec := { name := "geomForms", fn := fun _ => fun
  | [d] => { results := [.lit (.bool true)], args := [d] }
  | _ => none }
def geomFormsRow : OpenClaim := { program := "ytpdhbdacbiamdaa", sum := "2520644b9885f92f0ed9b94e3a5261ad5b6b3fb2e3051b3bca2d2a4de78d5737", func := "wattle/wattlelaw07.GeomForms", spec := "geomForms", plainKeys := false, apart := false }
def GeomFormsSaid : Prop := geomFormsRow.holds Try.pinned (OpenSpec.ofChange geomFormsSpec)

/-- ITS FALSE NEIGHBOUR: 'it returns false'. Refute it at one input. -/
def geomFormsWrong : ChangeSpec := { name := "geomForms", fn := fun _ => fun
  | [d] => { results := [.lit (.bool false)], args := [d] }
  | _ => none }
def GeomFormsWrongFalsely : Prop := geomFormsRow.holds Try.pinned (OpenSpec.ofChange geomFormsWrong)

/-- 'wattlelaw07.GeomTells': WHATEVER THE INPUT: true; the input reads as it did. -/
def geomTellsSpec : ChangeSpec := { name := "geomTells", fn := fun _ => fun
  | [d1, d2, d3, d4, d5] => { results := [.lit (.bool true)], args := [d1, d2, d3, d4, d5] }
  | _ => none }
def geomTellsRow : OpenClaim := { program := "ytpdhbdacbiamdaa", sum := "2520644b9885f92f0ed9b94e3a5261ad5b6b3fb2e3051b3bca2d2a4de78d5737", func := "wattle/wattlelaw07.GeomTells", spec := "geomTells", unfollowed := true, recurses := true, plainKeys := false, apart := false }
def GeomTellsSaid : Prop := geomTellsRow.holds Try.pinned (OpenSpec.ofChange geomTellsSpec)

/-- ITS FALSE NEIGHBOUR: 'it returns false'. Refute it at one input. -/
def geomTellsWrong : ChangeSpec := { name := "geomTells", fn := fun _ => fun
  | [d1, d2, d3, d4, d5] => { results := [.lit (.bool false)], args := [d1, d2, d3, d4, d5] }
  | _ => none }
def GeomTellsWrongFalsely : Prop := geomTellsRow.holds Try.pinned (OpenSpec.ofChange geomTellsWrong)

/-- 'wattlelaw07.GeomLaws': WHATEVER THE INPUT: true; the input reads as it did. -/
def geomLawsSpec : ChangeSpec := { name := "geomLaws", fn := fun _ => fun
  | [d1, d2, d3] => { results := [.lit (.bool true)], args := [d1, d2, d3] }
  | _ => none }
def geomLawsRow : OpenClaim := { program := "ytpdhbdacbiamdaa", sum := "2520644b9885f92f0ed9b94e3a5261ad5b6b3fb2e3051b3bca2d2a4de78d5737", func := "wattle/wattlelaw07.GeomLaws", spec := "geomLaws", unfollowed := true, recurses := true, plainKeys := false, apart := false }
def GeomLawsSaid : Prop := geomLawsRow.holds Try.pinned (OpenSpec.ofChange geomLawsSpec)

/-- ITS FALSE NEIGHBOUR: 'it returns false'. Refute it at one input. -/
def geomLawsWrong : ChangeSpec := { name := "geomLaws", fn := fun _ => fun
  | [d1, d2, d3] => { results := [.lit (.bool false)], args := [d1, d2, d3] }
  | _ => none }
def GeomLawsWrongFalsely : Prop := geomLawsRow.holds Try.pinned (OpenSpec.ofChange geomLawsWrong)

/-- 'wattlelaw18.PlanCovers': WHATEVER THE INPUT: true; the input reads as it did. -/
def planCoversSpec : ChangeSpec := { name := "planCovers", fn := fun _ => fun
  | [d1, d2] => { results := [.lit (.bool true)], args := [d1, d2] }
  | _ => none }
def planCoversRow : OpenClaim := { program := "ytpdhbdacbiamdaa", sum := "2520644b9885f92f0ed9b94e3a5261ad5b6b3fb2e3051b3bca2d2a4de78d5737", func := "wattle/wattlelaw18.PlanCovers", spec := "planCovers", unfollowed := true, recurses := true, plainKeys := false, apart := false }
def PlanCoversSaid : Prop := planCoversRow.holds Try.pinned (OpenSpec.ofChange planCoversSpec)

/-- ITS FALSE NEIGHBOUR: 'it returns false'. Refute it at one input. -/
def planCoversWrong : ChangeSpec := { name := "planCovers", fn := fun _ => fun
  | [d1, d2] => { results := [.lit (.bool false)], args := [d1, d2] }
  | _ => none }
def PlanCoversWrongFalsely : Prop := planCoversRow.holds Try.pinned (OpenSpec.ofChange planCoversWrong)

/-- 'wattlelaw08.PlaceTurns': WHATEVER THE INPUT: true; the input reads as it did. -/
def placeTurnsSpec : ChangeSpec := { name := "placeTurns", fn := fun _ => fun
  | [d1, d2] => { results := [.lit (.bool true)], args := [d1, d2] }
  | _ => none }
def placeTurnsRow : OpenClaim := { program := "ytpdhbdacbiamdaa", sum := "2520644b9885f92f0ed9b94e3a5261ad5b6b3fb2e3051b3bca2d2a4de78d5737", func := "wattle/wattlelaw08.PlaceTurns", spec := "placeTurns", unfollowed := true, recurses := true, plainKeys := false, apart := false }
def PlaceTurnsSaid : Prop := placeTurnsRow.holds Try.pinned (OpenSpec.ofChange placeTurnsSpec)

/-- ITS FALSE NEIGHBOUR: 'it returns false'. Refute it at one input. -/
def placeTurnsWrong : ChangeSpec := { name := "placeTurns", fn := fun _ => fun
  | [d1, d2] => { results := [.lit (.bool false)], args := [d1, d2] }
  | _ => none }
def PlaceTurnsWrongFalsely : Prop := placeTurnsRow.holds Try.pinned (OpenSpec.ofChange placeTurnsWrong)

/-- 'wattlelaw18.PlanForms': WHATEVER THE INPUT: true; the input reads as it did. -/
def planFormsSpec : ChangeSpec := { name := "planForms", fn := fun _ => fun
  | [d] => { results := [.lit (.bool true)], args := [d] }
  | _ => none }
def planFormsRow : OpenClaim := { program := "ytpdhbdacbiamdaa", sum := "2520644b9885f92f0ed9b94e3a5261ad5b6b3fb2e3051b3bca2d2a4de78d5737", func := "wattle/wattlelaw18.PlanForms", spec := "planForms", plainKeys := false, apart := false }
def PlanFormsSaid : Prop := planFormsRow.holds Try.pinned (OpenSpec.ofChange planFormsSpec)

/-- ITS FALSE NEIGHBOUR: 'it returns false'. Refute it at one input. -/
def planFormsWrong : ChangeSpec := { name := "planForms", fn := fun _ => fun
  | [d] => { results := [.lit (.bool false)], args := [d] }
  | _ => none }
def PlanFormsWrongFalsely : Prop := planFormsRow.holds Try.pinned (OpenSpec.ofChange planFormsWrong)

/-- 'wattlelaw18.PlanRises': WHATEVER THE INPUT: true; the input reads as it did. -/
def planRisesSpec : ChangeSpec := { name := "planRises", fn := fun _ => fun
  | [d1, d2] => { results := [.lit (.bool true)], args := [d1, d2] }
  | _ => none }
def planRisesRow : OpenClaim := { program := "ytpdhbdacbiamdaa", sum := "2520644b9885f92f0ed9b94e3a5261ad5b6b3fb2e3051b3bca2d2a4de78d5737", func := "wattle/wattlelaw18.PlanRises", spec := "planRises", unfollowed := true, recurses := true, plainKeys := false, apart := false }
def PlanRisesSaid : Prop := planRisesRow.holds Try.pinned (OpenSpec.ofChange planRisesSpec)

/-- ITS FALSE NEIGHBOUR: 'it returns false'. Refute it at one input. -/
def planRisesWrong : ChangeSpec := { name := "planRises", fn := fun _ => fun
  | [d1, d2] => { results := [.lit (.bool false)], args := [d1, d2] }
  | _ => none }
def PlanRisesWrongFalsely : Prop := planRisesRow.holds Try.pinned (OpenSpec.ofChange planRisesWrong)

/-- 'wattlelaw18.PlanTells': WHATEVER THE INPUT: true; the input reads as it did. -/
def planTellsSpec : ChangeSpec := { name := "planTells", fn := fun _ => fun
  | [d1, d2, d3, d4] => { results := [.lit (.bool true)], args := [d1, d2, d3, d4] }
  | _ => none }
def planTellsRow : OpenClaim := { program := "ytpdhbdacbiamdaa", sum := "2520644b9885f92f0ed9b94e3a5261ad5b6b3fb2e3051b3bca2d2a4de78d5737", func := "wattle/wattlelaw18.PlanTells", spec := "planTells", unfollowed := true, recurses := true, plainKeys := false, apart := false }
def PlanTellsSaid : Prop := planTellsRow.holds Try.pinned (OpenSpec.ofChange planTellsSpec)

/-- ITS FALSE NEIGHBOUR: 'it returns false'. Refute it at one input. -/
def planTellsWrong : ChangeSpec := { name := "planTells", fn := fun _ => fun
  | [d1, d2, d3, d4] => { results := [.lit (.bool false)], args := [d1, d2, d3, d4] }
  | _ => none }
def PlanTellsWrongFalsely : Prop := planTellsRow.holds Try.pinned (OpenSpec.ofChange planTellsWrong)

/-- 'wattlelaw18.PlanSafe': WHATEVER THE INPUT: true; the input reads as it did. -/
def planSafeSpec : ChangeSpec := { name := "planSafe", fn := fun _ => fun
  | [d1, d2] => { results := [.lit (.bool true)], args := [d1, d2] }
  | _ => none }
def planSafeRow : OpenClaim := { program := "ytpdhbdacbiamdaa", sum := "2520644b9885f92f0ed9b94e3a5261ad5b6b3fb2e3051b3bca2d2a4de78d5737", func := "wattle/wattlelaw18.PlanSafe", spec := "planSafe", unfollowed := true, recurses := true, plainKeys := false, apart := false }
def PlanSafeSaid : Prop := planSafeRow.holds Try.pinned (OpenSpec.ofChange planSafeSpec)

/-- ITS FALSE NEIGHBOUR: 'it returns false'. Refute it at one input. -/
def planSafeWrong : ChangeSpec := { name := "planSafe", fn := fun _ => fun
  | [d1, d2] => { results := [.lit (.bool false)], args := [d1, d2] }
  | _ => none }
def PlanSafeWrongFalsely : Prop := planSafeRow.holds Try.pinned (OpenSpec.ofChange planSafeWrong)

/-- 'wattlelaw08.PlaceOnce': WHATEVER THE INPUT: true; the input reads as it did. -/
def placeOnceSpec : ChangeSpec := { name := "placeOnce", fn := fun _ => fun
  | [d] => { results := [.lit (.bool true)], args := [d] }
  | _ => none }
def placeOnceRow : OpenClaim := { program := "ytpdhbdacbiamdaa", sum := "2520644b9885f92f0ed9b94e3a5261ad5b6b3fb2e3051b3bca2d2a4de78d5737", func := "wattle/wattlelaw08.PlaceOnce", spec := "placeOnce", unfollowed := true, recurses := true, plainKeys := false, apart := false }
def PlaceOnceSaid : Prop := placeOnceRow.holds Try.pinned (OpenSpec.ofChange placeOnceSpec)

/-- ITS FALSE NEIGHBOUR: 'it returns false'. Refute it at one input. -/
def placeOnceWrong : ChangeSpec := { name := "placeOnce", fn := fun _ => fun
  | [d] => { results := [.lit (.bool false)], args := [d] }
  | _ => none }
def PlaceOnceWrongFalsely : Prop := placeOnceRow.holds Try.pinned (OpenSpec.ofChange placeOnceWrong)

/-- 'wattlelaw08.PlaceForms': WHATEVER THE INPUT: true; the input reads as it did. -/
def placeFormsSpec : ChangeSpec := { name := "placeForms", fn := fun _ => fun
  | [d] => { results := [.lit (.bool true)], args := [d] }
  | _ => none }
def placeFormsRow : OpenClaim := { program := "ytpdhbdacbiamdaa", sum := "2520644b9885f92f0ed9b94e3a5261ad5b6b3fb2e3051b3bca2d2a4de78d5737", func := "wattle/wattlelaw08.PlaceForms", spec := "placeForms", plainKeys := false, apart := false }
def PlaceFormsSaid : Prop := placeFormsRow.holds Try.pinned (OpenSpec.ofChange placeFormsSpec)

/-- ITS FALSE NEIGHBOUR: 'it returns false'. Refute it at one input. -/
def placeFormsWrong : ChangeSpec := { name := "placeForms", fn := fun _ => fun
  | [d] => { results := [.lit (.bool false)], args := [d] }
  | _ => none }
def PlaceFormsWrongFalsely : Prop := placeFormsRow.holds Try.pinned (OpenSpec.ofChange placeFormsWrong)

/-- 'wattlelaw08.PlaceTells': WHATEVER THE INPUT: true; the input reads as it did. -/
def placeTellsSpec : ChangeSpec := { name := "placeTells", fn := fun _ => fun
  | [d1, d2, d3, d4, d5, d6, d7] => { results := [.lit (.bool true)], args := [d1, d2, d3, d4, d5, d6, d7] }
  | _ => none }
def placeTellsRow : OpenClaim := { program := "ytpdhbdacbiamdaa", sum := "2520644b9885f92f0ed9b94e3a5261ad5b6b3fb2e3051b3bca2d2a4de78d5737", func := "wattle/wattlelaw08.PlaceTells", spec := "placeTells", unfollowed := true, recurses := true, plainKeys := false, apart := false }
def PlaceTellsSaid : Prop := placeTellsRow.holds Try.pinned (OpenSpec.ofChange placeTellsSpec)

/-- ITS FALSE NEIGHBOUR: 'it returns false'. Refute it at one input. -/
def placeTellsWrong : ChangeSpec := { name := "placeTells", fn := fun _ => fun
  | [d1, d2, d3, d4, d5, d6, d7] => { results := [.lit (.bool false)], args := [d1, d2, d3, d4, d5, d6, d7] }
  | _ => none }
def PlaceTellsWrongFalsely : Prop := placeTellsRow.holds Try.pinned (OpenSpec.ofChange placeTellsWrong)

/-- 'wattlelaw08.PlaceRows': WHATEVER THE INPUT: true; the input reads as it did. -/
def placeRowsSpec : ChangeSpec := { name := "placeRows", fn := fun _ => fun
  | [d] => { results := [.lit (.bool true)], args := [d] }
  | _ => none }
def placeRowsRow : OpenClaim := { program := "ytpdhbdacbiamdaa", sum := "2520644b9885f92f0ed9b94e3a5261ad5b6b3fb2e3051b3bca2d2a4de78d5737", func := "wattle/wattlelaw08.PlaceRows", spec := "placeRows", unfollowed := true, recurses := true, plainKeys := false, apart := false }
def PlaceRowsSaid : Prop := placeRowsRow.holds Try.pinned (OpenSpec.ofChange placeRowsSpec)

/-- ITS FALSE NEIGHBOUR: 'it returns false'. Refute it at one input. -/
def placeRowsWrong : ChangeSpec := { name := "placeRows", fn := fun _ => fun
  | [d] => { results := [.lit (.bool false)], args := [d] }
  | _ => none }
def PlaceRowsWrongFalsely : Prop := placeRowsRow.holds Try.pinned (OpenSpec.ofChange placeRowsWrong)

/- THE SECOND FORM. 'bulk': how many values and letters a reading holds, each counted each time it is reached (what is shared counts as often as it is met; a slice's spare places count too). A statement '..UptoSaid' is the law's where the arguments, and the package variables that the reading takes, are together of bulk at most 1048576: NARROWER than '..Said'. Prove '..Said' where nothing that the law and all that it calls make is longer than what came in: it says more and counts as full. Else prove '..UptoSaid'. A law counts once. -/
mutual
def uptoBulk {H : Type} : DataW H → Nat
  | .lit (.string bytes) => bytes.length + 1
  | .lit _ => 1
  | .nil => 1
  | .ptr d => uptoBulk d + 1
  | .slice elems spare => uptoBulkAll elems + uptoBulkAll spare + 1
  | .agg parts => uptoBulkAll parts + 1
  | .iface _ d => uptoBulk d + 1
  | .map entries => uptoBulkEntries entries + 1
  | .held _ => 1
def uptoBulkAll {H : Type} : List (DataW H) → Nat
  | [] => 0
  | d :: r => uptoBulk d + uptoBulkAll r
def uptoBulkEntries {H : Type} : List (Lit × DataW H) → Nat
  | [] => 0
  | x :: r => uptoBulkEntry x + uptoBulkEntries r
def uptoBulkEntry {H : Type} : Lit × DataW H → Nat
  | (.string bytes, d) => bytes.length + uptoBulk d + 1
  | (_, d) => uptoBulk d + 1
 end
def uptoSmall : (H : Type) → List (DataW H) → Bool := fun _ ds => decide (uptoBulkAll ds ≤ 1048576)
def OpenSpec.upto (s : _root_.Go.ChangeSpec) : _root_.Go.OpenSpec := { _root_.Go.OpenSpec.ofChange s with cond := some uptoSmall }

/-- 'wattlelaw07.GeomForms', WHERE WHAT IT READS IS OF BULK AT MOST 1048576: true; the input reads as it did. -/
def geomFormsUptoRow : OpenClaim := { program := "ytpdhbdacbiamdaa", sum := "2520644b9885f92f0ed9b94e3a5261ad5b6b3fb2e3051b3bca2d2a4de78d5737", func := "wattle/wattlelaw07.GeomForms", spec := "geomForms", plainKeys := false, apart := false, narrowed := true }
def GeomFormsUptoSaid : Prop := geomFormsUptoRow.holds Try.pinned (OpenSpec.upto geomFormsSpec)

/-- 'wattlelaw07.GeomTells', WHERE WHAT IT READS IS OF BULK AT MOST 1048576: true; the input reads as it did. -/
def geomTellsUptoRow : OpenClaim := { program := "ytpdhbdacbiamdaa", sum := "2520644b9885f92f0ed9b94e3a5261ad5b6b3fb2e3051b3bca2d2a4de78d5737", func := "wattle/wattlelaw07.GeomTells", spec := "geomTells", unfollowed := true, recurses := true, plainKeys := false, apart := false, narrowed := true }
def GeomTellsUptoSaid : Prop := geomTellsUptoRow.holds Try.pinned (OpenSpec.upto geomTellsSpec)

/-- 'wattlelaw07.GeomLaws', WHERE WHAT IT READS IS OF BULK AT MOST 1048576: true; the input reads as it did. -/
def geomLawsUptoRow : OpenClaim := { program := "ytpdhbdacbiamdaa", sum := "2520644b9885f92f0ed9b94e3a5261ad5b6b3fb2e3051b3bca2d2a4de78d5737", func := "wattle/wattlelaw07.GeomLaws", spec := "geomLaws", unfollowed := true, recurses := true, plainKeys := false, apart := false, narrowed := true }
def GeomLawsUptoSaid : Prop := geomLawsUptoRow.holds Try.pinned (OpenSpec.upto geomLawsSpec)

/-- 'wattlelaw18.PlanCovers', WHERE WHAT IT READS IS OF BULK AT MOST 1048576: true; the input reads as it did. -/
def planCoversUptoRow : OpenClaim := { program := "ytpdhbdacbiamdaa", sum := "2520644b9885f92f0ed9b94e3a5261ad5b6b3fb2e3051b3bca2d2a4de78d5737", func := "wattle/wattlelaw18.PlanCovers", spec := "planCovers", unfollowed := true, recurses := true, plainKeys := false, apart := false, narrowed := true }
def PlanCoversUptoSaid : Prop := planCoversUptoRow.holds Try.pinned (OpenSpec.upto planCoversSpec)

/-- 'wattlelaw08.PlaceTurns', WHERE WHAT IT READS IS OF BULK AT MOST 1048576: true; the input reads as it did. -/
def placeTurnsUptoRow : OpenClaim := { program := "ytpdhbdacbiamdaa", sum := "2520644b9885f92f0ed9b94e3a5261ad5b6b3fb2e3051b3bca2d2a4de78d5737", func := "wattle/wattlelaw08.PlaceTurns", spec := "placeTurns", unfollowed := true, recurses := true, plainKeys := false, apart := false, narrowed := true }
def PlaceTurnsUptoSaid : Prop := placeTurnsUptoRow.holds Try.pinned (OpenSpec.upto placeTurnsSpec)

/-- 'wattlelaw18.PlanForms', WHERE WHAT IT READS IS OF BULK AT MOST 1048576: true; the input reads as it did. -/
def planFormsUptoRow : OpenClaim := { program := "ytpdhbdacbiamdaa", sum := "2520644b9885f92f0ed9b94e3a5261ad5b6b3fb2e3051b3bca2d2a4de78d5737", func := "wattle/wattlelaw18.PlanForms", spec := "planForms", plainKeys := false, apart := false, narrowed := true }
def PlanFormsUptoSaid : Prop := planFormsUptoRow.holds Try.pinned (OpenSpec.upto planFormsSpec)

/-- 'wattlelaw18.PlanRises', WHERE WHAT IT READS IS OF BULK AT MOST 1048576: true; the input reads as it did. -/
def planRisesUptoRow : OpenClaim := { program := "ytpdhbdacbiamdaa", sum := "2520644b9885f92f0ed9b94e3a5261ad5b6b3fb2e3051b3bca2d2a4de78d5737", func := "wattle/wattlelaw18.PlanRises", spec := "planRises", unfollowed := true, recurses := true, plainKeys := false, apart := false, narrowed := true }
def PlanRisesUptoSaid : Prop := planRisesUptoRow.holds Try.pinned (OpenSpec.upto planRisesSpec)

/-- 'wattlelaw18.PlanTells', WHERE WHAT IT READS IS OF BULK AT MOST 1048576: true; the input reads as it did. -/
def planTellsUptoRow : OpenClaim := { program := "ytpdhbdacbiamdaa", sum := "2520644b9885f92f0ed9b94e3a5261ad5b6b3fb2e3051b3bca2d2a4de78d5737", func := "wattle/wattlelaw18.PlanTells", spec := "planTells", unfollowed := true, recurses := true, plainKeys := false, apart := false, narrowed := true }
def PlanTellsUptoSaid : Prop := planTellsUptoRow.holds Try.pinned (OpenSpec.upto planTellsSpec)

/-- 'wattlelaw18.PlanSafe', WHERE WHAT IT READS IS OF BULK AT MOST 1048576: true; the input reads as it did. -/
def planSafeUptoRow : OpenClaim := { program := "ytpdhbdacbiamdaa", sum := "2520644b9885f92f0ed9b94e3a5261ad5b6b3fb2e3051b3bca2d2a4de78d5737", func := "wattle/wattlelaw18.PlanSafe", spec := "planSafe", unfollowed := true, recurses := true, plainKeys := false, apart := false, narrowed := true }
def PlanSafeUptoSaid : Prop := planSafeUptoRow.holds Try.pinned (OpenSpec.upto planSafeSpec)

/-- 'wattlelaw08.PlaceOnce', WHERE WHAT IT READS IS OF BULK AT MOST 1048576: true; the input reads as it did. -/
def placeOnceUptoRow : OpenClaim := { program := "ytpdhbdacbiamdaa", sum := "2520644b9885f92f0ed9b94e3a5261ad5b6b3fb2e3051b3bca2d2a4de78d5737", func := "wattle/wattlelaw08.PlaceOnce", spec := "placeOnce", unfollowed := true, recurses := true, plainKeys := false, apart := false, narrowed := true }
def PlaceOnceUptoSaid : Prop := placeOnceUptoRow.holds Try.pinned (OpenSpec.upto placeOnceSpec)

/-- 'wattlelaw08.PlaceForms', WHERE WHAT IT READS IS OF BULK AT MOST 1048576: true; the input reads as it did. -/
def placeFormsUptoRow : OpenClaim := { program := "ytpdhbdacbiamdaa", sum := "2520644b9885f92f0ed9b94e3a5261ad5b6b3fb2e3051b3bca2d2a4de78d5737", func := "wattle/wattlelaw08.PlaceForms", spec := "placeForms", plainKeys := false, apart := false, narrowed := true }
def PlaceFormsUptoSaid : Prop := placeFormsUptoRow.holds Try.pinned (OpenSpec.upto placeFormsSpec)

/-- 'wattlelaw08.PlaceTells', WHERE WHAT IT READS IS OF BULK AT MOST 1048576: true; the input reads as it did. -/
def placeTellsUptoRow : OpenClaim := { program := "ytpdhbdacbiamdaa", sum := "2520644b9885f92f0ed9b94e3a5261ad5b6b3fb2e3051b3bca2d2a4de78d5737", func := "wattle/wattlelaw08.PlaceTells", spec := "placeTells", unfollowed := true, recurses := true, plainKeys := false, apart := false, narrowed := true }
def PlaceTellsUptoSaid : Prop := placeTellsUptoRow.holds Try.pinned (OpenSpec.upto placeTellsSpec)

/-- 'wattlelaw08.PlaceRows', WHERE WHAT IT READS IS OF BULK AT MOST 1048576: true; the input reads as it did. -/
def placeRowsUptoRow : OpenClaim := { program := "ytpdhbdacbiamdaa", sum := "2520644b9885f92f0ed9b94e3a5261ad5b6b3fb2e3051b3bca2d2a4de78d5737", func := "wattle/wattlelaw08.PlaceRows", spec := "placeRows", unfollowed := true, recurses := true, plainKeys := false, apart := false, narrowed := true }
def PlaceRowsUptoSaid : Prop := placeRowsUptoRow.holds Try.pinned (OpenSpec.upto placeRowsSpec)

end Rows
end Go.Proofs.Ytpdhbdacbiamdaa
