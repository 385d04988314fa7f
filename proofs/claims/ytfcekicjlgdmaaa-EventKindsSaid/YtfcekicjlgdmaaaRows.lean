/-
  No cell of these rows narrows 'for every input' (looked for: loops, veiled, ifaces, maps, wideKeys, modest, calm, conditions, laid).
  DERIVED. THE GIVEN ROWS OF THIS SEAT. 11 by the template 'for every input the law returns true; each argument reads behind the call as it read before'; 0 by the template 'total and deterministic' (their statements: YtfcekicjlgdmaaaTotals.lean).
  GIVEN WITH THE SEED: the statements are not yours to turn. If you find one false, say at which input.
  Laid BY PROGRAM, IN A SANDBOX (cutbox-rows.mjs): the forced cells as the released guide's own fill.sh prints them over the translation 6f3d165a19ed3bec… (all of the seat's roots in one cut). By AI agents, Wed Nov 11 2026. No macro, syntax, notation, axiom, sorry.
-/
import Derived.Test.YtfcekicjlgdmaaaChecked
import GoSem.Claim
import GoSem.ClaimJoined
import GoSem.ClaimMapViews
import Derived.JoinedTies
import Derived.KernelRfl
namespace Go.Proofs.Ytfcekicjlgdmaaa
/- THE CELL 'sum', in the pinned program and in every row, IS THE sha256 OF THE DUMP (.gsa) THAT YtfcekicjlgdmaaaProg.lean LOADS. Nothing in Lean hashes anything: it is a label: what it is worth is what the hold of that sum in a sandbox is worth. -/
noncomputable def Try.pinned : Pinned := { name := "ytfcekicjlgdmaaa", sum := "6f3d165a19ed3becb378e5c38c0b418e44bc05b738e9b1c803f46bd91df42797", checked := Try.checked }
namespace Rows
def none {H : Type} : Left H := { results := [], args := [] }

/-- 'floodgatelaw11.PolicyTells': WHATEVER THE INPUT: true; the input reads as it did. -/
def policyTellsSpec : ChangeSpec := { name := "policyTells", fn := fun _ => fun
  | [d1, d2] => { results := [.lit (.bool true)], args := [d1, d2] }
  | _ => none }
def policyTellsRow : OpenClaim := { program := "ytfcekicjlgdmaaa", sum := "6f3d165a19ed3becb378e5c38c0b418e44bc05b738e9b1c803f46bd91df42797", func := "floodgate/floodgatelaw11.PolicyTells", spec := "policyTells", unfollowed := true, recurses := true, plainKeys := false, apart := false }
def PolicyTellsSaid : Prop := policyTellsRow.holds Try.pinned (OpenSpec.ofChange policyTellsSpec)

/-- ITS FALSE NEIGHBOUR: 'it returns false'. Refute it at one input. -/
def policyTellsWrong : ChangeSpec := { name := "policyTells", fn := fun _ => fun
  | [d1, d2] => { results := [.lit (.bool false)], args := [d1, d2] }
  | _ => none }
def PolicyTellsWrongFalsely : Prop := policyTellsRow.holds Try.pinned (OpenSpec.ofChange policyTellsWrong)

/-- 'floodgatelaw11.PolicyBack': WHATEVER THE INPUT: true; the input reads as it did. -/
def policyBackSpec : ChangeSpec := { name := "policyBack", fn := fun _ => fun
  | [d1, d2, d3] => { results := [.lit (.bool true)], args := [d1, d2, d3] }
  | _ => none }
def policyBackRow : OpenClaim := { program := "ytfcekicjlgdmaaa", sum := "6f3d165a19ed3becb378e5c38c0b418e44bc05b738e9b1c803f46bd91df42797", func := "floodgate/floodgatelaw11.PolicyBack", spec := "policyBack", unfollowed := true, recurses := true, plainKeys := false, apart := false }
def PolicyBackSaid : Prop := policyBackRow.holds Try.pinned (OpenSpec.ofChange policyBackSpec)

/-- ITS FALSE NEIGHBOUR: 'it returns false'. Refute it at one input. -/
def policyBackWrong : ChangeSpec := { name := "policyBack", fn := fun _ => fun
  | [d1, d2, d3] => { results := [.lit (.bool false)], args := [d1, d2, d3] }
  | _ => none }
def PolicyBackWrongFalsely : Prop := policyBackRow.holds Try.pinned (OpenSpec.ofChange policyBackWrong)

/-- 'floodgatelaw11.PolicyNames': WHATEVER THE INPUT: true; the input reads as it did. -/
def policyNamesSpec : ChangeSpec := { name := "policyNames", fn := fun _ => fun
  | [] => { results := [.lit (.bool true)], args := [] }
  | _ => none }
def policyNamesRow : OpenClaim := { program := "ytfcekicjlgdmaaa", sum := "6f3d165a19ed3becb378e5c38c0b418e44bc05b738e9b1c803f46bd91df42797", func := "floodgate/floodgatelaw11.PolicyNames", spec := "policyNames", unfollowed := true, recurses := true, plainKeys := false, apart := false }
def PolicyNamesSaid : Prop := policyNamesRow.holds Try.pinned (OpenSpec.ofChange policyNamesSpec)

/-- ITS FALSE NEIGHBOUR: 'it returns false'. Refute it at one input. -/
def policyNamesWrong : ChangeSpec := { name := "policyNames", fn := fun _ => fun
  | [] => { results := [.lit (.bool false)], args := [] }
  | _ => none }
def PolicyNamesWrongFalsely : Prop := policyNamesRow.holds Try.pinned (OpenSpec.ofChange policyNamesWrong)

/-- 'floodgatelaw11.PolicyAll': WHATEVER THE INPUT: true; the input reads as it did. -/
def policyAllSpec : ChangeSpec := { name := "policyAll", fn := fun _ => fun
  | [d] => { results := [.lit (.bool true)], args := [d] }
  | _ => none }
def policyAllRow : OpenClaim := { program := "ytfcekicjlgdmaaa", sum := "6f3d165a19ed3becb378e5c38c0b418e44bc05b738e9b1c803f46bd91df42797", func := "floodgate/floodgatelaw11.PolicyAll", spec := "policyAll", unfollowed := true, recurses := true, plainKeys := false, apart := false }
def PolicyAllSaid : Prop := policyAllRow.holds Try.pinned (OpenSpec.ofChange policyAllSpec)

/-- ITS FALSE NEIGHBOUR: 'it returns false'. Refute it at one input. -/
def policyAllWrong : ChangeSpec := { name := "policyAll", fn := fun _ => fun
  | [d] => { results := [.lit (.bool false)], args := [d] }
  | _ => none }
def PolicyAllWrongFalsely : Prop := policyAllRow.holds Try.pinned (OpenSpec.ofChange policyAllWrong)

/-- 'floodgatelaw11.PolicyPart': WHATEVER THE INPUT: true; the input reads as it did. -/
def policyPartSpec : ChangeSpec := { name := "policyPart", fn := fun _ => fun
  | [d1, d2] => { results := [.lit (.bool true)], args := [d1, d2] }
  | _ => none }
def policyPartRow : OpenClaim := { program := "ytfcekicjlgdmaaa", sum := "6f3d165a19ed3becb378e5c38c0b418e44bc05b738e9b1c803f46bd91df42797", func := "floodgate/floodgatelaw11.PolicyPart", spec := "policyPart", unfollowed := true, recurses := true, plainKeys := false, apart := false }
def PolicyPartSaid : Prop := policyPartRow.holds Try.pinned (OpenSpec.ofChange policyPartSpec)

/-- ITS FALSE NEIGHBOUR: 'it returns false'. Refute it at one input. -/
def policyPartWrong : ChangeSpec := { name := "policyPart", fn := fun _ => fun
  | [d1, d2] => { results := [.lit (.bool false)], args := [d1, d2] }
  | _ => none }
def PolicyPartWrongFalsely : Prop := policyPartRow.holds Try.pinned (OpenSpec.ofChange policyPartWrong)

/-- 'floodgatelaw12.EventNames': WHATEVER THE INPUT: true; the input reads as it did. -/
def eventNamesSpec : ChangeSpec := { name := "eventNames", fn := fun _ => fun
  | [] => { results := [.lit (.bool true)], args := [] }
  | _ => none }
def eventNamesRow : OpenClaim := { program := "ytfcekicjlgdmaaa", sum := "6f3d165a19ed3becb378e5c38c0b418e44bc05b738e9b1c803f46bd91df42797", func := "floodgate/floodgatelaw12.EventNames", spec := "eventNames", unfollowed := true, recurses := true, plainKeys := false, apart := false }
def EventNamesSaid : Prop := eventNamesRow.holds Try.pinned (OpenSpec.ofChange eventNamesSpec)

/-- ITS FALSE NEIGHBOUR: 'it returns false'. Refute it at one input. -/
def eventNamesWrong : ChangeSpec := { name := "eventNames", fn := fun _ => fun
  | [] => { results := [.lit (.bool false)], args := [] }
  | _ => none }
def EventNamesWrongFalsely : Prop := eventNamesRow.holds Try.pinned (OpenSpec.ofChange eventNamesWrong)

/-- 'floodgatelaw12.EventTells': WHATEVER THE INPUT: true; the input reads as it did. -/
def eventTellsSpec : ChangeSpec := { name := "eventTells", fn := fun _ => fun
  | [d1, d2] => { results := [.lit (.bool true)], args := [d1, d2] }
  | _ => none }
def eventTellsRow : OpenClaim := { program := "ytfcekicjlgdmaaa", sum := "6f3d165a19ed3becb378e5c38c0b418e44bc05b738e9b1c803f46bd91df42797", func := "floodgate/floodgatelaw12.EventTells", spec := "eventTells", unfollowed := true, recurses := true, plainKeys := false, apart := false }
def EventTellsSaid : Prop := eventTellsRow.holds Try.pinned (OpenSpec.ofChange eventTellsSpec)

/-- ITS FALSE NEIGHBOUR: 'it returns false'. Refute it at one input. -/
def eventTellsWrong : ChangeSpec := { name := "eventTells", fn := fun _ => fun
  | [d1, d2] => { results := [.lit (.bool false)], args := [d1, d2] }
  | _ => none }
def EventTellsWrongFalsely : Prop := eventTellsRow.holds Try.pinned (OpenSpec.ofChange eventTellsWrong)

/-- 'floodgatelaw12.EventReads': WHATEVER THE INPUT: true; the input reads as it did. -/
def eventReadsSpec : ChangeSpec := { name := "eventReads", fn := fun _ => fun
  | [d] => { results := [.lit (.bool true)], args := [d] }
  | _ => none }
def eventReadsRow : OpenClaim := { program := "ytfcekicjlgdmaaa", sum := "6f3d165a19ed3becb378e5c38c0b418e44bc05b738e9b1c803f46bd91df42797", func := "floodgate/floodgatelaw12.EventReads", spec := "eventReads", unfollowed := true, recurses := true, plainKeys := false, apart := false }
def EventReadsSaid : Prop := eventReadsRow.holds Try.pinned (OpenSpec.ofChange eventReadsSpec)

/-- ITS FALSE NEIGHBOUR: 'it returns false'. Refute it at one input. -/
def eventReadsWrong : ChangeSpec := { name := "eventReads", fn := fun _ => fun
  | [d] => { results := [.lit (.bool false)], args := [d] }
  | _ => none }
def EventReadsWrongFalsely : Prop := eventReadsRow.holds Try.pinned (OpenSpec.ofChange eventReadsWrong)

/-- 'floodgatelaw12.EventBack': WHATEVER THE INPUT: true; the input reads as it did. -/
def eventBackSpec : ChangeSpec := { name := "eventBack", fn := fun _ => fun
  | [d1, d2] => { results := [.lit (.bool true)], args := [d1, d2] }
  | _ => none }
def eventBackRow : OpenClaim := { program := "ytfcekicjlgdmaaa", sum := "6f3d165a19ed3becb378e5c38c0b418e44bc05b738e9b1c803f46bd91df42797", func := "floodgate/floodgatelaw12.EventBack", spec := "eventBack", unfollowed := true, recurses := true, plainKeys := false, apart := false }
def EventBackSaid : Prop := eventBackRow.holds Try.pinned (OpenSpec.ofChange eventBackSpec)

/-- ITS FALSE NEIGHBOUR: 'it returns false'. Refute it at one input. -/
def eventBackWrong : ChangeSpec := { name := "eventBack", fn := fun _ => fun
  | [d1, d2] => { results := [.lit (.bool false)], args := [d1, d2] }
  | _ => none }
def EventBackWrongFalsely : Prop := eventBackRow.holds Try.pinned (OpenSpec.ofChange eventBackWrong)

/-- 'floodgatelaw12.EventApart': WHATEVER THE INPUT: true; the input reads as it did. -/
def eventApartSpec : ChangeSpec := { name := "eventApart", fn := fun _ => fun
  | [d1, d2] => { results := [.lit (.bool true)], args := [d1, d2] }
  | _ => none }
def eventApartRow : OpenClaim := { program := "ytfcekicjlgdmaaa", sum := "6f3d165a19ed3becb378e5c38c0b418e44bc05b738e9b1c803f46bd91df42797", func := "floodgate/floodgatelaw12.EventApart", spec := "eventApart", unfollowed := true, recurses := true, plainKeys := false, apart := false }
def EventApartSaid : Prop := eventApartRow.holds Try.pinned (OpenSpec.ofChange eventApartSpec)

/-- ITS FALSE NEIGHBOUR: 'it returns false'. Refute it at one input. -/
def eventApartWrong : ChangeSpec := { name := "eventApart", fn := fun _ => fun
  | [d1, d2] => { results := [.lit (.bool false)], args := [d1, d2] }
  | _ => none }
def EventApartWrongFalsely : Prop := eventApartRow.holds Try.pinned (OpenSpec.ofChange eventApartWrong)

/-- 'floodgatelaw12.EventKinds': WHATEVER THE INPUT: true; the input reads as it did. -/
def eventKindsSpec : ChangeSpec := { name := "eventKinds", fn := fun _ => fun
  | [d1, d2] => { results := [.lit (.bool true)], args := [d1, d2] }
  | _ => none }
def eventKindsRow : OpenClaim := { program := "ytfcekicjlgdmaaa", sum := "6f3d165a19ed3becb378e5c38c0b418e44bc05b738e9b1c803f46bd91df42797", func := "floodgate/floodgatelaw12.EventKinds", spec := "eventKinds", unfollowed := true, recurses := true, plainKeys := false, apart := false }
def EventKindsSaid : Prop := eventKindsRow.holds Try.pinned (OpenSpec.ofChange eventKindsSpec)

/-- ITS FALSE NEIGHBOUR: 'it returns false'. Refute it at one input. -/
def eventKindsWrong : ChangeSpec := { name := "eventKinds", fn := fun _ => fun
  | [d1, d2] => { results := [.lit (.bool false)], args := [d1, d2] }
  | _ => none }
def EventKindsWrongFalsely : Prop := eventKindsRow.holds Try.pinned (OpenSpec.ofChange eventKindsWrong)

/- THE SECOND FORM. 'bulk': how many values and letters a reading holds, each counted each time it is reached (what is shared counts as often as it is met; a slice's spare places count too). A statement '..UptoSaid' is the law's where the arguments, and the package variables that the reading takes, are together of bulk at most 1048576: NARROWER than '..Said'. Prove '..Said' where nothing that the law and all that it calls make is longer than what came in: it says more and counts as full. Else prove '..UptoSaid'. A law counts once. -/
mutual
def uptoBulk {H : Type} : DataW H → Nat
  | .lit (.string bytes) => bytes.length + 1
  | .lit _ => 1
  | .nil => 1
  | .ptr d => uptoBulk d + 1
  | .slice elems spare => uptoBulkAll elems + uptoBulkAll spare + 1
  | .agg parts => uptoBulkAll parts + 1
  | .iface _ d => uptoBulk d + 1
  | .map entries => uptoBulkEntries entries + 1
  | .held _ => 1
def uptoBulkAll {H : Type} : List (DataW H) → Nat
  | [] => 0
  | d :: r => uptoBulk d + uptoBulkAll r
def uptoBulkEntries {H : Type} : List (Lit × DataW H) → Nat
  | [] => 0
  | x :: r => uptoBulkEntry x + uptoBulkEntries r
def uptoBulkEntry {H : Type} : Lit × DataW H → Nat
  | (.string bytes, d) => bytes.length + uptoBulk d + 1
  | (_, d) => uptoBulk d + 1
 end
def uptoSmall : (H : Type) → List (DataW H) → Bool := fun _ ds => decide (uptoBulkAll ds ≤ 1048576)
def OpenSpec.upto (s : _root_.Go.ChangeSpec) : _root_.Go.OpenSpec := { _root_.Go.OpenSpec.ofChange s with cond := some uptoSmall }

/-- 'floodgatelaw11.PolicyTells', WHERE WHAT IT READS IS OF BULK AT MOST 1048576: true; the input reads as it did. -/
def policyTellsUptoRow : OpenClaim := { program := "ytfcekicjlgdmaaa", sum := "6f3d165a19ed3becb378e5c38c0b418e44bc05b738e9b1c803f46bd91df42797", func := "floodgate/floodgatelaw11.PolicyTells", spec := "policyTells", unfollowed := true, recurses := true, plainKeys := false, apart := false, narrowed := true }
def PolicyTellsUptoSaid : Prop := policyTellsUptoRow.holds Try.pinned (OpenSpec.upto policyTellsSpec)

/-- 'floodgatelaw11.PolicyBack', WHERE WHAT IT READS IS OF BULK AT MOST 1048576: true; the input reads as it did. -/
def policyBackUptoRow : OpenClaim := { program := "ytfcekicjlgdmaaa", sum := "6f3d165a19ed3becb378e5c38c0b418e44bc05b738e9b1c803f46bd91df42797", func := "floodgate/floodgatelaw11.PolicyBack", spec := "policyBack", unfollowed := true, recurses := true, plainKeys := false, apart := false, narrowed := true }
def PolicyBackUptoSaid : Prop := policyBackUptoRow.holds Try.pinned (OpenSpec.upto policyBackSpec)

/-- 'floodgatelaw11.PolicyNames', WHERE WHAT IT READS IS OF BULK AT MOST 1048576: true; the input reads as it did. -/
def policyNamesUptoRow : OpenClaim := { program := "ytfcekicjlgdmaaa", sum := "6f3d165a19ed3becb378e5c38c0b418e44bc05b738e9b1c803f46bd91df42797", func := "floodgate/floodgatelaw11.PolicyNames", spec := "policyNames", unfollowed := true, recurses := true, plainKeys := false, apart := false, narrowed := true }
def PolicyNamesUptoSaid : Prop := policyNamesUptoRow.holds Try.pinned (OpenSpec.upto policyNamesSpec)

/-- 'floodgatelaw11.PolicyAll', WHERE WHAT IT READS IS OF BULK AT MOST 1048576: true; the input reads as it did. -/
def policyAllUptoRow : OpenClaim := { program := "ytfcekicjlgdmaaa", sum := "6f3d165a19ed3becb378e5c38c0b418e44bc05b738e9b1c803f46bd91df42797", func := "floodgate/floodgatelaw11.PolicyAll", spec := "policyAll", unfollowed := true, recurses := true, plainKeys := false, apart := false, narrowed := true }
def PolicyAllUptoSaid : Prop := policyAllUptoRow.holds Try.pinned (OpenSpec.upto policyAllSpec)

/-- 'floodgatelaw11.PolicyPart', WHERE WHAT IT READS IS OF BULK AT MOST 1048576: true; the input reads as it did. -/
def policyPartUptoRow : OpenClaim := { program := "ytfcekicjlgdmaaa", sum := "6f3d165a19ed3becb378e5c38c0b418e44bc05b738e9b1c803f46bd91df42797", func := "floodgate/floodgatelaw11.PolicyPart", spec := "policyPart", unfollowed := true, recurses := true, plainKeys := false, apart := false, narrowed := true }
def PolicyPartUptoSaid : Prop := policyPartUptoRow.holds Try.pinned (OpenSpec.upto policyPartSpec)

/-- 'floodgatelaw12.EventNames', WHERE WHAT IT READS IS OF BULK AT MOST 1048576: true; the input reads as it did. -/
def eventNamesUptoRow : OpenClaim := { program := "ytfcekicjlgdmaaa", sum := "6f3d165a19ed3becb378e5c38c0b418e44bc05b738e9b1c803f46bd91df42797", func := "floodgate/floodgatelaw12.EventNames", spec := "eventNames", unfollowed := true, recurses := true, plainKeys := false, apart := false, narrowed := true }
def EventNamesUptoSaid : Prop := eventNamesUptoRow.holds Try.pinned (OpenSpec.upto eventNamesSpec)

/-- 'floodgatelaw12.EventTells', WHERE WHAT IT READS IS OF BULK AT MOST 1048576: true; the input reads as it did. -/
def eventTellsUptoRow : OpenClaim := { program := "ytfcekicjlgdmaaa", sum := "6f3d165a19ed3becb378e5c38c0b418e44bc05b738e9b1c803f46bd91df42797", func := "floodgate/floodgatelaw12.EventTells", spec := "eventTells", unfollowed := true, recurses := true, plainKeys := false, apart := false, narrowed := true }
def EventTellsUptoSaid : Prop := eventTellsUptoRow.holds Try.pinned (OpenSpec.upto eventTellsSpec)

/-- 'floodgatelaw12.EventReads', WHERE WHAT IT READS IS OF BULK AT MOST 1048576: true; the input reads as it did. -/
def eventReadsUptoRow : OpenClaim := { program := "ytfcekicjlgdmaaa", sum := "6f3d165a19ed3becb378e5c38c0b418e44bc05b738e9b1c803f46bd91df42797", func := "floodgate/floodgatelaw12.EventReads", spec := "eventReads", unfollowed := true, recurses := true, plainKeys := false, apart := false, narrowed := true }
def EventReadsUptoSaid : Prop := eventReadsUptoRow.holds Try.pinned (OpenSpec.upto eventReadsSpec)

/-- 'floodgatelaw12.EventBack', WHERE WHAT IT READS IS OF BULK AT MOST 1048576: true; the input reads as it did. -/
def eventBackUptoRow : OpenClaim := { program := "ytfcekicjlgdmaaa", sum := "6f3d165a19ed3becb378e5c38c0b418e44bc05b738e9b1c803f46bd91df42797", func := "floodgate/floodgatelaw12.EventBack", spec := "eventBack", unfollowed := true, recurses := true, plainKeys := false, apart := false, narrowed := true }
def EventBackUptoSaid : Prop := eventBackUptoRow.holds Try.pinned (OpenSpec.upto eventBackSpec)

/-- 'floodgatelaw12.EventApart', WHERE WHAT IT READS IS OF BULK AT MOST 1048576: true; the input reads as it did. -/
def eventApartUptoRow : OpenClaim := { program := "ytfcekicjlgdmaaa", sum := "6f3d165a19ed3becb378e5c38c0b418e44bc05b738e9b1c803f46bd91df42797", func := "floodgate/floodgatelaw12.EventApart", spec := "eventApart", unfollowed := true, recurses := true, plainKeys := false, apart := false, narrowed := true }
def EventApartUptoSaid : Prop := eventApartUptoRow.holds Try.pinned (OpenSpec.upto eventApartSpec)

/-- 'floodgatelaw12.EventKinds', WHERE WHAT IT READS IS OF BULK AT MOST 1048576: true; the input reads as it did. -/
def eventKindsUptoRow : OpenClaim := { program := "ytfcekicjlgdmaaa", sum := "6f3d165a19ed3becb378e5c38c0b418e44bc05b738e9b1c803f46bd91df42797", func := "floodgate/floodgatelaw12.EventKinds", spec := "eventKinds", unfollowed := true, recurses := true, plainKeys := false, apart := false, narrowed := true }
def EventKindsUptoSaid : Prop := eventKindsUptoRow.holds Try.pinned (OpenSpec.upto eventKindsSpec)

end Rows
end Go.Proofs.Ytfcekicjlgdmaaa
