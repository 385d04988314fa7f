/-
  No cell of these rows narrows 'for every input' (looked for: loops, veiled, ifaces, maps, wideKeys, modest, calm, conditions, laid).
  DERIVED. THE GIVEN ROWS OF THIS SEAT. 12 by the template 'for every input the law returns true; each argument reads behind the call as it read before'; 0 by the template 'total and deterministic' (their statements: YtbhhckeccpodmaaTotals.lean).
  GIVEN WITH THE SEED: the statements are not yours to turn. If you find one false, say at which input.
  Laid BY PROGRAM, IN A SANDBOX (cutbox-rows.mjs): the forced cells as the released guide's own fill.sh prints them over the translation c3cee0d3aa76dd69… (all of the seat's roots in one cut). By AI agents, Wed Nov 11 2026. No macro, syntax, notation, axiom, sorry.
-/
import Derived.Test.YtbhhckeccpodmaaChecked
import GoSem.Claim
import GoSem.ClaimJoined
import GoSem.ClaimMapViews
import Derived.JoinedTies
import Derived.KernelRfl
namespace Go.Proofs.Ytbhhckeccpodmaa
/- THE CELL 'sum', in the pinned program and in every row, IS THE sha256 OF THE DUMP (.gsa) THAT YtbhhckeccpodmaaProg.lean LOADS. Nothing in Lean hashes anything: it is a label: what it is worth is what the hold of that sum in a sandbox is worth. -/
noncomputable def Try.pinned : Pinned := { name := "ytbhhckeccpodmaa", sum := "c3cee0d3aa76dd69b5a13355717540baaf55d37ec819963a62f5aef8468f4b39", checked := Try.checked }
namespace Rows
def none {H : Type} : Left H := { results := [], args := [] }

/-- 'floodgatelaw02.LebNames': WHATEVER THE INPUT: true; the input reads as it did. -/
def lebNamesSpec : ChangeSpec := { name := "lebNames", fn := fun _ => fun
  | [] => { results := [.lit (.bool true)], args := [] }
  | _ => none }
def lebNamesRow : OpenClaim := { program := "ytbhhckeccpodmaa", sum := "c3cee0d3aa76dd69b5a13355717540baaf55d37ec819963a62f5aef8468f4b39", func := "floodgate/floodgatelaw02.LebNames", spec := "lebNames", apart := false }
def LebNamesSaid : Prop := lebNamesRow.holds Try.pinned (OpenSpec.ofChange lebNamesSpec)

/-- ITS FALSE NEIGHBOUR: 'it returns false'. Refute it at one input. -/
def lebNamesWrong : ChangeSpec := { name := "lebNames", fn := fun _ => fun
  | [] => { results := [.lit (.bool false)], args := [] }
  | _ => none }
def LebNamesWrongFalsely : Prop := lebNamesRow.holds Try.pinned (OpenSpec.ofChange lebNamesWrong)

/-- 'floodgatelaw02.LebPuts': WHATEVER THE INPUT: true; the input reads as it did. -/
def lebPutsSpec : ChangeSpec := { name := "lebPuts", fn := fun _ => fun
  | [d1, d2] => { results := [.lit (.bool true)], args := [d1, d2] }
  | _ => none }
def lebPutsRow : OpenClaim := { program := "ytbhhckeccpodmaa", sum := "c3cee0d3aa76dd69b5a13355717540baaf55d37ec819963a62f5aef8468f4b39", func := "floodgate/floodgatelaw02.LebPuts", spec := "lebPuts", recurses := true, apart := false }
def LebPutsSaid : Prop := lebPutsRow.holds Try.pinned (OpenSpec.ofChange lebPutsSpec)

/-- ITS FALSE NEIGHBOUR: 'it returns false'. Refute it at one input. -/
def lebPutsWrong : ChangeSpec := { name := "lebPuts", fn := fun _ => fun
  | [d1, d2] => { results := [.lit (.bool false)], args := [d1, d2] }
  | _ => none }
def LebPutsWrongFalsely : Prop := lebPutsRow.holds Try.pinned (OpenSpec.ofChange lebPutsWrong)

/-- 'floodgatelaw02.LebZigs': WHATEVER THE INPUT: true; the input reads as it did. -/
def lebZigsSpec : ChangeSpec := { name := "lebZigs", fn := fun _ => fun
  | [d1, d2] => { results := [.lit (.bool true)], args := [d1, d2] }
  | _ => none }
def lebZigsRow : OpenClaim := { program := "ytbhhckeccpodmaa", sum := "c3cee0d3aa76dd69b5a13355717540baaf55d37ec819963a62f5aef8468f4b39", func := "floodgate/floodgatelaw02.LebZigs", spec := "lebZigs", apart := false }
def LebZigsSaid : Prop := lebZigsRow.holds Try.pinned (OpenSpec.ofChange lebZigsSpec)

/-- ITS FALSE NEIGHBOUR: 'it returns false'. Refute it at one input. -/
def lebZigsWrong : ChangeSpec := { name := "lebZigs", fn := fun _ => fun
  | [d1, d2] => { results := [.lit (.bool false)], args := [d1, d2] }
  | _ => none }
def LebZigsWrongFalsely : Prop := lebZigsRow.holds Try.pinned (OpenSpec.ofChange lebZigsWrong)

/-- 'floodgatelaw02.LebApart': WHATEVER THE INPUT: true; the input reads as it did. -/
def lebApartSpec : ChangeSpec := { name := "lebApart", fn := fun _ => fun
  | [d1, d2] => { results := [.lit (.bool true)], args := [d1, d2] }
  | _ => none }
def lebApartRow : OpenClaim := { program := "ytbhhckeccpodmaa", sum := "c3cee0d3aa76dd69b5a13355717540baaf55d37ec819963a62f5aef8468f4b39", func := "floodgate/floodgatelaw02.LebApart", spec := "lebApart", apart := false }
def LebApartSaid : Prop := lebApartRow.holds Try.pinned (OpenSpec.ofChange lebApartSpec)

/-- ITS FALSE NEIGHBOUR: 'it returns false'. Refute it at one input. -/
def lebApartWrong : ChangeSpec := { name := "lebApart", fn := fun _ => fun
  | [d1, d2] => { results := [.lit (.bool false)], args := [d1, d2] }
  | _ => none }
def LebApartWrongFalsely : Prop := lebApartRow.holds Try.pinned (OpenSpec.ofChange lebApartWrong)

/-- 'floodgatelaw02.LebSizes': WHATEVER THE INPUT: true; the input reads as it did. -/
def lebSizesSpec : ChangeSpec := { name := "lebSizes", fn := fun _ => fun
  | [d1, d2] => { results := [.lit (.bool true)], args := [d1, d2] }
  | _ => none }
def lebSizesRow : OpenClaim := { program := "ytbhhckeccpodmaa", sum := "c3cee0d3aa76dd69b5a13355717540baaf55d37ec819963a62f5aef8468f4b39", func := "floodgate/floodgatelaw02.LebSizes", spec := "lebSizes", apart := false }
def LebSizesSaid : Prop := lebSizesRow.holds Try.pinned (OpenSpec.ofChange lebSizesSpec)

/-- ITS FALSE NEIGHBOUR: 'it returns false'. Refute it at one input. -/
def lebSizesWrong : ChangeSpec := { name := "lebSizes", fn := fun _ => fun
  | [d1, d2] => { results := [.lit (.bool false)], args := [d1, d2] }
  | _ => none }
def LebSizesWrongFalsely : Prop := lebSizesRow.holds Try.pinned (OpenSpec.ofChange lebSizesWrong)

/-- 'floodgatelaw17.BucketEnds': WHATEVER THE INPUT: true; the input reads as it did. -/
def bucketEndsSpec : ChangeSpec := { name := "bucketEnds", fn := fun _ => fun
  | [] => { results := [.lit (.bool true)], args := [] }
  | _ => none }
def bucketEndsRow : OpenClaim := { program := "ytbhhckeccpodmaa", sum := "c3cee0d3aa76dd69b5a13355717540baaf55d37ec819963a62f5aef8468f4b39", func := "floodgate/floodgatelaw17.BucketEnds", spec := "bucketEnds", inPlace := ["math/bits.Add64"], apart := false }
def BucketEndsSaid : Prop := bucketEndsRow.holds Try.pinned (OpenSpec.ofChange bucketEndsSpec)

/-- ITS FALSE NEIGHBOUR: 'it returns false'. Refute it at one input. -/
def bucketEndsWrong : ChangeSpec := { name := "bucketEnds", fn := fun _ => fun
  | [] => { results := [.lit (.bool false)], args := [] }
  | _ => none }
def BucketEndsWrongFalsely : Prop := bucketEndsRow.holds Try.pinned (OpenSpec.ofChange bucketEndsWrong)

/-- 'floodgatelaw17.BucketBound': WHATEVER THE INPUT: true; the input reads as it did. -/
def bucketBoundSpec : ChangeSpec := { name := "bucketBound", fn := fun _ => fun
  | [d1, d2, d3] => { results := [.lit (.bool true)], args := [d1, d2, d3] }
  | _ => none }
def bucketBoundRow : OpenClaim := { program := "ytbhhckeccpodmaa", sum := "c3cee0d3aa76dd69b5a13355717540baaf55d37ec819963a62f5aef8468f4b39", func := "floodgate/floodgatelaw17.BucketBound", spec := "bucketBound", inPlace := ["math/bits.Add64"], apart := false }
def BucketBoundSaid : Prop := bucketBoundRow.holds Try.pinned (OpenSpec.ofChange bucketBoundSpec)

/-- ITS FALSE NEIGHBOUR: 'it returns false'. Refute it at one input. -/
def bucketBoundWrong : ChangeSpec := { name := "bucketBound", fn := fun _ => fun
  | [d1, d2, d3] => { results := [.lit (.bool false)], args := [d1, d2, d3] }
  | _ => none }
def BucketBoundWrongFalsely : Prop := bucketBoundRow.holds Try.pinned (OpenSpec.ofChange bucketBoundWrong)

/-- 'floodgatelaw17.BucketWait': WHATEVER THE INPUT: true; the input reads as it did. -/
def bucketWaitSpec : ChangeSpec := { name := "bucketWait", fn := fun _ => fun
  | [d1, d2, d3] => { results := [.lit (.bool true)], args := [d1, d2, d3] }
  | _ => none }
def bucketWaitRow : OpenClaim := { program := "ytbhhckeccpodmaa", sum := "c3cee0d3aa76dd69b5a13355717540baaf55d37ec819963a62f5aef8468f4b39", func := "floodgate/floodgatelaw17.BucketWait", spec := "bucketWait", inPlace := ["math/bits.Add64"], apart := false }
def BucketWaitSaid : Prop := bucketWaitRow.holds Try.pinned (OpenSpec.ofChange bucketWaitSpec)

/-- ITS FALSE NEIGHBOUR: 'it returns false'. Refute it at one input. -/
def bucketWaitWrong : ChangeSpec := { name := "bucketWait", fn := fun _ => fun
  | [d1, d2, d3] => { results := [.lit (.bool false)], args := [d1, d2, d3] }
  | _ => none }
def BucketWaitWrongFalsely : Prop := bucketWaitRow.holds Try.pinned (OpenSpec.ofChange bucketWaitWrong)

/-- 'floodgatelaw17.BucketMore': WHATEVER THE INPUT: true; the input reads as it did. -/
def bucketMoreSpec : ChangeSpec := { name := "bucketMore", fn := fun _ => fun
  | [d1, d2, d3] => { results := [.lit (.bool true)], args := [d1, d2, d3] }
  | _ => none }
def bucketMoreRow : OpenClaim := { program := "ytbhhckeccpodmaa", sum := "c3cee0d3aa76dd69b5a13355717540baaf55d37ec819963a62f5aef8468f4b39", func := "floodgate/floodgatelaw17.BucketMore", spec := "bucketMore", inPlace := ["math/bits.Add64"], apart := false }
def BucketMoreSaid : Prop := bucketMoreRow.holds Try.pinned (OpenSpec.ofChange bucketMoreSpec)

/-- ITS FALSE NEIGHBOUR: 'it returns false'. Refute it at one input. -/
def bucketMoreWrong : ChangeSpec := { name := "bucketMore", fn := fun _ => fun
  | [d1, d2, d3] => { results := [.lit (.bool false)], args := [d1, d2, d3] }
  | _ => none }
def BucketMoreWrongFalsely : Prop := bucketMoreRow.holds Try.pinned (OpenSpec.ofChange bucketMoreWrong)

/-- 'floodgatelaw17.BucketRuns': WHATEVER THE INPUT: true; the input reads as it did. -/
def bucketRunsSpec : ChangeSpec := { name := "bucketRuns", fn := fun _ => fun
  | [d1, d2, d3] => { results := [.lit (.bool true)], args := [d1, d2, d3] }
  | _ => none }
def bucketRunsRow : OpenClaim := { program := "ytbhhckeccpodmaa", sum := "c3cee0d3aa76dd69b5a13355717540baaf55d37ec819963a62f5aef8468f4b39", func := "floodgate/floodgatelaw17.BucketRuns", spec := "bucketRuns", inPlace := ["math/bits.Add64"], apart := false }
def BucketRunsSaid : Prop := bucketRunsRow.holds Try.pinned (OpenSpec.ofChange bucketRunsSpec)

/-- ITS FALSE NEIGHBOUR: 'it returns false'. Refute it at one input. -/
def bucketRunsWrong : ChangeSpec := { name := "bucketRuns", fn := fun _ => fun
  | [d1, d2, d3] => { results := [.lit (.bool false)], args := [d1, d2, d3] }
  | _ => none }
def BucketRunsWrongFalsely : Prop := bucketRunsRow.holds Try.pinned (OpenSpec.ofChange bucketRunsWrong)

/-- 'floodgatelaw02.LebLists': WHATEVER THE INPUT: true; the input reads as it did. -/
def lebListsSpec : ChangeSpec := { name := "lebLists", fn := fun _ => fun
  | [d1, d2] => { results := [.lit (.bool true)], args := [d1, d2] }
  | _ => none }
def lebListsRow : OpenClaim := { program := "ytbhhckeccpodmaa", sum := "c3cee0d3aa76dd69b5a13355717540baaf55d37ec819963a62f5aef8468f4b39", func := "floodgate/floodgatelaw02.LebLists", spec := "lebLists", recurses := true, apart := false }
def LebListsSaid : Prop := lebListsRow.holds Try.pinned (OpenSpec.ofChange lebListsSpec)

/-- ITS FALSE NEIGHBOUR: 'it returns false'. Refute it at one input. -/
def lebListsWrong : ChangeSpec := { name := "lebLists", fn := fun _ => fun
  | [d1, d2] => { results := [.lit (.bool false)], args := [d1, d2] }
  | _ => none }
def LebListsWrongFalsely : Prop := lebListsRow.holds Try.pinned (OpenSpec.ofChange lebListsWrong)

/-- 'floodgatelaw02.LebBack': WHATEVER THE INPUT: true; the input reads as it did. -/
def lebBackSpec : ChangeSpec := { name := "lebBack", fn := fun _ => fun
  | [d1, d2] => { results := [.lit (.bool true)], args := [d1, d2] }
  | _ => none }
def lebBackRow : OpenClaim := { program := "ytbhhckeccpodmaa", sum := "c3cee0d3aa76dd69b5a13355717540baaf55d37ec819963a62f5aef8468f4b39", func := "floodgate/floodgatelaw02.LebBack", spec := "lebBack", apart := false }
def LebBackSaid : Prop := lebBackRow.holds Try.pinned (OpenSpec.ofChange lebBackSpec)

/-- ITS FALSE NEIGHBOUR: 'it returns false'. Refute it at one input. -/
def lebBackWrong : ChangeSpec := { name := "lebBack", fn := fun _ => fun
  | [d1, d2] => { results := [.lit (.bool false)], args := [d1, d2] }
  | _ => none }
def LebBackWrongFalsely : Prop := lebBackRow.holds Try.pinned (OpenSpec.ofChange lebBackWrong)

/- THE SECOND FORM. 'bulk': how many values and letters a reading holds, each counted each time it is reached (what is shared counts as often as it is met; a slice's spare places count too). A statement '..UptoSaid' is the law's where the arguments, and the package variables that the reading takes, are together of bulk at most 1048576: NARROWER than '..Said'. Prove '..Said' where nothing that the law and all that it calls make is longer than what came in: it says more and counts as full. Else prove '..UptoSaid'. A law counts once. -/
mutual
def uptoBulk {H : Type} : DataW H → Nat
  | .lit (.string bytes) => bytes.length + 1
  | .lit _ => 1
  | .nil => 1
  | .ptr d => uptoBulk d + 1
  | .slice elems spare => uptoBulkAll elems + uptoBulkAll spare + 1
  | .agg parts => uptoBulkAll parts + 1
  | .iface _ d => uptoBulk d + 1
  | .map entries => uptoBulkEntries entries + 1
  | .held _ => 1
def uptoBulkAll {H : Type} : List (DataW H) → Nat
  | [] => 0
  | d :: r => uptoBulk d + uptoBulkAll r
def uptoBulkEntries {H : Type} : List (Lit × DataW H) → Nat
  | [] => 0
  | x :: r => uptoBulkEntry x + uptoBulkEntries r
def uptoBulkEntry {H : Type} : Lit × DataW H → Nat
  | (.string bytes, d) => bytes.length + uptoBulk d + 1
  | (_, d) => uptoBulk d + 1
 end
def uptoSmall : (H : Type) → List (DataW H) → Bool := fun _ ds => decide (uptoBulkAll ds ≤ 1048576)
def OpenSpec.upto (s : _root_.Go.ChangeSpec) : _root_.Go.OpenSpec := { _root_.Go.OpenSpec.ofChange s with cond := some uptoSmall }

/-- 'floodgatelaw02.LebNames', WHERE WHAT IT READS IS OF BULK AT MOST 1048576: true; the input reads as it did. -/
def lebNamesUptoRow : OpenClaim := { program := "ytbhhckeccpodmaa", sum := "c3cee0d3aa76dd69b5a13355717540baaf55d37ec819963a62f5aef8468f4b39", func := "floodgate/floodgatelaw02.LebNames", spec := "lebNames", apart := false, narrowed := true }
def LebNamesUptoSaid : Prop := lebNamesUptoRow.holds Try.pinned (OpenSpec.upto lebNamesSpec)

/-- 'floodgatelaw02.LebPuts', WHERE WHAT IT READS IS OF BULK AT MOST 1048576: true; the input reads as it did. -/
def lebPutsUptoRow : OpenClaim := { program := "ytbhhckeccpodmaa", sum := "c3cee0d3aa76dd69b5a13355717540baaf55d37ec819963a62f5aef8468f4b39", func := "floodgate/floodgatelaw02.LebPuts", spec := "lebPuts", recurses := true, apart := false, narrowed := true }
def LebPutsUptoSaid : Prop := lebPutsUptoRow.holds Try.pinned (OpenSpec.upto lebPutsSpec)

/-- 'floodgatelaw02.LebZigs', WHERE WHAT IT READS IS OF BULK AT MOST 1048576: true; the input reads as it did. -/
def lebZigsUptoRow : OpenClaim := { program := "ytbhhckeccpodmaa", sum := "c3cee0d3aa76dd69b5a13355717540baaf55d37ec819963a62f5aef8468f4b39", func := "floodgate/floodgatelaw02.LebZigs", spec := "lebZigs", apart := false, narrowed := true }
def LebZigsUptoSaid : Prop := lebZigsUptoRow.holds Try.pinned (OpenSpec.upto lebZigsSpec)

/-- 'floodgatelaw02.LebApart', WHERE WHAT IT READS IS OF BULK AT MOST 1048576: true; the input reads as it did. -/
def lebApartUptoRow : OpenClaim := { program := "ytbhhckeccpodmaa", sum := "c3cee0d3aa76dd69b5a13355717540baaf55d37ec819963a62f5aef8468f4b39", func := "floodgate/floodgatelaw02.LebApart", spec := "lebApart", apart := false, narrowed := true }
def LebApartUptoSaid : Prop := lebApartUptoRow.holds Try.pinned (OpenSpec.upto lebApartSpec)

/-- 'floodgatelaw02.LebSizes', WHERE WHAT IT READS IS OF BULK AT MOST 1048576: true; the input reads as it did. -/
def lebSizesUptoRow : OpenClaim := { program := "ytbhhckeccpodmaa", sum := "c3cee0d3aa76dd69b5a13355717540baaf55d37ec819963a62f5aef8468f4b39", func := "floodgate/floodgatelaw02.LebSizes", spec := "lebSizes", apart := false, narrowed := true }
def LebSizesUptoSaid : Prop := lebSizesUptoRow.holds Try.pinned (OpenSpec.upto lebSizesSpec)

/-- 'floodgatelaw17.BucketEnds', WHERE WHAT IT READS IS OF BULK AT MOST 1048576: true; the input reads as it did. -/
def bucketEndsUptoRow : OpenClaim := { program := "ytbhhckeccpodmaa", sum := "c3cee0d3aa76dd69b5a13355717540baaf55d37ec819963a62f5aef8468f4b39", func := "floodgate/floodgatelaw17.BucketEnds", spec := "bucketEnds", inPlace := ["math/bits.Add64"], apart := false, narrowed := true }
def BucketEndsUptoSaid : Prop := bucketEndsUptoRow.holds Try.pinned (OpenSpec.upto bucketEndsSpec)

/-- 'floodgatelaw17.BucketBound', WHERE WHAT IT READS IS OF BULK AT MOST 1048576: true; the input reads as it did. -/
def bucketBoundUptoRow : OpenClaim := { program := "ytbhhckeccpodmaa", sum := "c3cee0d3aa76dd69b5a13355717540baaf55d37ec819963a62f5aef8468f4b39", func := "floodgate/floodgatelaw17.BucketBound", spec := "bucketBound", inPlace := ["math/bits.Add64"], apart := false, narrowed := true }
def BucketBoundUptoSaid : Prop := bucketBoundUptoRow.holds Try.pinned (OpenSpec.upto bucketBoundSpec)

/-- 'floodgatelaw17.BucketWait', WHERE WHAT IT READS IS OF BULK AT MOST 1048576: true; the input reads as it did. -/
def bucketWaitUptoRow : OpenClaim := { program := "ytbhhckeccpodmaa", sum := "c3cee0d3aa76dd69b5a13355717540baaf55d37ec819963a62f5aef8468f4b39", func := "floodgate/floodgatelaw17.BucketWait", spec := "bucketWait", inPlace := ["math/bits.Add64"], apart := false, narrowed := true }
def BucketWaitUptoSaid : Prop := bucketWaitUptoRow.holds Try.pinned (OpenSpec.upto bucketWaitSpec)

/-- 'floodgatelaw17.BucketMore', WHERE WHAT IT READS IS OF BULK AT MOST 1048576: true; the input reads as it did. -/
def bucketMoreUptoRow : OpenClaim := { program := "ytbhhckeccpodmaa", sum := "c3cee0d3aa76dd69b5a13355717540baaf55d37ec819963a62f5aef8468f4b39", func := "floodgate/floodgatelaw17.BucketMore", spec := "bucketMore", inPlace := ["math/bits.Add64"], apart := false, narrowed := true }
def BucketMoreUptoSaid : Prop := bucketMoreUptoRow.holds Try.pinned (OpenSpec.upto bucketMoreSpec)

/-- 'floodgatelaw17.BucketRuns', WHERE WHAT IT READS IS OF BULK AT MOST 1048576: true; the input reads as it did. -/
def bucketRunsUptoRow : OpenClaim := { program := "ytbhhckeccpodmaa", sum := "c3cee0d3aa76dd69b5a13355717540baaf55d37ec819963a62f5aef8468f4b39", func := "floodgate/floodgatelaw17.BucketRuns", spec := "bucketRuns", inPlace := ["math/bits.Add64"], apart := false, narrowed := true }
def BucketRunsUptoSaid : Prop := bucketRunsUptoRow.holds Try.pinned (OpenSpec.upto bucketRunsSpec)

/-- 'floodgatelaw02.LebLists', WHERE WHAT IT READS IS OF BULK AT MOST 1048576: true; the input reads as it did. -/
def lebListsUptoRow : OpenClaim := { program := "ytbhhckeccpodmaa", sum := "c3cee0d3aa76dd69b5a13355717540baaf55d37ec819963a62f5aef8468f4b39", func := "floodgate/floodgatelaw02.LebLists", spec := "lebLists", recurses := true, apart := false, narrowed := true }
def LebListsUptoSaid : Prop := lebListsUptoRow.holds Try.pinned (OpenSpec.upto lebListsSpec)

/-- 'floodgatelaw02.LebBack', WHERE WHAT IT READS IS OF BULK AT MOST 1048576: true; the input reads as it did. -/
def lebBackUptoRow : OpenClaim := { program := "ytbhhckeccpodmaa", sum := "c3cee0d3aa76dd69b5a13355717540baaf55d37ec819963a62f5aef8468f4b39", func := "floodgate/floodgatelaw02.LebBack", spec := "lebBack", apart := false, narrowed := true }
def LebBackUptoSaid : Prop := lebBackUptoRow.holds Try.pinned (OpenSpec.upto lebBackSpec)

end Rows
end Go.Proofs.Ytbhhckeccpodmaa
