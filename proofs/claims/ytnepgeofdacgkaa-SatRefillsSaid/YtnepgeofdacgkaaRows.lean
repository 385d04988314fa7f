/-
  No cell of these rows narrows 'for every input' (looked for: loops, veiled, ifaces, maps, wideKeys, modest, calm, conditions, laid).
  DERIVED. THE GIVEN ROWS OF THIS SEAT. 9 by the template 'for every input the law returns true; each argument reads behind the call as it read before'; 0 by the template 'total and deterministic' (their statements: YtnepgeofdacgkaaTotals.lean).
  GIVEN WITH THE SEED: the statements are not yours to turn. If you find one false, say at which input.
  Laid BY PROGRAM, IN A SANDBOX (cutbox-rows.mjs): the forced cells as the released guide's own fill.sh prints them over the translation c35d17023262f6ad… (all of the seat's roots in one cut). By AI agents, Wed Nov 11 2026. No macro, syntax, notation, axiom, sorry.
-/
import Derived.Test.YtnepgeofdacgkaaChecked
import GoSem.Claim
import GoSem.ClaimJoined
import GoSem.ClaimMapViews
import Derived.JoinedTies
import Derived.KernelRfl
namespace Go.Proofs.Ytnepgeofdacgkaa
/- THE CELL 'sum', in the pinned program and in every row, IS THE sha256 OF THE DUMP (.gsa) THAT YtnepgeofdacgkaaProg.lean LOADS. Nothing in Lean hashes anything: it is a label: what it is worth is what the hold of that sum in a sandbox is worth. -/
noncomputable def Try.pinned : Pinned := { name := "ytnepgeofdacgkaa", sum := "c35d17023262f6ad7012218313d10331d2c62d11123fdec6421fe357f03832dc", checked := Try.checked }
namespace Rows
def none {H : Type} : Left H := { results := [], args := [] }

/-- 'floodgatelaw01.SatRefills': WHATEVER THE INPUT: true; the input reads as it did. -/
def satRefillsSpec : ChangeSpec := { name := "satRefills", fn := fun _ => fun
  | [d] => { results := [.lit (.bool true)], args := [d] }
  | _ => none }
def satRefillsRow : OpenClaim := { program := "ytnepgeofdacgkaa", sum := "c35d17023262f6ad7012218313d10331d2c62d11123fdec6421fe357f03832dc", func := "floodgate/floodgatelaw01.SatRefills", spec := "satRefills", inPlace := ["math/bits.Add64"], apart := false }
def SatRefillsSaid : Prop := satRefillsRow.holds Try.pinned (OpenSpec.ofChange satRefillsSpec)

/-- ITS FALSE NEIGHBOUR: 'it returns false'. Refute it at one input. -/
def satRefillsWrong : ChangeSpec := { name := "satRefills", fn := fun _ => fun
  | [d] => { results := [.lit (.bool false)], args := [d] }
  | _ => none }
def SatRefillsWrongFalsely : Prop := satRefillsRow.holds Try.pinned (OpenSpec.ofChange satRefillsWrong)

/-- 'floodgatelaw01.SatParts': WHATEVER THE INPUT: true; the input reads as it did. -/
def satPartsSpec : ChangeSpec := { name := "satParts", fn := fun _ => fun
  | [d1, d2] => { results := [.lit (.bool true)], args := [d1, d2] }
  | _ => none }
def satPartsRow : OpenClaim := { program := "ytnepgeofdacgkaa", sum := "c35d17023262f6ad7012218313d10331d2c62d11123fdec6421fe357f03832dc", func := "floodgate/floodgatelaw01.SatParts", spec := "satParts", inPlace := ["math/bits.Add64"], apart := false }
def SatPartsSaid : Prop := satPartsRow.holds Try.pinned (OpenSpec.ofChange satPartsSpec)

/-- ITS FALSE NEIGHBOUR: 'it returns false'. Refute it at one input. -/
def satPartsWrong : ChangeSpec := { name := "satParts", fn := fun _ => fun
  | [d1, d2] => { results := [.lit (.bool false)], args := [d1, d2] }
  | _ => none }
def SatPartsWrongFalsely : Prop := satPartsRow.holds Try.pinned (OpenSpec.ofChange satPartsWrong)

/-- 'floodgatelaw01.SatOrder': WHATEVER THE INPUT: true; the input reads as it did. -/
def satOrderSpec : ChangeSpec := { name := "satOrder", fn := fun _ => fun
  | [d1, d2] => { results := [.lit (.bool true)], args := [d1, d2] }
  | _ => none }
def satOrderRow : OpenClaim := { program := "ytnepgeofdacgkaa", sum := "c35d17023262f6ad7012218313d10331d2c62d11123fdec6421fe357f03832dc", func := "floodgate/floodgatelaw01.SatOrder", spec := "satOrder", inPlace := ["math/bits.Add64"], apart := false }
def SatOrderSaid : Prop := satOrderRow.holds Try.pinned (OpenSpec.ofChange satOrderSpec)

/-- ITS FALSE NEIGHBOUR: 'it returns false'. Refute it at one input. -/
def satOrderWrong : ChangeSpec := { name := "satOrder", fn := fun _ => fun
  | [d1, d2] => { results := [.lit (.bool false)], args := [d1, d2] }
  | _ => none }
def SatOrderWrongFalsely : Prop := satOrderRow.holds Try.pinned (OpenSpec.ofChange satOrderWrong)

/-- 'floodgatelaw01.SatSums': WHATEVER THE INPUT: true; the input reads as it did. -/
def satSumsSpec : ChangeSpec := { name := "satSums", fn := fun _ => fun
  | [d1, d2] => { results := [.lit (.bool true)], args := [d1, d2] }
  | _ => none }
def satSumsRow : OpenClaim := { program := "ytnepgeofdacgkaa", sum := "c35d17023262f6ad7012218313d10331d2c62d11123fdec6421fe357f03832dc", func := "floodgate/floodgatelaw01.SatSums", spec := "satSums", inPlace := ["math/bits.Add64"], apart := false }
def SatSumsSaid : Prop := satSumsRow.holds Try.pinned (OpenSpec.ofChange satSumsSpec)

/-- ITS FALSE NEIGHBOUR: 'it returns false'. Refute it at one input. -/
def satSumsWrong : ChangeSpec := { name := "satSums", fn := fun _ => fun
  | [d1, d2] => { results := [.lit (.bool false)], args := [d1, d2] }
  | _ => none }
def SatSumsWrongFalsely : Prop := satSumsRow.holds Try.pinned (OpenSpec.ofChange satSumsWrong)

/-- 'floodgatelaw01.SatThree': WHATEVER THE INPUT: true; the input reads as it did. -/
def satThreeSpec : ChangeSpec := { name := "satThree", fn := fun _ => fun
  | [d] => { results := [.lit (.bool true)], args := [d] }
  | _ => none }
def satThreeRow : OpenClaim := { program := "ytnepgeofdacgkaa", sum := "c35d17023262f6ad7012218313d10331d2c62d11123fdec6421fe357f03832dc", func := "floodgate/floodgatelaw01.SatThree", spec := "satThree", inPlace := ["math/bits.Add64"], apart := false }
def SatThreeSaid : Prop := satThreeRow.holds Try.pinned (OpenSpec.ofChange satThreeSpec)

/-- ITS FALSE NEIGHBOUR: 'it returns false'. Refute it at one input. -/
def satThreeWrong : ChangeSpec := { name := "satThree", fn := fun _ => fun
  | [d] => { results := [.lit (.bool false)], args := [d] }
  | _ => none }
def SatThreeWrongFalsely : Prop := satThreeRow.holds Try.pinned (OpenSpec.ofChange satThreeWrong)

/-- 'floodgatelaw01.SatInts': WHATEVER THE INPUT: true; the input reads as it did. -/
def satIntsSpec : ChangeSpec := { name := "satInts", fn := fun _ => fun
  | [d1, d2] => { results := [.lit (.bool true)], args := [d1, d2] }
  | _ => none }
def satIntsRow : OpenClaim := { program := "ytnepgeofdacgkaa", sum := "c35d17023262f6ad7012218313d10331d2c62d11123fdec6421fe357f03832dc", func := "floodgate/floodgatelaw01.SatInts", spec := "satInts", inPlace := ["math/bits.Add64"], apart := false }
def SatIntsSaid : Prop := satIntsRow.holds Try.pinned (OpenSpec.ofChange satIntsSpec)

/-- ITS FALSE NEIGHBOUR: 'it returns false'. Refute it at one input. -/
def satIntsWrong : ChangeSpec := { name := "satInts", fn := fun _ => fun
  | [d1, d2] => { results := [.lit (.bool false)], args := [d1, d2] }
  | _ => none }
def SatIntsWrongFalsely : Prop := satIntsRow.holds Try.pinned (OpenSpec.ofChange satIntsWrong)

/-- 'floodgatelaw01.SatEnds': WHATEVER THE INPUT: true; the input reads as it did. -/
def satEndsSpec : ChangeSpec := { name := "satEnds", fn := fun _ => fun
  | [] => { results := [.lit (.bool true)], args := [] }
  | _ => none }
def satEndsRow : OpenClaim := { program := "ytnepgeofdacgkaa", sum := "c35d17023262f6ad7012218313d10331d2c62d11123fdec6421fe357f03832dc", func := "floodgate/floodgatelaw01.SatEnds", spec := "satEnds", inPlace := ["math/bits.Add64"], apart := false }
def SatEndsSaid : Prop := satEndsRow.holds Try.pinned (OpenSpec.ofChange satEndsSpec)

/-- ITS FALSE NEIGHBOUR: 'it returns false'. Refute it at one input. -/
def satEndsWrong : ChangeSpec := { name := "satEnds", fn := fun _ => fun
  | [] => { results := [.lit (.bool false)], args := [] }
  | _ => none }
def SatEndsWrongFalsely : Prop := satEndsRow.holds Try.pinned (OpenSpec.ofChange satEndsWrong)

/-- 'floodgatelaw01.SatShifts': WHATEVER THE INPUT: true; the input reads as it did. -/
def satShiftsSpec : ChangeSpec := { name := "satShifts", fn := fun _ => fun
  | [d1, d2] => { results := [.lit (.bool true)], args := [d1, d2] }
  | _ => none }
def satShiftsRow : OpenClaim := { program := "ytnepgeofdacgkaa", sum := "c35d17023262f6ad7012218313d10331d2c62d11123fdec6421fe357f03832dc", func := "floodgate/floodgatelaw01.SatShifts", spec := "satShifts", inPlace := ["math/bits.Add64"], apart := false }
def SatShiftsSaid : Prop := satShiftsRow.holds Try.pinned (OpenSpec.ofChange satShiftsSpec)

/-- ITS FALSE NEIGHBOUR: 'it returns false'. Refute it at one input. -/
def satShiftsWrong : ChangeSpec := { name := "satShifts", fn := fun _ => fun
  | [d1, d2] => { results := [.lit (.bool false)], args := [d1, d2] }
  | _ => none }
def SatShiftsWrongFalsely : Prop := satShiftsRow.holds Try.pinned (OpenSpec.ofChange satShiftsWrong)

/-- 'floodgatelaw01.SatBack': WHATEVER THE INPUT: true; the input reads as it did. -/
def satBackSpec : ChangeSpec := { name := "satBack", fn := fun _ => fun
  | [d1, d2] => { results := [.lit (.bool true)], args := [d1, d2] }
  | _ => none }
def satBackRow : OpenClaim := { program := "ytnepgeofdacgkaa", sum := "c35d17023262f6ad7012218313d10331d2c62d11123fdec6421fe357f03832dc", func := "floodgate/floodgatelaw01.SatBack", spec := "satBack", inPlace := ["math/bits.Add64"], apart := false }
def SatBackSaid : Prop := satBackRow.holds Try.pinned (OpenSpec.ofChange satBackSpec)

/-- ITS FALSE NEIGHBOUR: 'it returns false'. Refute it at one input. -/
def satBackWrong : ChangeSpec := { name := "satBack", fn := fun _ => fun
  | [d1, d2] => { results := [.lit (.bool false)], args := [d1, d2] }
  | _ => none }
def SatBackWrongFalsely : Prop := satBackRow.holds Try.pinned (OpenSpec.ofChange satBackWrong)

/- THE SECOND FORM. 'bulk': how many values and letters a reading holds, each counted each time it is reached (what is shared counts as often as it is met; a slice's spare places count too). A statement '..UptoSaid' is the law's where the arguments, and the package variables that the reading takes, are together of bulk at most 1048576: NARROWER than '..Said'. Prove '..Said' where nothing that the law and all that it calls make is longer than what came in: it says more and counts as full. Else prove '..UptoSaid'. A law counts once. -/
mutual
def uptoBulk {H : Type} : DataW H → Nat
  | .lit (.string bytes) => bytes.length + 1
  | .lit _ => 1
  | .nil => 1
  | .ptr d => uptoBulk d + 1
  | .slice elems spare => uptoBulkAll elems + uptoBulkAll spare + 1
  | .agg parts => uptoBulkAll parts + 1
  | .iface _ d => uptoBulk d + 1
  | .map entries => uptoBulkEntries entries + 1
  | .held _ => 1
def uptoBulkAll {H : Type} : List (DataW H) → Nat
  | [] => 0
  | d :: r => uptoBulk d + uptoBulkAll r
def uptoBulkEntries {H : Type} : List (Lit × DataW H) → Nat
  | [] => 0
  | x :: r => uptoBulkEntry x + uptoBulkEntries r
def uptoBulkEntry {H : Type} : Lit × DataW H → Nat
  | (.string bytes, d) => bytes.length + uptoBulk d + 1
  | (_, d) => uptoBulk d + 1
 end
def uptoSmall : (H : Type) → List (DataW H) → Bool := fun _ ds => decide (uptoBulkAll ds ≤ 1048576)
def OpenSpec.upto (s : _root_.Go.ChangeSpec) : _root_.Go.OpenSpec := { _root_.Go.OpenSpec.ofChange s with cond := some uptoSmall }

/-- 'floodgatelaw01.SatRefills', WHERE WHAT IT READS IS OF BULK AT MOST 1048576: true; the input reads as it did. -/
def satRefillsUptoRow : OpenClaim := { program := "ytnepgeofdacgkaa", sum := "c35d17023262f6ad7012218313d10331d2c62d11123fdec6421fe357f03832dc", func := "floodgate/floodgatelaw01.SatRefills", spec := "satRefills", inPlace := ["math/bits.Add64"], apart := false, narrowed := true }
def SatRefillsUptoSaid : Prop := satRefillsUptoRow.holds Try.pinned (OpenSpec.upto satRefillsSpec)

/-- 'floodgatelaw01.SatParts', WHERE WHAT IT READS IS OF BULK AT MOST 1048576: true; the input reads as it did. -/
def satPartsUptoRow : OpenClaim := { program := "ytnepgeofdacgkaa", sum := "c35d17023262f6ad7012218313d10331d2c62d11123fdec6421fe357f03832dc", func := "floodgate/floodgatelaw01.SatParts", spec := "satParts", inPlace := ["math/bits.Add64"], apart := false, narrowed := true }
def SatPartsUptoSaid : Prop := satPartsUptoRow.holds Try.pinned (OpenSpec.upto satPartsSpec)

/-- 'floodgatelaw01.SatOrder', WHERE WHAT IT READS IS OF BULK AT MOST 1048576: true; the input reads as it did. -/
def satOrderUptoRow : OpenClaim := { program := "ytnepgeofdacgkaa", sum := "c35d17023262f6ad7012218313d10331d2c62d11123fdec6421fe357f03832dc", func := "floodgate/floodgatelaw01.SatOrder", spec := "satOrder", inPlace := ["math/bits.Add64"], apart := false, narrowed := true }
def SatOrderUptoSaid : Prop := satOrderUptoRow.holds Try.pinned (OpenSpec.upto satOrderSpec)

/-- 'floodgatelaw01.SatSums', WHERE WHAT IT READS IS OF BULK AT MOST 1048576: true; the input reads as it did. -/
def satSumsUptoRow : OpenClaim := { program := "ytnepgeofdacgkaa", sum := "c35d17023262f6ad7012218313d10331d2c62d11123fdec6421fe357f03832dc", func := "floodgate/floodgatelaw01.SatSums", spec := "satSums", inPlace := ["math/bits.Add64"], apart := false, narrowed := true }
def SatSumsUptoSaid : Prop := satSumsUptoRow.holds Try.pinned (OpenSpec.upto satSumsSpec)

/-- 'floodgatelaw01.SatThree', WHERE WHAT IT READS IS OF BULK AT MOST 1048576: true; the input reads as it did. -/
def satThreeUptoRow : OpenClaim := { program := "ytnepgeofdacgkaa", sum := "c35d17023262f6ad7012218313d10331d2c62d11123fdec6421fe357f03832dc", func := "floodgate/floodgatelaw01.SatThree", spec := "satThree", inPlace := ["math/bits.Add64"], apart := false, narrowed := true }
def SatThreeUptoSaid : Prop := satThreeUptoRow.holds Try.pinned (OpenSpec.upto satThreeSpec)

/-- 'floodgatelaw01.SatInts', WHERE WHAT IT READS IS OF BULK AT MOST 1048576: true; the input reads as it did. -/
def satIntsUptoRow : OpenClaim := { program := "ytnepgeofdacgkaa", sum := "c35d17023262f6ad7012218313d10331d2c62d11123fdec6421fe357f03832dc", func := "floodgate/floodgatelaw01.SatInts", spec := "satInts", inPlace := ["math/bits.Add64"], apart := false, narrowed := true }
def SatIntsUptoSaid : Prop := satIntsUptoRow.holds Try.pinned (OpenSpec.upto satIntsSpec)

/-- 'floodgatelaw01.SatEnds', WHERE WHAT IT READS IS OF BULK AT MOST 1048576: true; the input reads as it did. -/
def satEndsUptoRow : OpenClaim := { program := "ytnepgeofdacgkaa", sum := "c35d17023262f6ad7012218313d10331d2c62d11123fdec6421fe357f03832dc", func := "floodgate/floodgatelaw01.SatEnds", spec := "satEnds", inPlace := ["math/bits.Add64"], apart := false, narrowed := true }
def SatEndsUptoSaid : Prop := satEndsUptoRow.holds Try.pinned (OpenSpec.upto satEndsSpec)

/-- 'floodgatelaw01.SatShifts', WHERE WHAT IT READS IS OF BULK AT MOST 1048576: true; the input reads as it did. -/
def satShiftsUptoRow : OpenClaim := { program := "ytnepgeofdacgkaa", sum := "c35d17023262f6ad7012218313d10331d2c62d11123fdec6421fe357f03832dc", func := "floodgate/floodgatelaw01.SatShifts", spec := "satShifts", inPlace := ["math/bits.Add64"], apart := false, narrowed := true }
def SatShiftsUptoSaid : Prop := satShiftsUptoRow.holds Try.pinned (OpenSpec.upto satShiftsSpec)

/-- 'floodgatelaw01.SatBack', WHERE WHAT IT READS IS OF BULK AT MOST 1048576: true; the input reads as it did. -/
def satBackUptoRow : OpenClaim := { program := "ytnepgeofdacgkaa", sum := "c35d17023262f6ad7012218313d10331d2c62d11123fdec6421fe357f03832dc", func := "floodgate/floodgatelaw01.SatBack", spec := "satBack", inPlace := ["math/bits.Add64"], apart := false, narrowed := true }
def SatBackUptoSaid : Prop := satBackUptoRow.holds Try.pinned (OpenSpec.upto satBackSpec)

end Rows
end Go.Proofs.Ytnepgeofdacgkaa
