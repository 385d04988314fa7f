/- The law SatRefills of the given program returns true for every input, and each argument reads afterwards as before. No condition. -/
import Derived.Test.YtnepgeofdacgkaaRows
import Derived.Test.YtnepgeofdacgkaaSatLaws6
import Derived.WalkKit
import Derived.ProofKit
import Derived.OpenShut
import Derived.ShutString
import Derived.ChangeOld
import Derived.Below
import Derived.SizedLaws
namespace Go.Proofs.Ytnepgeofdacgkaa.satRefills
open Go.ChangeShapes Go.WideShapes Go.ChangeAt Go.RowKit
open Go.ChangeMaps (open_string shut_string)
set_option linter.unusedVariables false
set_option linter.unusedSimpArgs false
theorem own : ownKnob Try.prog.godebug = none := by kernel_rfl
theorem laidOut : laidOutB Try.prog = true := by kernel_rfl
theorem list4 {α : Type} (l : List α) (h : (⟨l⟩ : Array α).size = 4) : ∃ a b c d, l = [a, b, c, d] := by
  match l, h with
  | [a, b, c, d], _ => exact ⟨a, b, c, d, rfl⟩
set_option maxRecDepth 100000 in
theorem lifted (os : Os) (started : os.Started) (H : Type) (enc : TypeId × Value → H) :
    ReturnsInHanded {} Try.checked os 3 .any (Rows.satRefillsSpec.pre6 enc Try.prog Try.f3 Rows.satRefillsRow.domain false) (Rows.satRefillsSpec.post enc Try.prog Try.f3 false true false false) := by
  refine returnsInHanded_of_change (C := Try.checked) own started (by kernel_rfl) Try.func3
    (ChangeSpec.witness6 (enc := enc) (C := Try.checked) false ⟨#[], #[.agg #[.int .u64 0, .int .u64 0, .int .u64 0, .int .u64 0]], []⟩ 8 (by kernel_rfl) (by kernel_rfl) (by kernel_rfl) (by kernel_rfl)) ?_
  intro W base args ds gs before hval0 hW hcnd _
  have hval : ∀ (j : Nat) t v, Try.f3.params[j]? = some t → args[j]? = some v → Value.okWide Try.prog W .any base t v := hval0
  have hW' := hW
  obtain ⟨p, q, hA0, hV, rfl, hfz, hnd⟩ := hW
  have hA : DataW.TrodAll enc Try.prog W 0 (fun _ => true) true Try.f3.params.toList args.toList ds p := hA0
  rw [Try.params3] at hA hval
  obtain ⟨v0, vs0, d0, ds0, p0, q0, hargs, rfl, rfl, h0, r0⟩ := trodAll_cons hA
  obtain ⟨rfl, rfl, rfl⟩ := trodAll_nil r0
  obtain rfl : args = #[v0] := by cases args; simp_all
  obtain ⟨rfl, rfl⟩ := trodVars_none hV
  have k0 := h0
  have lt0 : ∀ x ∈ p0, x.block < W.heap.size := by obtain ⟨m, hm⟩ := k0; exact DataW.trod_lt m _ _ _ hm
  obtain ⟨cs0, rfl, hs0, _⟩ : ∃ cs, v0 = .agg cs ∧ cs.size = Try.prog.cellsOf 23 ∧ Row.okWide Try.prog W .any base 23 cs := by
    have := hval 0 23 v0 rfl rfl
    simpa [Value.okWide, Try.underlying23] using this
  have hz0 : cs0.size = 4 := hs0.trans (by kernel_rfl)
  obtain ⟨l0⟩ := cs0
  obtain ⟨c0_0, c0_1, c0_2, c0_3, rfl⟩ := list4 l0 hz0
  obtain ⟨f0, hf0⟩ := h0
  obtain ⟨ys0, m0, _, _, _, hl0, hg0⟩ := Go.DataW.trod_array Try.underlying23 hf0
  have one0 : Try.prog.cellsOf 22 = 1 := by kernel_rfl
  rw [one0] at hg0
  have hy0_0 := hg0 0 (by omega)
  have hy0_1 := hg0 1 (by omega)
  have hy0_2 := hg0 2 (by omega)
  have hy0_3 := hg0 3 (by omega)
  have q0 : ∃ y0_0 y0_1 y0_2 y0_3 : DataW H × List MemPlace, ys0 = [y0_0, y0_1, y0_2, y0_3] := by match ys0, hl0 with | [y0_0, y0_1, y0_2, y0_3], _ => exact ⟨_, _, _, _, rfl⟩
  obtain ⟨y0_0, y0_1, y0_2, y0_3, rfl⟩ := q0
  obtain ⟨a0_0, e0_0, _, w0_0⟩ := DataW.trod_int Try.underlying22 hy0_0
  have b0_0 : c0_0 = .int .u64 a0_0 := by simpa [Value.cells] using e0_0
  subst b0_0
  obtain ⟨a0_1, e0_1, _, w0_1⟩ := DataW.trod_int Try.underlying22 hy0_1
  have b0_1 : c0_1 = .int .u64 a0_1 := by simpa [Value.cells] using e0_1
  subst b0_1
  obtain ⟨a0_2, e0_2, _, w0_2⟩ := DataW.trod_int Try.underlying22 hy0_2
  have b0_2 : c0_2 = .int .u64 a0_2 := by simpa [Value.cells] using e0_2
  subst b0_2
  obtain ⟨a0_3, e0_3, _, w0_3⟩ := DataW.trod_int Try.underlying22 hy0_3
  have b0_3 : c0_3 = .int .u64 a0_3 := by simpa [Value.cells] using e0_3
  subst b0_3
  clear hA0 hval0
  refine (satRefills_walk a0_0 (bounds_u64 w0_0) a0_1 (bounds_u64 w0_1) a0_2 (bounds_u64 w0_2) a0_3 (bounds_u64 w0_3) W).mono fun e W' ⟨he, bel⟩ => ?_
  subst he
  exact ⟨_, rfl, _, _, _, [], _, [], hW', trodAll_mk1 (shut_bool Try.underlying4 _), (trodAll_cons_mk (Below.trod laidOut (by kernel_rfl) (of_decide_eq_true (by kernel_rfl)) k0 bel lt0) trodAll_mk0), rfl, bel.frame _, fun h => by cases h⟩
theorem over : Rows.satRefillsRow.holds Try.pinned (OpenSpec.ofChange Rows.satRefillsSpec) :=
  OpenClaim.holds_of_wide 3 Try.f3 rfl rfl rfl rfl rfl rfl rfl ⟨rfl, rfl, rfl, rfl, rfl⟩ rfl rfl rfl rfl rfl (by kernel_rfl) Try.func3 (by kernel_rfl)
    (of_decide_eq_true (by kernel_rfl)) (by unfold Func.isWrapper; first | (rw [if_pos (by decide +kernel)]; kernel_rfl) | (rw [if_neg (by decide +kernel)]; exact ⟨rfl, rfl⟩))
    (fun os started H enc _ => lifted os started H enc)
theorem proved : Rows.SatRefillsSaid := over
end Go.Proofs.Ytnepgeofdacgkaa.satRefills
namespace Go.Proofs.Ytnepgeofdacgkaa
/-- The statement, under a short name. -/
theorem satRefills_holds : Rows.SatRefillsSaid := satRefills.proved
#print axioms satRefills_holds
end Go.Proofs.Ytnepgeofdacgkaa
