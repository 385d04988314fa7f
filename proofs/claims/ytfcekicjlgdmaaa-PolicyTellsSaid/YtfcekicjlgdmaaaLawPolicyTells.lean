/- The law PolicyTells of the given program returns true for every input, and each argument reads afterwards as before. No condition. -/
import Derived.Test.YtfcekicjlgdmaaaRows
import Derived.Test.YtfcekicjlgdmaaaPolicy8
import Derived.WalkKit
import Derived.ProofKit
import Derived.OpenShut
import Derived.ShutString
import Derived.ChangeOld
import Derived.Below
import Derived.SizedLaws
namespace Go.Proofs.Ytfcekicjlgdmaaa.policyTells
open Go.ChangeShapes Go.WideShapes Go.ChangeAt Go.RowKit
open Go.ChangeMaps (open_string shut_string)
set_option linter.unusedVariables false
set_option linter.unusedSimpArgs false
theorem own : ownKnob Try.prog.godebug = none := by kernel_rfl
theorem laidOut : laidOutB Try.prog = true := by kernel_rfl
set_option maxRecDepth 100000 in
theorem lifted (os : Os) (started : os.Started) (H : Type) (enc : TypeId × Value → H) :
    ReturnsInHanded {} Try.checked os 3 .any (Rows.policyTellsSpec.pre6 enc Try.prog Try.f3 Rows.policyTellsRow.domain false) (Rows.policyTellsSpec.post enc Try.prog Try.f3 false true false false) := by
  refine returnsInHanded_of_change (C := Try.checked) own started (by kernel_rfl) Try.func3
    (ChangeSpec.witness6 (enc := enc) (C := Try.checked) false ⟨#[], #[.agg #[.int .i64 0, .int .u8 0, .int .u8 0, .int .u8 0, .int .u8 0, .int .i64 0, .int .u64 0, .int .u64 0, .int .u64 0, .int .u64 0, .int .u64 0, .int .u64 0, .int .u64 0], .slice none 0 0], []⟩ 8 (by kernel_rfl) (by kernel_rfl) (by kernel_rfl) (by kernel_rfl)) ?_
  intro W base args ds gs before hval0 hW hcnd _
  have hval : ∀ (j : Nat) t v, Try.f3.params[j]? = some t → args[j]? = some v → Value.okWide Try.prog W .any base t v := hval0
  have hW' := hW
  obtain ⟨p, q, hA0, hV, rfl, hfz, hnd⟩ := hW
  have hA : DataW.TrodAll enc Try.prog W 0 (fun _ => true) true Try.f3.params.toList args.toList ds p := hA0
  rw [Try.params3] at hA hval
  obtain ⟨v0, vs0, d0, ds0, p0, q0, hargs, rfl, rfl, h0, r0⟩ := trodAll_cons hA
  obtain ⟨v1, vs1, d1, ds1, p1, q1, rfl, rfl, rfl, h1, r1⟩ := trodAll_cons r0
  obtain ⟨rfl, rfl, rfl⟩ := trodAll_nil r1
  obtain rfl : args = #[v0, v1] := by cases args; simp_all
  obtain ⟨rfl, rfl⟩ := trodVars_none hV
  have k0 := h0
  have lt0 : ∀ x ∈ p0, x.block < W.heap.size := by obtain ⟨m, hm⟩ := k0; exact DataW.trod_lt m _ _ _ hm
  obtain ⟨cs0, rfl, hs0, _⟩ : ∃ cs, v0 = .agg cs ∧ cs.size = Try.prog.cellsOf 28 ∧ Row.okWide Try.prog W .any base 28 cs := by
    have := hval 0 28 v0 rfl rfl
    simpa [Value.okWide, Try.underlying28] using this
  obtain ⟨l0⟩ := cs0
  have g0 : Fits [.i .i64, .i .u8, .i .u8, .i .u8, .i .u8, .i .i64, .i .u64, .i .u64, .i .u64, .i .u64, .i .u64, .i .u64, .i .u64] l0 := by
    obtain ⟨fuel, hf⟩ := h0
    exact leaves_fits 8 28 _ fuel l0 _ (by kernel_rfl) (by simpa [Value.cells] using hf)
  obtain ⟨a0_0, l0, rfl, w0_0, g0⟩ := ff_i g0
  obtain ⟨a0_1, l0, rfl, w0_1, g0⟩ := ff_i g0
  obtain ⟨a0_2, l0, rfl, w0_2, g0⟩ := ff_i g0
  obtain ⟨a0_3, l0, rfl, w0_3, g0⟩ := ff_i g0
  obtain ⟨a0_4, l0, rfl, w0_4, g0⟩ := ff_i g0
  obtain ⟨a0_5, l0, rfl, w0_5, g0⟩ := ff_i g0
  obtain ⟨a0_6, l0, rfl, w0_6, g0⟩ := ff_i g0
  obtain ⟨a0_7, l0, rfl, w0_7, g0⟩ := ff_i g0
  obtain ⟨a0_8, l0, rfl, w0_8, g0⟩ := ff_i g0
  obtain ⟨a0_9, l0, rfl, w0_9, g0⟩ := ff_i g0
  obtain ⟨a0_10, l0, rfl, w0_10, g0⟩ := ff_i g0
  obtain ⟨a0_11, l0, rfl, w0_11, g0⟩ := ff_i g0
  obtain ⟨a0_12, l0, rfl, w0_12, g0⟩ := ff_i g0
  obtain rfl := ff_nil g0
  obtain ⟨a1, len1, cap1, rfl⟩ := okWide_slice Try.underlying29 (hval 1 29 v1 rfl rfl)
  have k1 := h1
  have lt1 : ∀ x ∈ p1, x.block < W.heap.size := by obtain ⟨m, hm⟩ := k1; exact DataW.trod_lt m _ _ _ hm
  obtain ⟨z1, w1⟩ : ∃ zs, IsRow .u64 W a1 len1 cap1 zs := by
    obtain ⟨fuel, hf⟩ := h1
    rcases open_ints Try.underlying29 Try.underlying26 (by kernel_rfl) hf with ⟨hcs, _⟩ | ⟨x, l, c, zs, hcs, _, hl, hm, hz, _, hcell, hwz⟩
    · simp [Value.cells] at hcs
      obtain ⟨rfl, rfl, rfl⟩ := hcs
      exact ⟨[], .inl ⟨rfl, rfl, rfl, rfl⟩⟩
    · simp [Value.cells] at hcs
      obtain ⟨rfl, rfl, rfl⟩ := hcs
      exact ⟨zs, .inr ⟨_, rfl, hl, hm, by simpa using hz, hcell, hwz⟩⟩
  clear hA0 hval0
  refine (policyTells_walk a0_0 a0_1 a0_2 a0_3 a0_4 a0_5 a0_6 a0_7 a0_8 a0_9 a0_10 a0_11 a0_12 ⟨bounds_i64 w0_0, bounds_u8 w0_1, bounds_u8 w0_2, bounds_u8 w0_3, bounds_u8 w0_4, bounds_i64 w0_5, bounds_u64 w0_6, bounds_u64 w0_7, bounds_u64 w0_8, bounds_u64 w0_9, bounds_u64 w0_10, bounds_u64 w0_11, bounds_u64 w0_12⟩ a1 len1 cap1 z1 w1).mono fun e W' ⟨he, bel⟩ => ?_
  subst he
  exact ⟨_, rfl, _, _, _, [], _, [], hW', trodAll_mk1 (shut_bool Try.underlying4 _), (trodAll_cons_mk (Below.trod laidOut (by kernel_rfl) (of_decide_eq_true (by kernel_rfl)) k0 bel lt0) (trodAll_cons_mk (Below.trod laidOut (by kernel_rfl) (of_decide_eq_true (by kernel_rfl)) k1 bel lt1) trodAll_mk0)), rfl, bel.frame _, fun h => by cases h⟩
theorem over : Rows.policyTellsRow.holds Try.pinned (OpenSpec.ofChange Rows.policyTellsSpec) :=
  OpenClaim.holds_of_wide 3 Try.f3 rfl rfl rfl rfl rfl rfl rfl ⟨rfl, rfl, rfl, rfl, rfl⟩ rfl rfl rfl rfl rfl (by kernel_rfl) Try.func3 (by kernel_rfl)
    (of_decide_eq_true (by kernel_rfl)) (by unfold Func.isWrapper; first | (rw [if_pos (by decide +kernel)]; kernel_rfl) | (rw [if_neg (by decide +kernel)]; exact ⟨rfl, rfl⟩))
    (fun os started H enc _ => lifted os started H enc)
theorem proved : Rows.PolicyTellsSaid := over
end Go.Proofs.Ytfcekicjlgdmaaa.policyTells
namespace Go.Proofs.Ytfcekicjlgdmaaa
/-- The statement, under a short name. -/
theorem policyTells_holds : Rows.PolicyTellsSaid := policyTells.proved
#print axioms policyTells_holds
end Go.Proofs.Ytfcekicjlgdmaaa
