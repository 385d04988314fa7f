/- The law PolicyBack of the given program returns true for every input, and each argument reads afterwards as before. No condition. -/
import Derived.Test.YtfcekicjlgdmaaaRows
import Derived.Test.YtfcekicjlgdmaaaPolicy9
import Derived.WalkKit
import Derived.ProofKit
import Derived.OpenShut
import Derived.ShutString
import Derived.ChangeOld
import Derived.Below
import Derived.SizedLaws
namespace Go.Proofs.Ytfcekicjlgdmaaa.policyBack
open Go.ChangeShapes Go.WideShapes Go.ChangeAt Go.RowKit
open Go.ChangeMaps (open_string shut_string)
set_option linter.unusedVariables false
set_option linter.unusedSimpArgs false
theorem own : ownKnob Try.prog.godebug = none := by kernel_rfl
theorem laidOut : laidOutB Try.prog = true := by kernel_rfl
set_option maxRecDepth 100000 in
theorem lifted (os : Os) (started : os.Started) (H : Type) (enc : TypeId × Value → H) :
    ReturnsInHanded {} Try.checked os 4 .any (Rows.policyBackSpec.pre6 enc Try.prog Try.f4 Rows.policyBackRow.domain false) (Rows.policyBackSpec.post enc Try.prog Try.f4 false true false false) := by
  refine returnsInHanded_of_change (C := Try.checked) own started (by kernel_rfl) Try.func4
    (ChangeSpec.witness6 (enc := enc) (C := Try.checked) false ⟨#[], #[.agg #[.int .i64 0, .int .u8 0, .int .u8 0, .int .u8 0, .int .u8 0, .int .i64 0, .int .u64 0, .int .u64 0, .int .u64 0, .int .u64 0, .int .u64 0, .int .u64 0, .int .u64 0], .agg #[.int .i64 0, .int .u8 0, .int .u8 0, .int .u8 0, .int .u8 0, .int .i64 0, .int .u64 0, .int .u64 0, .int .u64 0, .int .u64 0, .int .u64 0, .int .u64 0, .int .u64 0], .slice none 0 0], []⟩ 8 (by kernel_rfl) (by kernel_rfl) (by kernel_rfl) (by kernel_rfl)) ?_
  intro W base args ds gs before hval0 hW hcnd _
  have hval : ∀ (j : Nat) t v, Try.f4.params[j]? = some t → args[j]? = some v → Value.okWide Try.prog W .any base t v := hval0
  have hW' := hW
  obtain ⟨p, q, hA0, hV, rfl, hfz, hnd⟩ := hW
  have hA : DataW.TrodAll enc Try.prog W 0 (fun _ => true) true Try.f4.params.toList args.toList ds p := hA0
  rw [Try.params4] at hA hval
  obtain ⟨v0, vs0, d0, ds0, p0, q0, hargs, rfl, rfl, h0, r0⟩ := trodAll_cons hA
  obtain ⟨v1, vs1, d1, ds1, p1, q1, rfl, rfl, rfl, h1, r1⟩ := trodAll_cons r0
  obtain ⟨v2, vs2, d2, ds2, p2, q2, rfl, rfl, rfl, h2, r2⟩ := trodAll_cons r1
  obtain ⟨rfl, rfl, rfl⟩ := trodAll_nil r2
  obtain rfl : args = #[v0, v1, v2] := by cases args; simp_all
  obtain ⟨rfl, rfl⟩ := trodVars_none hV
  have k0 := h0
  have lt0 : ∀ x ∈ p0, x.block < W.heap.size := by obtain ⟨m, hm⟩ := k0; exact DataW.trod_lt m _ _ _ hm
  obtain ⟨cs0, rfl, hs0, _⟩ : ∃ cs, v0 = .agg cs ∧ cs.size = Try.prog.cellsOf 28 ∧ Row.okWide Try.prog W .any base 28 cs := by
    have := hval 0 28 v0 rfl rfl
    simpa [Value.okWide, Try.underlying28] using this
  obtain ⟨l0⟩ := cs0
  have g0 : Fits [.i .i64, .i .u8, .i .u8, .i .u8, .i .u8, .i .i64, .i .u64, .i .u64, .i .u64, .i .u64, .i .u64, .i .u64, .i .u64] l0 := by
    obtain ⟨fuel, hf⟩ := h0
    exact leaves_fits 8 28 _ fuel l0 _ (by kernel_rfl) (by simpa [Value.cells] using hf)
  obtain ⟨a0_0, l0, rfl, w0_0, g0⟩ := ff_i g0
  obtain ⟨a0_1, l0, rfl, w0_1, g0⟩ := ff_i g0
  obtain ⟨a0_2, l0, rfl, w0_2, g0⟩ := ff_i g0
  obtain ⟨a0_3, l0, rfl, w0_3, g0⟩ := ff_i g0
  obtain ⟨a0_4, l0, rfl, w0_4, g0⟩ := ff_i g0
  obtain ⟨a0_5, l0, rfl, w0_5, g0⟩ := ff_i g0
  obtain ⟨a0_6, l0, rfl, w0_6, g0⟩ := ff_i g0
  obtain ⟨a0_7, l0, rfl, w0_7, g0⟩ := ff_i g0
  obtain ⟨a0_8, l0, rfl, w0_8, g0⟩ := ff_i g0
  obtain ⟨a0_9, l0, rfl, w0_9, g0⟩ := ff_i g0
  obtain ⟨a0_10, l0, rfl, w0_10, g0⟩ := ff_i g0
  obtain ⟨a0_11, l0, rfl, w0_11, g0⟩ := ff_i g0
  obtain ⟨a0_12, l0, rfl, w0_12, g0⟩ := ff_i g0
  obtain rfl := ff_nil g0
  have k1 := h1
  have lt1 : ∀ x ∈ p1, x.block < W.heap.size := by obtain ⟨m, hm⟩ := k1; exact DataW.trod_lt m _ _ _ hm
  obtain ⟨cs1, rfl, hs1, _⟩ : ∃ cs, v1 = .agg cs ∧ cs.size = Try.prog.cellsOf 28 ∧ Row.okWide Try.prog W .any base 28 cs := by
    have := hval 1 28 v1 rfl rfl
    simpa [Value.okWide, Try.underlying28] using this
  obtain ⟨l1⟩ := cs1
  have g1 : Fits [.i .i64, .i .u8, .i .u8, .i .u8, .i .u8, .i .i64, .i .u64, .i .u64, .i .u64, .i .u64, .i .u64, .i .u64, .i .u64] l1 := by
    obtain ⟨fuel, hf⟩ := h1
    exact leaves_fits 8 28 _ fuel l1 _ (by kernel_rfl) (by simpa [Value.cells] using hf)
  obtain ⟨a1_0, l1, rfl, w1_0, g1⟩ := ff_i g1
  obtain ⟨a1_1, l1, rfl, w1_1, g1⟩ := ff_i g1
  obtain ⟨a1_2, l1, rfl, w1_2, g1⟩ := ff_i g1
  obtain ⟨a1_3, l1, rfl, w1_3, g1⟩ := ff_i g1
  obtain ⟨a1_4, l1, rfl, w1_4, g1⟩ := ff_i g1
  obtain ⟨a1_5, l1, rfl, w1_5, g1⟩ := ff_i g1
  obtain ⟨a1_6, l1, rfl, w1_6, g1⟩ := ff_i g1
  obtain ⟨a1_7, l1, rfl, w1_7, g1⟩ := ff_i g1
  obtain ⟨a1_8, l1, rfl, w1_8, g1⟩ := ff_i g1
  obtain ⟨a1_9, l1, rfl, w1_9, g1⟩ := ff_i g1
  obtain ⟨a1_10, l1, rfl, w1_10, g1⟩ := ff_i g1
  obtain ⟨a1_11, l1, rfl, w1_11, g1⟩ := ff_i g1
  obtain ⟨a1_12, l1, rfl, w1_12, g1⟩ := ff_i g1
  obtain rfl := ff_nil g1
  obtain ⟨a2, len2, cap2, rfl⟩ := okWide_slice Try.underlying29 (hval 2 29 v2 rfl rfl)
  have k2 := h2
  have lt2 : ∀ x ∈ p2, x.block < W.heap.size := by obtain ⟨m, hm⟩ := k2; exact DataW.trod_lt m _ _ _ hm
  obtain ⟨z2, w2⟩ : ∃ zs, IsRow .u64 W a2 len2 cap2 zs := by
    obtain ⟨fuel, hf⟩ := h2
    rcases open_ints Try.underlying29 Try.underlying26 (by kernel_rfl) hf with ⟨hcs, _⟩ | ⟨x, l, c, zs, hcs, _, hl, hm, hz, _, hcell, hwz⟩
    · simp [Value.cells] at hcs
      obtain ⟨rfl, rfl, rfl⟩ := hcs
      exact ⟨[], .inl ⟨rfl, rfl, rfl, rfl⟩⟩
    · simp [Value.cells] at hcs
      obtain ⟨rfl, rfl, rfl⟩ := hcs
      exact ⟨zs, .inr ⟨_, rfl, hl, hm, by simpa using hz, hcell, hwz⟩⟩
  clear hA0 hval0
  refine (policyBack_walk a0_0 a0_1 a0_2 a0_3 a0_4 a0_5 a0_6 a0_7 a0_8 a0_9 a0_10 a0_11 a0_12 ⟨bounds_i64 w0_0, bounds_u8 w0_1, bounds_u8 w0_2, bounds_u8 w0_3, bounds_u8 w0_4, bounds_i64 w0_5, bounds_u64 w0_6, bounds_u64 w0_7, bounds_u64 w0_8, bounds_u64 w0_9, bounds_u64 w0_10, bounds_u64 w0_11, bounds_u64 w0_12⟩ a1_0 a1_1 a1_2 a1_3 a1_4 a1_5 a1_6 a1_7 a1_8 a1_9 a1_10 a1_11 a1_12 ⟨bounds_i64 w1_0, bounds_u8 w1_1, bounds_u8 w1_2, bounds_u8 w1_3, bounds_u8 w1_4, bounds_i64 w1_5, bounds_u64 w1_6, bounds_u64 w1_7, bounds_u64 w1_8, bounds_u64 w1_9, bounds_u64 w1_10, bounds_u64 w1_11, bounds_u64 w1_12⟩ a2 len2 cap2 z2 w2).mono fun e W' ⟨he, bel⟩ => ?_
  subst he
  exact ⟨_, rfl, _, _, _, [], _, [], hW', trodAll_mk1 (shut_bool Try.underlying4 _), (trodAll_cons_mk (Below.trod laidOut (by kernel_rfl) (of_decide_eq_true (by kernel_rfl)) k0 bel lt0) (trodAll_cons_mk (Below.trod laidOut (by kernel_rfl) (of_decide_eq_true (by kernel_rfl)) k1 bel lt1) (trodAll_cons_mk (Below.trod laidOut (by kernel_rfl) (of_decide_eq_true (by kernel_rfl)) k2 bel lt2) trodAll_mk0))), rfl, bel.frame _, fun h => by cases h⟩
theorem over : Rows.policyBackRow.holds Try.pinned (OpenSpec.ofChange Rows.policyBackSpec) :=
  OpenClaim.holds_of_wide 4 Try.f4 rfl rfl rfl rfl rfl rfl rfl ⟨rfl, rfl, rfl, rfl, rfl⟩ rfl rfl rfl rfl rfl (by kernel_rfl) Try.func4 (by kernel_rfl)
    (of_decide_eq_true (by kernel_rfl)) (by unfold Func.isWrapper; first | (rw [if_pos (by decide +kernel)]; kernel_rfl) | (rw [if_neg (by decide +kernel)]; exact ⟨rfl, rfl⟩))
    (fun os started H enc _ => lifted os started H enc)
theorem proved : Rows.PolicyBackSaid := over
end Go.Proofs.Ytfcekicjlgdmaaa.policyBack
namespace Go.Proofs.Ytfcekicjlgdmaaa
/-- The statement, under a short name. -/
theorem policyBack_holds : Rows.PolicyBackSaid := policyBack.proved
#print axioms policyBack_holds
end Go.Proofs.Ytfcekicjlgdmaaa
