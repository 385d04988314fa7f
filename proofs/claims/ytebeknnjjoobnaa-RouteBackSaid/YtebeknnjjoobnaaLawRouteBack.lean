/- The law RouteBack of the given program returns true for every input, and each argument reads afterwards as before. No condition. -/
import Derived.Test.YtebeknnjjoobnaaRows
import Derived.Test.YtebeknnjjoobnaaRouteB
import Derived.WalkKit
import Derived.ProofKit
import Derived.OpenShut
import Derived.ShutString
import Derived.ChangeOld
import Derived.Below
import Derived.SizedLaws
namespace Go.Proofs.Ytebeknnjjoobnaa.routeBack
open Go.ChangeShapes Go.WideShapes Go.ChangeAt Go.RowKit
open Go.ChangeMaps (open_string shut_string)
set_option linter.unusedVariables false
set_option linter.unusedSimpArgs false
theorem own : ownKnob Try.prog.godebug = none := by kernel_rfl
theorem laidOut : laidOutB Try.prog = true := by kernel_rfl
set_option maxRecDepth 100000 in
theorem lifted (os : Os) (started : os.Started) (H : Type) (enc : TypeId × Value → H) :
    ReturnsInHanded {} Try.checked os 6 .any (Rows.routeBackSpec.pre6 enc Try.prog Try.f6 Rows.routeBackRow.domain false) (Rows.routeBackSpec.post enc Try.prog Try.f6 false true false false) := by
  refine returnsInHanded_of_change (C := Try.checked) own started (by kernel_rfl) Try.func6
    (ChangeSpec.witness6 (enc := enc) (C := Try.checked) false ⟨#[], #[.slice none 0 0, .agg #[.int .u8 0, .int .u8 0, .int .u8 0, .int .u8 0, .int .i64 0], .agg #[.int .u8 0, .int .u8 0, .int .u8 0, .int .u8 0]], []⟩ 8 (by kernel_rfl) (by kernel_rfl) (by kernel_rfl) (by kernel_rfl)) ?_
  intro W base args ds gs before hval0 hW hcnd _
  have hval : ∀ (j : Nat) t v, Try.f6.params[j]? = some t → args[j]? = some v → Value.okWide Try.prog W .any base t v := hval0
  have hW' := hW
  obtain ⟨p, q, hA0, hV, rfl, hfz, hnd⟩ := hW
  have hA : DataW.TrodAll enc Try.prog W 0 (fun _ => true) true Try.f6.params.toList args.toList ds p := hA0
  rw [Try.params6] at hA hval
  obtain ⟨v0, vs0, d0, ds0, p0, q0, hargs, rfl, rfl, h0, r0⟩ := trodAll_cons hA
  obtain ⟨v1, vs1, d1, ds1, p1, q1, rfl, rfl, rfl, h1, r1⟩ := trodAll_cons r0
  obtain ⟨v2, vs2, d2, ds2, p2, q2, rfl, rfl, rfl, h2, r2⟩ := trodAll_cons r1
  obtain ⟨rfl, rfl, rfl⟩ := trodAll_nil r2
  obtain rfl : args = #[v0, v1, v2] := by cases args; simp_all
  obtain ⟨rfl, rfl⟩ := trodVars_none hV
  obtain ⟨a0, len0, cap0, rfl⟩ := okWide_slice Try.underlying32 (hval 0 32 v0 rfl rfl)
  have k0 := h0
  have lt0 : ∀ x ∈ p0, x.block < W.heap.size := by obtain ⟨m, hm⟩ := k0; exact DataW.trod_lt m _ _ _ hm
  have w0 : IsFlat [.i .u8, .i .u8, .i .u8, .i .u8, .i .i64] W a0 len0 cap0 := by
    obtain ⟨fuel, hf⟩ := h0
    exact isFlat_of (f := 6) Try.underlying32 (by kernel_rfl) (by kernel_rfl) hf
  have k1 := h1
  have lt1 : ∀ x ∈ p1, x.block < W.heap.size := by obtain ⟨m, hm⟩ := k1; exact DataW.trod_lt m _ _ _ hm
  obtain ⟨cs1, rfl, hs1, _⟩ : ∃ cs, v1 = .agg cs ∧ cs.size = Try.prog.cellsOf 29 ∧ Row.okWide Try.prog W .any base 29 cs := by
    have := hval 1 29 v1 rfl rfl
    simpa [Value.okWide, Try.underlying29] using this
  obtain ⟨l1⟩ := cs1
  have g1 : Fits [.i .u8, .i .u8, .i .u8, .i .u8, .i .i64] l1 := by
    obtain ⟨fuel, hf⟩ := h1
    exact leaves_fits 8 29 _ fuel l1 _ (by kernel_rfl) (by simpa [Value.cells] using hf)
  obtain ⟨a1_0, l1, rfl, w1_0, g1⟩ := ff_i g1
  obtain ⟨a1_1, l1, rfl, w1_1, g1⟩ := ff_i g1
  obtain ⟨a1_2, l1, rfl, w1_2, g1⟩ := ff_i g1
  obtain ⟨a1_3, l1, rfl, w1_3, g1⟩ := ff_i g1
  obtain ⟨a1_4, l1, rfl, w1_4, g1⟩ := ff_i g1
  obtain rfl := ff_nil g1
  have k2 := h2
  have lt2 : ∀ x ∈ p2, x.block < W.heap.size := by obtain ⟨m, hm⟩ := k2; exact DataW.trod_lt m _ _ _ hm
  obtain ⟨cs2, rfl, hs2, _⟩ : ∃ cs, v2 = .agg cs ∧ cs.size = Try.prog.cellsOf 27 ∧ Row.okWide Try.prog W .any base 27 cs := by
    have := hval 2 27 v2 rfl rfl
    simpa [Value.okWide, Try.underlying27] using this
  obtain ⟨l2⟩ := cs2
  have g2 : Fits [.i .u8, .i .u8, .i .u8, .i .u8] l2 := by
    obtain ⟨fuel, hf⟩ := h2
    exact leaves_fits 8 27 _ fuel l2 _ (by kernel_rfl) (by simpa [Value.cells] using hf)
  obtain ⟨a2_0, l2, rfl, w2_0, g2⟩ := ff_i g2
  obtain ⟨a2_1, l2, rfl, w2_1, g2⟩ := ff_i g2
  obtain ⟨a2_2, l2, rfl, w2_2, g2⟩ := ff_i g2
  obtain ⟨a2_3, l2, rfl, w2_3, g2⟩ := ff_i g2
  obtain rfl := ff_nil g2
  clear hA0 hval0
  refine (routeBack_walk a0 len0 cap0 w0 a1_0 a1_1 a1_2 a1_3 a1_4 ⟨bounds_u8 w1_0, bounds_u8 w1_1, bounds_u8 w1_2, bounds_u8 w1_3, bounds_i64 w1_4⟩ a2_0 a2_1 a2_2 a2_3 ⟨bounds_u8 w2_0, bounds_u8 w2_1, bounds_u8 w2_2, bounds_u8 w2_3⟩).mono fun e W' ⟨he, bel⟩ => ?_
  subst he
  exact ⟨_, rfl, _, _, _, [], _, [], hW', trodAll_mk1 (shut_bool Try.underlying4 _), (trodAll_cons_mk (Below.trod laidOut (by kernel_rfl) (of_decide_eq_true (by kernel_rfl)) k0 bel lt0) (trodAll_cons_mk (Below.trod laidOut (by kernel_rfl) (of_decide_eq_true (by kernel_rfl)) k1 bel lt1) (trodAll_cons_mk (Below.trod laidOut (by kernel_rfl) (of_decide_eq_true (by kernel_rfl)) k2 bel lt2) trodAll_mk0))), rfl, bel.frame _, fun h => by cases h⟩
theorem over : Rows.routeBackRow.holds Try.pinned (OpenSpec.ofChange Rows.routeBackSpec) :=
  OpenClaim.holds_of_wide 6 Try.f6 rfl rfl rfl rfl rfl rfl rfl ⟨rfl, rfl, rfl, rfl, rfl⟩ rfl rfl rfl rfl rfl (by kernel_rfl) Try.func6 (by kernel_rfl)
    (of_decide_eq_true (by kernel_rfl)) (by unfold Func.isWrapper; first | (rw [if_pos (by decide +kernel)]; kernel_rfl) | (rw [if_neg (by decide +kernel)]; exact ⟨rfl, rfl⟩))
    (fun os started H enc _ => lifted os started H enc)
theorem proved : Rows.RouteBackSaid := over
end Go.Proofs.Ytebeknnjjoobnaa.routeBack
namespace Go.Proofs.Ytebeknnjjoobnaa
/-- The statement, under a short name. -/
theorem routeBack_holds : Rows.RouteBackSaid := routeBack.proved
#print axioms routeBack_holds
end Go.Proofs.Ytebeknnjjoobnaa
