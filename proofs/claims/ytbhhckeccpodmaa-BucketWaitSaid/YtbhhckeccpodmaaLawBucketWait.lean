/- The law BucketWait of the given program returns true for every input, and each argument reads afterwards as before. No condition. -/
import Derived.Test.YtbhhckeccpodmaaRows
import Derived.Test.YtbhhckeccpodmaaBucket3
import Derived.WalkKit
import Derived.ProofKit
import Derived.OpenShut
import Derived.ShutString
import Derived.ChangeOld
import Derived.Below
import Derived.SizedLaws
namespace Go.Proofs.Ytbhhckeccpodmaa.bucketWait
open Go.ChangeShapes Go.WideShapes Go.ChangeAt Go.RowKit
open Go.ChangeMaps (open_string shut_string)
set_option linter.unusedVariables false
set_option linter.unusedSimpArgs false
theorem own : ownKnob Try.prog.godebug = none := by kernel_rfl
theorem laidOut : laidOutB Try.prog = true := by kernel_rfl
theorem list3 {α : Type} (l : List α) (h : (⟨l⟩ : Array α).size = 3) : ∃ a b c, l = [a, b, c] := by
  match l, h with
  | [a, b, c], _ => exact ⟨a, b, c, rfl⟩
set_option maxRecDepth 100000 in
theorem lifted (os : Os) (started : os.Started) (H : Type) (enc : TypeId × Value → H) :
    ReturnsInHanded {} Try.checked os 10 .any (Rows.bucketWaitSpec.pre6 enc Try.prog Try.f10 Rows.bucketWaitRow.domain false) (Rows.bucketWaitSpec.post enc Try.prog Try.f10 false true false false) := by
  refine returnsInHanded_of_change (C := Try.checked) own started (by kernel_rfl) Try.func10
    (ChangeSpec.witness6 (enc := enc) (C := Try.checked) false ⟨#[], #[.int .u64 0, .int .u64 0, .agg #[.int .u64 0, .int .u64 0, .int .u64 0]], []⟩ 8 (by kernel_rfl) (by kernel_rfl) (by kernel_rfl) (by kernel_rfl)) ?_
  intro W base args ds gs before hval0 hW hcnd _
  have hval : ∀ (j : Nat) t v, Try.f10.params[j]? = some t → args[j]? = some v → Value.okWide Try.prog W .any base t v := hval0
  have hW' := hW
  obtain ⟨p, q, hA0, hV, rfl, hfz, hnd⟩ := hW
  have hA : DataW.TrodAll enc Try.prog W 0 (fun _ => true) true Try.f10.params.toList args.toList ds p := hA0
  rw [Try.params10] at hA hval
  obtain ⟨v0, vs0, d0, ds0, p0, q0, hargs, rfl, rfl, h0, r0⟩ := trodAll_cons hA
  obtain ⟨v1, vs1, d1, ds1, p1, q1, rfl, rfl, rfl, h1, r1⟩ := trodAll_cons r0
  obtain ⟨v2, vs2, d2, ds2, p2, q2, rfl, rfl, rfl, h2, r2⟩ := trodAll_cons r1
  obtain ⟨rfl, rfl, rfl⟩ := trodAll_nil r2
  obtain rfl : args = #[v0, v1, v2] := by cases args; simp_all
  obtain ⟨rfl, rfl⟩ := trodVars_none hV
  obtain ⟨a0, rfl, rfl, rfl, w0⟩ := open_int Try.underlying22 (hval 0 22 v0 rfl rfl) h0
  obtain ⟨a1, rfl, rfl, rfl, w1⟩ := open_int Try.underlying22 (hval 1 22 v1 rfl rfl) h1
  have k2 := h2
  have lt2 : ∀ x ∈ p2, x.block < W.heap.size := by obtain ⟨m, hm⟩ := k2; exact DataW.trod_lt m _ _ _ hm
  obtain ⟨cs2, rfl, hs2, _⟩ : ∃ cs, v2 = .agg cs ∧ cs.size = Try.prog.cellsOf 53 ∧ Row.okWide Try.prog W .any base 53 cs := by
    have := hval 2 53 v2 rfl rfl
    simpa [Value.okWide, Try.underlying53] using this
  have hz2 : cs2.size = 3 := hs2.trans (by kernel_rfl)
  obtain ⟨l2⟩ := cs2
  obtain ⟨c2_0, c2_1, c2_2, rfl⟩ := list3 l2 hz2
  obtain ⟨f2, hf2⟩ := h2
  obtain ⟨ys2, m2, _, _, _, hl2, hg2⟩ := Go.DataW.trod_array Try.underlying53 hf2
  have one2 : Try.prog.cellsOf 22 = 1 := by kernel_rfl
  rw [one2] at hg2
  have hy2_0 := hg2 0 (by omega)
  have hy2_1 := hg2 1 (by omega)
  have hy2_2 := hg2 2 (by omega)
  have q2 : ∃ y2_0 y2_1 y2_2 : DataW H × List MemPlace, ys2 = [y2_0, y2_1, y2_2] := by match ys2, hl2 with | [y2_0, y2_1, y2_2], _ => exact ⟨_, _, _, rfl⟩
  obtain ⟨y2_0, y2_1, y2_2, rfl⟩ := q2
  obtain ⟨a2_0, e2_0, _, w2_0⟩ := DataW.trod_int Try.underlying22 hy2_0
  have b2_0 : c2_0 = .int .u64 a2_0 := by simpa [Value.cells] using e2_0
  subst b2_0
  obtain ⟨a2_1, e2_1, _, w2_1⟩ := DataW.trod_int Try.underlying22 hy2_1
  have b2_1 : c2_1 = .int .u64 a2_1 := by simpa [Value.cells] using e2_1
  subst b2_1
  obtain ⟨a2_2, e2_2, _, w2_2⟩ := DataW.trod_int Try.underlying22 hy2_2
  have b2_2 : c2_2 = .int .u64 a2_2 := by simpa [Value.cells] using e2_2
  subst b2_2
  clear hA0 hval0
  refine (bucketWait_walk a0 (bounds_u64 w0) a1 (bounds_u64 w1) a2_0 (bounds_u64 w2_0) a2_1 (bounds_u64 w2_1) a2_2 (bounds_u64 w2_2) W).mono fun e W' ⟨he, bel⟩ => ?_
  subst he
  exact ⟨_, rfl, _, _, _, [], _, [], hW', trodAll_mk1 (shut_bool Try.underlying4 _), (trodAll_cons_mk (shut_int Try.underlying22 w0) (trodAll_cons_mk (shut_int Try.underlying22 w1) (trodAll_cons_mk (Below.trod laidOut (by kernel_rfl) (of_decide_eq_true (by kernel_rfl)) k2 bel lt2) trodAll_mk0))), rfl, bel.frame _, fun h => by cases h⟩
theorem over : Rows.bucketWaitRow.holds Try.pinned (OpenSpec.ofChange Rows.bucketWaitSpec) :=
  OpenClaim.holds_of_wide 10 Try.f10 rfl rfl rfl rfl rfl rfl rfl ⟨rfl, rfl, rfl, rfl, rfl⟩ rfl rfl rfl rfl rfl (by kernel_rfl) Try.func10 (by kernel_rfl)
    (of_decide_eq_true (by kernel_rfl)) (by unfold Func.isWrapper; first | (rw [if_pos (by decide +kernel)]; kernel_rfl) | (rw [if_neg (by decide +kernel)]; exact ⟨rfl, rfl⟩))
    (fun os started H enc _ => lifted os started H enc)
theorem proved : Rows.BucketWaitSaid := over
end Go.Proofs.Ytbhhckeccpodmaa.bucketWait
namespace Go.Proofs.Ytbhhckeccpodmaa
/-- The statement, under a short name. -/
theorem bucketWait_holds : Rows.BucketWaitSaid := bucketWait.proved
#print axioms bucketWait_holds
end Go.Proofs.Ytbhhckeccpodmaa
