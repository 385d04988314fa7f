/- The law BucketMore of the given program returns true for every input, and each argument reads afterwards as before. No condition. -/
import Derived.Test.YtbhhckeccpodmaaRows
import Derived.Test.YtbhhckeccpodmaaBucket4
import Derived.WalkKit
import Derived.ProofKit
import Derived.OpenShut
import Derived.ShutString
import Derived.ChangeOld
import Derived.Below
import Derived.SizedLaws
namespace Go.Proofs.Ytbhhckeccpodmaa.bucketMore
open Go.ChangeShapes Go.WideShapes Go.ChangeAt Go.RowKit
open Go.ChangeMaps (open_string shut_string)
set_option linter.unusedVariables false
set_option linter.unusedSimpArgs false
theorem own : ownKnob Try.prog.godebug = none := by kernel_rfl
theorem laidOut : laidOutB Try.prog = true := by kernel_rfl
theorem list2 {α : Type} (l : List α) (h : (⟨l⟩ : Array α).size = 2) : ∃ a b, l = [a, b] := by
  match l, h with
  | [a, b], _ => exact ⟨a, b, rfl⟩
set_option maxRecDepth 100000 in
theorem lifted (os : Os) (started : os.Started) (H : Type) (enc : TypeId × Value → H) :
    ReturnsInHanded {} Try.checked os 11 .any (Rows.bucketMoreSpec.pre6 enc Try.prog Try.f11 Rows.bucketMoreRow.domain false) (Rows.bucketMoreSpec.post enc Try.prog Try.f11 false true false false) := by
  refine returnsInHanded_of_change (C := Try.checked) own started (by kernel_rfl) Try.func11
    (ChangeSpec.witness6 (enc := enc) (C := Try.checked) false ⟨#[], #[.int .u64 0, .agg #[.int .u64 0, .int .u64 0], .slice none 0 0], []⟩ 8 (by kernel_rfl) (by kernel_rfl) (by kernel_rfl) (by kernel_rfl)) ?_
  intro W base args ds gs before hval0 hW hcnd _
  have hval : ∀ (j : Nat) t v, Try.f11.params[j]? = some t → args[j]? = some v → Value.okWide Try.prog W .any base t v := hval0
  have hW' := hW
  obtain ⟨p, q, hA0, hV, rfl, hfz, hnd⟩ := hW
  have hA : DataW.TrodAll enc Try.prog W 0 (fun _ => true) true Try.f11.params.toList args.toList ds p := hA0
  rw [Try.params11] at hA hval
  obtain ⟨v0, vs0, d0, ds0, p0, q0, hargs, rfl, rfl, h0, r0⟩ := trodAll_cons hA
  obtain ⟨v1, vs1, d1, ds1, p1, q1, rfl, rfl, rfl, h1, r1⟩ := trodAll_cons r0
  obtain ⟨v2, vs2, d2, ds2, p2, q2, rfl, rfl, rfl, h2, r2⟩ := trodAll_cons r1
  obtain ⟨rfl, rfl, rfl⟩ := trodAll_nil r2
  obtain rfl : args = #[v0, v1, v2] := by cases args; simp_all
  obtain ⟨rfl, rfl⟩ := trodVars_none hV
  obtain ⟨a0, rfl, rfl, rfl, w0⟩ := open_int Try.underlying22 (hval 0 22 v0 rfl rfl) h0
  have k1 := h1
  have lt1 : ∀ x ∈ p1, x.block < W.heap.size := by obtain ⟨m, hm⟩ := k1; exact DataW.trod_lt m _ _ _ hm
  obtain ⟨cs1, rfl, hs1, _⟩ : ∃ cs, v1 = .agg cs ∧ cs.size = Try.prog.cellsOf 55 ∧ Row.okWide Try.prog W .any base 55 cs := by
    have := hval 1 55 v1 rfl rfl
    simpa [Value.okWide, Try.underlying55] using this
  have hz1 : cs1.size = 2 := hs1.trans (by kernel_rfl)
  obtain ⟨l1⟩ := cs1
  obtain ⟨c1_0, c1_1, rfl⟩ := list2 l1 hz1
  obtain ⟨f1, hf1⟩ := h1
  obtain ⟨ys1, m1, _, _, _, hl1, hg1⟩ := Go.DataW.trod_array Try.underlying55 hf1
  have one1 : Try.prog.cellsOf 22 = 1 := by kernel_rfl
  rw [one1] at hg1
  have hy1_0 := hg1 0 (by omega)
  have hy1_1 := hg1 1 (by omega)
  have q1 : ∃ y1_0 y1_1 : DataW H × List MemPlace, ys1 = [y1_0, y1_1] := by match ys1, hl1 with | [y1_0, y1_1], _ => exact ⟨_, _, rfl⟩
  obtain ⟨y1_0, y1_1, rfl⟩ := q1
  obtain ⟨a1_0, e1_0, _, w1_0⟩ := DataW.trod_int Try.underlying22 hy1_0
  have b1_0 : c1_0 = .int .u64 a1_0 := by simpa [Value.cells] using e1_0
  subst b1_0
  obtain ⟨a1_1, e1_1, _, w1_1⟩ := DataW.trod_int Try.underlying22 hy1_1
  have b1_1 : c1_1 = .int .u64 a1_1 := by simpa [Value.cells] using e1_1
  subst b1_1
  obtain ⟨a2, len2, cap2, rfl⟩ := okWide_slice Try.underlying43 (hval 2 43 v2 rfl rfl)
  have k2 := h2
  have lt2 : ∀ x ∈ p2, x.block < W.heap.size := by obtain ⟨m, hm⟩ := k2; exact DataW.trod_lt m _ _ _ hm
  have w2 : IsFlat [.i .i64, .i .u64, .i .u64] W a2 len2 cap2 := by
    obtain ⟨fuel, hf⟩ := h2
    exact isFlat_of (f := 6) Try.underlying43 (by kernel_rfl) (by kernel_rfl) hf
  clear hA0 hval0
  refine (bucketMore_walk a0 (bounds_u64 w0) a1_0 (bounds_u64 w1_0) a1_1 (bounds_u64 w1_1) a2 len2 cap2 w2).mono fun e W' ⟨he, bel⟩ => ?_
  subst he
  exact ⟨_, rfl, _, _, _, [], _, [], hW', trodAll_mk1 (shut_bool Try.underlying4 _), (trodAll_cons_mk (shut_int Try.underlying22 w0) (trodAll_cons_mk (Below.trod laidOut (by kernel_rfl) (of_decide_eq_true (by kernel_rfl)) k1 bel lt1) (trodAll_cons_mk (Below.trod laidOut (by kernel_rfl) (of_decide_eq_true (by kernel_rfl)) k2 bel lt2) trodAll_mk0))), rfl, bel.frame _, fun h => by cases h⟩
theorem over : Rows.bucketMoreRow.holds Try.pinned (OpenSpec.ofChange Rows.bucketMoreSpec) :=
  OpenClaim.holds_of_wide 11 Try.f11 rfl rfl rfl rfl rfl rfl rfl ⟨rfl, rfl, rfl, rfl, rfl⟩ rfl rfl rfl rfl rfl (by kernel_rfl) Try.func11 (by kernel_rfl)
    (of_decide_eq_true (by kernel_rfl)) (by unfold Func.isWrapper; first | (rw [if_pos (by decide +kernel)]; kernel_rfl) | (rw [if_neg (by decide +kernel)]; exact ⟨rfl, rfl⟩))
    (fun os started H enc _ => lifted os started H enc)
theorem proved : Rows.BucketMoreSaid := over
end Go.Proofs.Ytbhhckeccpodmaa.bucketMore
namespace Go.Proofs.Ytbhhckeccpodmaa
/-- The statement, under a short name. -/
theorem bucketMore_holds : Rows.BucketMoreSaid := bucketMore.proved
#print axioms bucketMore_holds
end Go.Proofs.Ytbhhckeccpodmaa
