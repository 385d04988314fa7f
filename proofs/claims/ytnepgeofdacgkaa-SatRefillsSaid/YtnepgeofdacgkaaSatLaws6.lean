/- The walk of layer 1's law SatRefills. -/
import Derived.Test.YtnepgeofdacgkaaSatLaws5
set_option linter.unusedVariables false
set_option linter.unusedSimpArgs false
namespace Go.Proofs.Ytnepgeofdacgkaa
open Go.RowKit

set_option maxHeartbeats 2000000 in
theorem satRefills_walk (a : Int) (ha : 0 ≤ a ∧ a ≤ 18446744073709551615) (b : Int) (hb : 0 ≤ b ∧ b ≤ 18446744073709551615) (c : Int) (hc : 0 ≤ c ∧ c ≤ 18446744073709551615) (d : Int) (hd : 0 ≤ d ∧ d ≤ 18446744073709551615) (w : World) :
    Calls Try.prog 3 #[.agg #[.int .u64 a, .int .u64 b, .int .u64 c, .int .u64 d]] w fun e w' => e = .returned (.bool true) ∧ Below w.heap.size w w' := by
  have B0 : Bk (w.alloc (.cells #[.int .u64 a, .int .u64 b, .int .u64 c, .int .u64 d] 23)) w.heap.size #[.int .u64 a, .int .u64 b, .int .u64 c, .int .u64 d] 23 := bk_new w _ _
  replace B0 := Lib.hid B0
  go_enter Try.func3, Try.ntmps3
  go_wp2_with (fail)
  go_region_held3 (fun w' => w'.cell? ⟨w.heap.size, 0, none⟩ = some (.int .u64 a) ∧ w'.cell? ⟨w.heap.size, 1, none⟩ = some (.int .u64 b) ∧ w'.cell? ⟨w.heap.size, 2, none⟩ = some (.int .u64 c) ∧ w'.cell? ⟨w.heap.size, 3, none⟩ = some (.int .u64 d) ∧ w.heap.size < w'.heap.size)
    (first | go_keep | exact held4 (bk_below hB0 (bk_drew B0.out)) | exact held4 (bk_below hB2 (bk_below hB0 (bk_drew B0.out))) | exact held4 (bk_below hB3 (bk_below hB2 (bk_below hB0 (bk_drew B0.out)))) | exact held4 (bk_below hB4 (bk_below hB3 (bk_below hB2 (bk_below hB0 (bk_drew B0.out))))))
    (first | (go_at_call 12; (with_reducible refine (satAlive_any _).mono ?_); rintro e w0 ⟨rfl, hB0⟩) | (go_at_call 13; (with_reducible refine (refill_any a b c d _ ha.1 ha.2 hb.1 hb.2 hc.1 hc.2 hd.1 hd.2).mono ?_); rintro e w1 ⟨rfl, rfl⟩) | (go_at_call 14; (with_reducible refine (rrefill_any a b c d _ ha.1 ha.2 hb.1 hb.2 hc.1 hc.2 hd.1 hd.2).mono ?_); rintro e w2 ⟨rfl, hB2⟩) | (go_at_call 15; (with_reducible refine (cross_any a b c d _ ha.1 ha.2 hb.1 hb.2 hc.1 hc.2 hd.1 hd.2).mono ?_); rintro e w3 ⟨rfl, hB3⟩) | (go_at_call 16; (with_reducible refine (rcross_any a b c d _ ha.1 ha.2 hb.1 hb.2 hc.1 hc.2 hd.1 hd.2).mono ?_); rintro e w4 ⟨rfl, hB4⟩))
  go_wp2
  go_ret
  exact ⟨rfl, bl_then (bl_then (bl_then (bl_then (bl_drew (bl_alloc (Below.refl _ _) _)) hB0) hB2) hB3) hB4⟩
end Go.Proofs.Ytnepgeofdacgkaa
