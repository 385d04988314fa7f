/- The walks of layer 1's laws. -/
import Derived.Test.YtnepgeofdacgkaaRefs2
import Derived.Deep.RegionHeld3
set_option linter.unusedVariables false
set_option linter.unusedSimpArgs false
namespace Go.Proofs.Ytnepgeofdacgkaa
open Go.RowKit
attribute [local go_sem] max2_int min2_int max_two min_two

theorem satAlive_any (w : World) : Calls Try.prog 12 #[] w fun e w' => e = .returned (.bool true) ∧ Below w.heap.size w w' := by
  have e1 : satRefill 5 3 4 10 = 10 := by decide
  have e2 : satCross 2 3 1 7 = -1 := by decide
  have e3 : satAdd 2 3 = 5 := by decide
  have e4 : satMul 6 7 = 42 := by decide
  go_enter Try.func12, Try.ntmps12
  go_wp2_with (first | (go_at_call 13; (with_reducible refine (refill_any 5 3 4 10 _ (by decide) (by decide) (by decide) (by decide) (by decide) (by decide) (by decide) (by decide)).mono ?_); rintro e w1 ⟨rfl, rfl⟩) | (go_at_call 15; (with_reducible refine (cross_any 2 3 1 7 _ (by decide) (by decide) (by decide) (by decide) (by decide) (by decide) (by decide) (by decide)).mono ?_); rintro e w2 ⟨rfl, hB2⟩) | (go_at_call 17; (with_reducible refine (add_any 2 3 _ (by decide) (by decide) (by decide) (by decide)).mono ?_); rintro e w3 ⟨rfl, rfl⟩) | (go_at_call 18; (with_reducible refine (mul_any 6 7 _ (by decide) (by decide) (by decide) (by decide)).mono ?_); rintro e w4 ⟨rfl, rfl⟩))
  go_ret
  exact ⟨rfl, hB2⟩

theorem satSums_walk (a : Int) (ha : 0 ≤ a ∧ a ≤ 18446744073709551615) (b : Int) (hb : 0 ≤ b ∧ b ≤ 18446744073709551615) (w : World) :
    Calls Try.prog 6 #[.int .u64 a, .int .u64 b] w fun e w' => e = .returned (.bool true) ∧ Below w.heap.size w w' := by
  go_enter Try.func6, Try.ntmps6
  go_wp2_with (first | (go_at_call 12; (with_reducible refine (satAlive_any _).mono ?_); rintro e w0 ⟨rfl, hB0⟩) | (go_at_call 17; (with_reducible refine (add_any a b _ ha.1 ha.2 hb.1 hb.2).mono ?_); rintro e w1 ⟨rfl, rfl⟩) | (go_at_call 19; (with_reducible refine (radd_any a b _ ha.1 ha.2 hb.1 hb.2).mono ?_); rintro e w2 ⟨rfl, hB2⟩) | (go_at_call 20; (with_reducible refine (sub_any a b _ ha.1 ha.2 hb.1 hb.2).mono ?_); rintro e w3 ⟨rfl, rfl⟩) | (go_at_call 21; (with_reducible refine (rsub_any a b _ ha.1 ha.2 hb.1 hb.2).mono ?_); rintro e w4 ⟨rfl, hB4⟩) | (go_at_call 18; (with_reducible refine (mul_any a b _ ha.1 ha.2 hb.1 hb.2).mono ?_); rintro e w5 ⟨rfl, rfl⟩) | (go_at_call 22; (with_reducible refine (rmul_any a b _ ha.1 ha.2 hb.1 hb.2).mono ?_); rintro e w6 ⟨rfl, hB6⟩))
  go_ret
  exact ⟨rfl, bl_then (bl_then (bl_then hB0 hB2) hB4) hB6⟩

theorem satShifts_walk (a : Int) (ha : 0 ≤ a ∧ a ≤ 18446744073709551615) (n : Int) (hn : -9223372036854775808 ≤ n ∧ n ≤ 9223372036854775807) (w : World) :
    Calls Try.prog 10 #[.int .u64 a, .int .i64 n] w fun e w' => e = .returned (.bool true) ∧ Below w.heap.size w w' := by
  go_enter Try.func10, Try.ntmps10
  go_wp2_with (first | (go_at_call 12; (with_reducible refine (satAlive_any _).mono ?_); rintro e w0 ⟨rfl, hB0⟩) | (go_at_call 25; (with_reducible refine (shl_any a n _ ha.1 ha.2 hn.1 hn.2).mono ?_); rintro e w1 ⟨rfl, rfl⟩) | (go_at_call 26; (with_reducible refine (shr_any a n _ ha.1 ha.2 hn.1 hn.2).mono ?_); rintro e w3 ⟨rfl, rfl⟩) | (go_at_call 27; (with_reducible refine (rshl_any a n _ ha.1 ha.2 hn.1 hn.2).mono ?_); rintro e w2 ⟨rfl, hB2⟩) | (go_at_call 28; (with_reducible refine (rshr_any a n _ ha.1 ha.2 hn.1 hn.2).mono ?_); rintro e w4 ⟨rfl, rfl⟩) | (go_at_call 29; (with_reducible refine (log_any a _ ha.1 ha.2).mono ?_); rintro e w5 ⟨rfl, rfl⟩) | (go_at_call 30; (with_reducible refine (rlog_any a _ ha.1 ha.2).mono ?_); rintro e w6 ⟨rfl, rfl⟩))
  go_ret
  exact ⟨rfl, bl_then hB0 hB2⟩

theorem satEnds_walk  (w : World) :
    Calls Try.prog 9 #[] w fun e w' => e = .returned (.bool true) ∧ Below w.heap.size w w' := by
  have e1 : satAdd 18446744073709551615 1 = 18446744073709551615 := by decide
  have e2 : satMul 4294967296 4294967296 = 18446744073709551615 := by decide
  have e3 : satSub 3 5 = 0 := by decide
  have e4 : satShl 1 64 = 18446744073709551615 := by decide +kernel
  have e5 : satShl 1 63 = 9223372036854775808 := by decide +kernel
  have e6 : satShr 1 64 = 0 := by decide +kernel
  have e7 : satShl 0 999 = 0 := by decide +kernel
  go_enter Try.func9, Try.ntmps9
  go_wp2_with (first | (go_at_call 12; (with_reducible refine (satAlive_any _).mono ?_); rintro e w0 ⟨rfl, hB0⟩) | (go_at_call 17; (with_reducible refine (add_any 18446744073709551615 1 _ (by decide) (by decide) (by decide) (by decide)).mono ?_); rintro e w1 ⟨rfl, rfl⟩) | (go_at_call 18; (with_reducible refine (mul_any 4294967296 4294967296 _ (by decide) (by decide) (by decide) (by decide)).mono ?_); rintro e w2 ⟨rfl, rfl⟩) | (go_at_call 20; (with_reducible refine (sub_any 3 5 _ (by decide) (by decide) (by decide) (by decide)).mono ?_); rintro e w3 ⟨rfl, rfl⟩) | (go_at_call 25; (with_reducible refine (shl_any 1 64 _ (by decide) (by decide) (by decide) (by decide)).mono ?_); rintro e w4 ⟨rfl, rfl⟩) | (go_at_call 25; (with_reducible refine (shl_any 1 63 _ (by decide) (by decide) (by decide) (by decide)).mono ?_); rintro e w4 ⟨rfl, rfl⟩) | (go_at_call 25; (with_reducible refine (shl_any 0 999 _ (by decide) (by decide) (by decide) (by decide)).mono ?_); rintro e w4 ⟨rfl, rfl⟩) | (go_at_call 26; (with_reducible refine (shr_any 1 64 _ (by decide) (by decide) (by decide) (by decide)).mono ?_); rintro e w5 ⟨rfl, rfl⟩))
  go_ret
  exact ⟨rfl, hB0⟩
end Go.Proofs.Ytnepgeofdacgkaa
