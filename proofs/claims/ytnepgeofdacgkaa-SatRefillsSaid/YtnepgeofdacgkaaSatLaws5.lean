/- The walks of layer 1's laws: SatParts, SatRefills. -/
import Derived.Test.YtnepgeofdacgkaaSatLaws4
set_option linter.unusedVariables false
set_option linter.unusedSimpArgs false
namespace Go.Proofs.Ytnepgeofdacgkaa
open Go.RowKit
attribute [local go_sem] max2_int min2_int max_two min_two

theorem refill_sum {l r t h : Int} (hl : 0 ≤ l) (hr : 0 ≤ r) (ht : 0 ≤ t) (hh : h ≤ 18446744073709551615) : satRefill l r t h = if l + r * t ≤ h then l + r * t else h := by
  have := Int.mul_nonneg hr ht
  unfold satRefill satMin satAdd satMul
  generalize r * t = p at *
  repeat' split
  all_goals omega
theorem refill_parts {l r p q h : Int} (hl : 0 ≤ l) (hlh : l ≤ h) (hr : 0 ≤ r) (hp : 0 ≤ p) (hq : 0 ≤ q) (hh : h ≤ 18446744073709551615) :
    satRefill (satRefill l r p h) r q h = satRefill l r (p + q) h ∧ l ≤ satRefill l r (p + q) h ∧ satRefill l r (p + q) h ≤ h := by
  have b1 := Int.mul_nonneg hr hp
  have b2 := Int.mul_nonneg hr hq
  have e := Int.mul_add r p q
  rw [refill_sum hl hr (show 0 ≤ p + q by omega) hh, refill_sum hl hr hp hh, e]
  have b3 : 0 ≤ (if l + r * p ≤ h then l + r * p else h) := by split <;> omega
  rw [refill_sum b3 hr hq hh]
  generalize r * p = x at *
  generalize r * q = y at *
  refine ⟨?_, ?_, ?_⟩
  all_goals repeat' split
  all_goals omega

set_option maxHeartbeats 800000 in
theorem satParts_low (a r h p q : Int) (ha : 0 ≤ a ∧ a ≤ 18446744073709551615) (hr : 0 ≤ r ∧ r ≤ 18446744073709551615) (hh : 0 ≤ h ∧ h ≤ 18446744073709551615) (hp : 0 ≤ p ∧ p ≤ 9223372036854775807) (hq : 0 ≤ q ∧ q ≤ 9223372036854775807)
    (c : h < a) (w : World) :
    Calls Try.prog 4 #[.agg #[.int .u64 a, .int .u64 r, .int .u64 h], .agg #[.int .u64 p, .int .u64 q]] w fun e w' => e = .returned (.bool true) ∧ Below w.heap.size w w' := by
  have hl0 : 0 ≤ h ∧ h ≤ h := by omega
  have b1 := satRefill_bd hl0.1 hr.1 hp.1 hh.1
  obtain ⟨e1, e2, e3⟩ := refill_parts hl0.1 hl0.2 hr.1 hp.1 hq.1 hh.2
  have e4 := (beq_true e1).1
  clear e1
  go_enter Try.func4, Try.ntmps4
  go_wp2_with (first | (go_at_call 12; (with_reducible refine (satAlive_any _).mono ?_); rintro e w0 ⟨rfl, hB0⟩; obtain ⟨hc0, hf0⟩ := bl_cells hB0))
  go_quiet (fail)
  go_wp2
  go_quiet ((first | (go_at_call 13; (with_reducible refine (refill_any h r p h _ hl0.1 (by omega) hr.1 hr.2 hp.1 (by omega) hh.1 hh.2).mono ?_); exact fun _ _ k => ⟨k.1, _, k.2.symm⟩) | (go_at_call 13; (with_reducible refine (refill_any (satRefill h r p h) r q h _ b1.1 (by omega) hr.1 hr.2 hq.1 (by omega) hh.1 hh.2).mono ?_); exact fun _ _ k => ⟨k.1, _, k.2.symm⟩)))
  go_wp2_with (first | (go_at_call 13; (with_reducible refine (refill_any h r (p + q) h _ hl0.1 (by omega) hr.1 hr.2 (by omega) (by omega) hh.1 hh.2).mono ?_); rintro e w5 ⟨rfl, rfl⟩))
  go_ret
  exact ⟨rfl, by repeat (with_reducible first | exact Below.refl _ _ | apply bl_alloc | apply bl_drewN | apply bl_drew | refine bl_then ?_ hB0)⟩

set_option maxHeartbeats 800000 in
theorem satParts_high (a r h p q : Int) (ha : 0 ≤ a ∧ a ≤ 18446744073709551615) (hr : 0 ≤ r ∧ r ≤ 18446744073709551615) (hh : 0 ≤ h ∧ h ≤ 18446744073709551615) (hp : 0 ≤ p ∧ p ≤ 9223372036854775807) (hq : 0 ≤ q ∧ q ≤ 9223372036854775807)
    (c : ¬ h < a) (w : World) :
    Calls Try.prog 4 #[.agg #[.int .u64 a, .int .u64 r, .int .u64 h], .agg #[.int .u64 p, .int .u64 q]] w fun e w' => e = .returned (.bool true) ∧ Below w.heap.size w w' := by
  have hl0 : 0 ≤ a ∧ a ≤ h := by omega
  have b1 := satRefill_bd hl0.1 hr.1 hp.1 hh.1
  obtain ⟨e1, e2, e3⟩ := refill_parts hl0.1 hl0.2 hr.1 hp.1 hq.1 hh.2
  have e4 := (beq_true e1).1
  clear e1
  go_enter Try.func4, Try.ntmps4
  go_wp2_with (first | (go_at_call 12; (with_reducible refine (satAlive_any _).mono ?_); rintro e w0 ⟨rfl, hB0⟩; obtain ⟨hc0, hf0⟩ := bl_cells hB0))
  go_quiet (fail)
  go_wp2
  go_quiet ((first | (go_at_call 13; (with_reducible refine (refill_any a r p h _ hl0.1 (by omega) hr.1 hr.2 hp.1 (by omega) hh.1 hh.2).mono ?_); exact fun _ _ k => ⟨k.1, _, k.2.symm⟩) | (go_at_call 13; (with_reducible refine (refill_any (satRefill a r p h) r q h _ b1.1 (by omega) hr.1 hr.2 hq.1 (by omega) hh.1 hh.2).mono ?_); exact fun _ _ k => ⟨k.1, _, k.2.symm⟩)))
  go_wp2_with (first | (go_at_call 13; (with_reducible refine (refill_any a r (p + q) h _ hl0.1 (by omega) hr.1 hr.2 (by omega) (by omega) hh.1 hh.2).mono ?_); rintro e w5 ⟨rfl, rfl⟩))
  go_ret
  exact ⟨rfl, by repeat (with_reducible first | exact Below.refl _ _ | apply bl_alloc | apply bl_drewN | apply bl_drew | refine bl_then ?_ hB0)⟩

theorem satParts_walk (a : Int) (ha : 0 ≤ a ∧ a ≤ 18446744073709551615) (r : Int) (hr : 0 ≤ r ∧ r ≤ 18446744073709551615) (h : Int) (hh : 0 ≤ h ∧ h ≤ 18446744073709551615) (p : Int) (hp : 0 ≤ p ∧ p ≤ 18446744073709551615) (q : Int) (hq : 0 ≤ q ∧ q ≤ 18446744073709551615) (w : World) :
    Calls Try.prog 4 #[.agg #[.int .u64 a, .int .u64 r, .int .u64 h], .agg #[.int .u64 p, .int .u64 q]] w fun e w' => e = .returned (.bool true) ∧ Below w.heap.size w w' := by
  by_cases k1 : p ≤ 9223372036854775807
  · by_cases k2 : q ≤ 9223372036854775807
    · by_cases c : h < a
      · exact satParts_low a r h p q ha hr hh ⟨hp.1, k1⟩ ⟨hq.1, k2⟩ c w
      · exact satParts_high a r h p q ha hr hh ⟨hp.1, k1⟩ ⟨hq.1, k2⟩ c w
    · go_enter Try.func4, Try.ntmps4
      go_wp2_with ((go_at_call 12; (with_reducible refine (satAlive_any _).mono ?_); rintro e w0 ⟨rfl, hB0⟩; obtain ⟨hc0, hf0⟩ := bl_cells hB0))
      go_quiet (fail)
      go_wp2
      all_goals (go_ret; exact ⟨rfl, by repeat (with_reducible first | exact Below.refl _ _ | apply bl_alloc | apply bl_drewN | apply bl_drew | refine bl_then ?_ hB0)⟩)
  · go_enter Try.func4, Try.ntmps4
    go_wp2_with ((go_at_call 12; (with_reducible refine (satAlive_any _).mono ?_); rintro e w0 ⟨rfl, hB0⟩; obtain ⟨hc0, hf0⟩ := bl_cells hB0))
    go_quiet (fail)
    go_wp2
    all_goals (go_ret; exact ⟨rfl, by repeat (with_reducible first | exact Below.refl _ _ | apply bl_alloc | apply bl_drewN | apply bl_drew | refine bl_then ?_ hB0)⟩)
end Go.Proofs.Ytnepgeofdacgkaa
