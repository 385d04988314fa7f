/- Contracts of the reference's wide numbers, on: Less, Cut, and what is made of them. -/
import Derived.Test.YtbhhckeccpodmaaWide
set_option linter.unusedVariables false
set_option linter.unusedSimpArgs false
namespace Go.Proofs.Ytbhhckeccpodmaa
open Go.RowKit

def lessL (x0 x1 x2 x3 y0 y1 y2 y3 : Int) : Int := if x3 < y3 then -1 else if y3 < x3 then 1 else if x2 < y2 then -1 else if y2 < x2 then 1 else if x1 < y1 then -1 else if y1 < x1 then 1 else if x0 < y0 then -1 else if y0 < x0 then 1 else 0
set_option maxHeartbeats 2000000 in
set_option maxRecDepth 100000 in
theorem less_limbs (x0 x1 x2 x3 y0 y1 y2 y3 : Int) (w : World) :
    Calls Try.prog 33 #[.agg #[.int .u64 x0, .int .u64 x1, .int .u64 x2, .int .u64 x3], .agg #[.int .u64 y0, .int .u64 y1, .int .u64 y2, .int .u64 y3]] w
      fun e w' => e = .returned (.int .i64 (lessL x0 x1 x2 x3 y0 y1 y2 y3)) ∧ Below w.heap.size w w' := by
  unfold lessL
  by_cases l3 : x3 < y3
  · rw [if_pos l3]
    go_enter Try.func33, Try.ntmps33
    go_wp2
    refine wp_loop_rounds 5 ?_
    rw [rounds_succ]
    go_wp2
    go_quiet (fail)
    go_wp2
    go_ret
    exact ⟨rfl, by repeat (with_reducible first | exact Below.refl _ _ | apply bl_alloc | apply bl_drewN | apply bl_drew)⟩
  rw [if_neg l3]
  by_cases g3 : y3 < x3
  · rw [if_pos g3]
    go_enter Try.func33, Try.ntmps33
    go_wp2
    refine wp_loop_rounds 5 ?_
    rw [rounds_succ]
    go_wp2
    go_quiet (fail)
    go_wp2
    go_quiet (fail)
    go_wp2
    go_ret
    exact ⟨rfl, by repeat (with_reducible first | exact Below.refl _ _ | apply bl_alloc | apply bl_drewN | apply bl_drew)⟩
  rw [if_neg g3]
  by_cases l2 : x2 < y2
  · rw [if_pos l2]
    go_enter Try.func33, Try.ntmps33
    go_wp2
    refine wp_loop_rounds 5 ?_
    rw [rounds_succ]
    go_wp2
    go_quiet (fail)
    go_wp2
    go_quiet (fail)
    go_wp2
    rw [rounds_succ]
    go_wp2
    go_quiet (fail)
    go_wp2
    go_ret
    exact ⟨rfl, by repeat (with_reducible first | exact Below.refl _ _ | apply bl_alloc | apply bl_drewN | apply bl_drew)⟩
  rw [if_neg l2]
  by_cases g2 : y2 < x2
  · rw [if_pos g2]
    go_enter Try.func33, Try.ntmps33
    go_wp2
    refine wp_loop_rounds 5 ?_
    rw [rounds_succ]
    go_wp2
    go_quiet (fail)
    go_wp2
    go_quiet (fail)
    go_wp2
    rw [rounds_succ]
    go_wp2
    go_quiet (fail)
    go_wp2
    go_quiet (fail)
    go_wp2
    go_ret
    exact ⟨rfl, by repeat (with_reducible first | exact Below.refl _ _ | apply bl_alloc | apply bl_drewN | apply bl_drew)⟩
  rw [if_neg g2]
  by_cases l1 : x1 < y1
  · rw [if_pos l1]
    go_enter Try.func33, Try.ntmps33
    go_wp2
    refine wp_loop_rounds 5 ?_
    rw [rounds_succ]
    go_wp2
    go_quiet (fail)
    go_wp2
    go_quiet (fail)
    go_wp2
    rw [rounds_succ]
    go_wp2
    go_quiet (fail)
    go_wp2
    go_quiet (fail)
    go_wp2
    rw [rounds_succ]
    go_wp2
    go_quiet (fail)
    go_wp2
    go_ret
    exact ⟨rfl, by repeat (with_reducible first | exact Below.refl _ _ | apply bl_alloc | apply bl_drewN | apply bl_drew)⟩
  rw [if_neg l1]
  by_cases g1 : y1 < x1
  · rw [if_pos g1]
    go_enter Try.func33, Try.ntmps33
    go_wp2
    refine wp_loop_rounds 5 ?_
    rw [rounds_succ]
    go_wp2
    go_quiet (fail)
    go_wp2
    go_quiet (fail)
    go_wp2
    rw [rounds_succ]
    go_wp2
    go_quiet (fail)
    go_wp2
    go_quiet (fail)
    go_wp2
    rw [rounds_succ]
    go_wp2
    go_quiet (fail)
    go_wp2
    go_quiet (fail)
    go_wp2
    go_ret
    exact ⟨rfl, by repeat (with_reducible first | exact Below.refl _ _ | apply bl_alloc | apply bl_drewN | apply bl_drew)⟩
  rw [if_neg g1]
  by_cases l0 : x0 < y0
  · rw [if_pos l0]
    go_enter Try.func33, Try.ntmps33
    go_wp2
    refine wp_loop_rounds 5 ?_
    rw [rounds_succ]
    go_wp2
    go_quiet (fail)
    go_wp2
    go_quiet (fail)
    go_wp2
    rw [rounds_succ]
    go_wp2
    go_quiet (fail)
    go_wp2
    go_quiet (fail)
    go_wp2
    rw [rounds_succ]
    go_wp2
    go_quiet (fail)
    go_wp2
    go_quiet (fail)
    go_wp2
    rw [rounds_succ]
    go_wp2
    go_quiet (fail)
    go_wp2
    go_ret
    exact ⟨rfl, by repeat (with_reducible first | exact Below.refl _ _ | apply bl_alloc | apply bl_drewN | apply bl_drew)⟩
  rw [if_neg l0]
  by_cases g0 : y0 < x0
  · rw [if_pos g0]
    go_enter Try.func33, Try.ntmps33
    go_wp2
    refine wp_loop_rounds 5 ?_
    rw [rounds_succ]
    go_wp2
    go_quiet (fail)
    go_wp2
    go_quiet (fail)
    go_wp2
    rw [rounds_succ]
    go_wp2
    go_quiet (fail)
    go_wp2
    go_quiet (fail)
    go_wp2
    rw [rounds_succ]
    go_wp2
    go_quiet (fail)
    go_wp2
    go_quiet (fail)
    go_wp2
    rw [rounds_succ]
    go_wp2
    go_quiet (fail)
    go_wp2
    go_quiet (fail)
    go_wp2
    go_ret
    exact ⟨rfl, by repeat (with_reducible first | exact Below.refl _ _ | apply bl_alloc | apply bl_drewN | apply bl_drew)⟩
  rw [if_neg g0]
  go_enter Try.func33, Try.ntmps33
  go_wp2
  refine wp_loop_rounds 5 ?_
  rw [rounds_succ]
  go_wp2
  go_quiet (fail)
  go_wp2
  go_quiet (fail)
  go_wp2
  rw [rounds_succ]
  go_wp2
  go_quiet (fail)
  go_wp2
  go_quiet (fail)
  go_wp2
  rw [rounds_succ]
  go_wp2
  go_quiet (fail)
  go_wp2
  go_quiet (fail)
  go_wp2
  rw [rounds_succ]
  go_wp2
  go_quiet (fail)
  go_wp2
  go_quiet (fail)
  go_wp2
  rw [rounds_succ]
  go_wp2
  go_ret
  exact ⟨rfl, by repeat (with_reducible first | exact Below.refl _ _ | apply bl_alloc | apply bl_drewN | apply bl_drew)⟩
theorem lessL_eq (m n : Int) (hm : 0 ≤ m) (hm' : m < 340282366920938463463374607431768211456) (hn : 0 ≤ n) (hn' : n < 340282366920938463463374607431768211456) :
    lessL (m % 4294967296) (m / 4294967296 % 4294967296) (m / 4294967296 / 4294967296 % 4294967296) (m / 4294967296 / 4294967296 / 4294967296 % 4294967296) (n % 4294967296) (n / 4294967296 % 4294967296) (n / 4294967296 / 4294967296 % 4294967296) (n / 4294967296 / 4294967296 / 4294967296 % 4294967296) = cmpU m n := by
  have a0 := Int.emod_add_mul_ediv m 4294967296
  have a1 := Int.emod_add_mul_ediv (m / 4294967296) 4294967296
  have a2 := Int.emod_add_mul_ediv (m / 4294967296 / 4294967296) 4294967296
  have b0 := Int.emod_add_mul_ediv n 4294967296
  have b1 := Int.emod_add_mul_ediv (n / 4294967296) 4294967296
  have b2 := Int.emod_add_mul_ediv (n / 4294967296 / 4294967296) 4294967296
  have c1 : m / 4294967296 / 4294967296 / 4294967296 % 4294967296 = m / 4294967296 / 4294967296 / 4294967296 := by omega
  have c2 : n / 4294967296 / 4294967296 / 4294967296 % 4294967296 = n / 4294967296 / 4294967296 / 4294967296 := by omega
  rw [c1, c2]
  have d0 := limb_bd m
  have d1 := limb_bd (m / 4294967296)
  have d2 := limb_bd (m / 4294967296 / 4294967296)
  have e0 := limb_bd n
  have e1 := limb_bd (n / 4294967296)
  have e2 := limb_bd (n / 4294967296 / 4294967296)
  generalize m % 4294967296 = m0 at *
  generalize m / 4294967296 % 4294967296 = m1 at *
  generalize m / 4294967296 / 4294967296 % 4294967296 = m2 at *
  generalize m / 4294967296 / 4294967296 / 4294967296 = m3 at *
  generalize m / 4294967296 / 4294967296 = mm2 at *
  generalize m / 4294967296 = mm1 at *
  generalize n % 4294967296 = n0 at *
  generalize n / 4294967296 % 4294967296 = n1 at *
  generalize n / 4294967296 / 4294967296 % 4294967296 = n2 at *
  generalize n / 4294967296 / 4294967296 / 4294967296 = n3 at *
  generalize n / 4294967296 / 4294967296 = nn2 at *
  generalize n / 4294967296 = nn1 at *
  clear c1 c2 hm hm' hn hn'
  subst a2 b2 a1 b1 a0 b0
  unfold lessL cmpU
  repeat' split
  all_goals first | rfl | (exfalso; omega)
theorem less_any (m n : Int) (hm : 0 ≤ m) (hm' : m < 340282366920938463463374607431768211456) (hn : 0 ≤ n) (hn' : n < 340282366920938463463374607431768211456) (w : World) :
    Calls Try.prog 33 #[W4 m, W4 n] w fun e w' => e = .returned (.int .i64 (cmpU m n)) ∧ Below w.heap.size w w' := by
  rw [← lessL_eq m n hm hm' hn hn']
  exact less_limbs _ _ _ _ _ _ _ _ w

def cutW (m : Int) : Int := if m ≤ 18446744073709551615 then m else 18446744073709551615
theorem cut_limbs (x0 x1 x2 x3 : Int) (w : World) (h2 : 0 ≤ x2 ∧ x2 ≤ 4294967295) (h3 : 0 ≤ x3 ∧ x3 ≤ 4294967295) (h0 : 0 ≤ x0 ∧ x0 ≤ 4294967295) (h1 : 0 ≤ x1 ∧ x1 ≤ 4294967295) :
    Calls Try.prog 51 #[.agg #[.int .u64 x0, .int .u64 x1, .int .u64 x2, .int .u64 x3]] w
      fun e w' => e = .returned (.int .u64 (if 0 < x2 + x3 then 18446744073709551615 else x1 * 4294967296 + x0)) ∧ Below w.heap.size w w' := by
  by_cases h : 0 < x2 + x3
  · rw [if_pos h]
    go_enter Try.func51, Try.ntmps51
    go_wp2
    go_ret
    exact ⟨rfl, by repeat (with_reducible first | exact Below.refl _ _ | apply bl_alloc | apply bl_drewN | apply bl_drew)⟩
  · rw [if_neg h]
    go_enter Try.func51, Try.ntmps51
    go_wp2
    go_ret
    exact ⟨rfl, by repeat (with_reducible first | exact Below.refl _ _ | apply bl_alloc | apply bl_drewN | apply bl_drew)⟩
theorem cut_any (m : Int) (hm : 0 ≤ m) (hm' : m < 340282366920938463463374607431768211456) (w : World) :
    Calls Try.prog 51 #[W4 m] w fun e w' => e = .returned (.int .u64 (cutW m)) ∧ Below w.heap.size w w' := by
  refine (cut_limbs _ _ _ _ w (limb_bd _) (limb_bd _) (limb_bd _) (limb_bd _)).mono ?_
  rintro e w' ⟨rfl, hB⟩
  refine ⟨ret_u64 ?_, hB⟩
  unfold cutW
  split <;> split <;> omega
end Go.Proofs.Ytbhhckeccpodmaa
