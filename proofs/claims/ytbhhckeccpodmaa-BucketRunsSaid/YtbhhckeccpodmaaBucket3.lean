/- BucketWait. -/
import Derived.Test.YtbhhckeccpodmaaBucket2
set_option linter.unusedVariables false
set_option linter.unusedSimpArgs false
namespace Go.Proofs.Ytbhhckeccpodmaa
open Go.RowKit
attribute [local go_sem] max2_int min2_int max_two min_two

theorem refill_eq {l r t h : Int} (hl : 0 ≤ l) (hr : 0 ≤ r) (ht : 0 ≤ t) (hh' : h ≤ 18446744073709551615) : satRefill l r t h = if l + r * t < h then l + r * t else h := by
  have hp := Int.mul_nonneg hr ht
  unfold satRefill satMin satAdd satMul
  generalize r * t = p at *
  repeat' split
  all_goals omega
theorem refill_bd {l r t h : Int} (hl : 0 ≤ l) (hr : 0 ≤ r) (ht : 0 ≤ t) (hh : 0 ≤ h) (hh' : h ≤ 18446744073709551615) : 0 ≤ satRefill l r t h ∧ satRefill l r t h ≤ h := by
  have hp := Int.mul_nonneg hr ht
  rw [refill_eq hl hr ht hh']
  generalize r * t = p at *
  split <;> omega
theorem takeL_bd {l n : Int} (hl : 0 ≤ l) (hn : 0 ≤ n) : 0 ≤ takeL l n ∧ takeL l n ≤ l := by unfold takeL; split <;> omega
theorem waitN_bd {r h l n : Int} (hr : 0 ≤ r) (hl : 0 ≤ l) (hn : n ≤ 18446744073709551615) : 0 ≤ waitN r h l n ∧ waitN r h l n ≤ 18446744073709551615 := by
  unfold waitN
  split
  · omega
  split
  · omega
  · have hq1 : 0 ≤ (n - l - 1) / r := Int.ediv_nonneg (by omega) (by omega)
    have hq2 : (n - l - 1) / r ≤ n - l - 1 := Int.ediv_le_self _ (by omega)
    omega
/-- What never comes isn't there behind any ticks. -/
theorem wait_never {r h l n t : Int} (hr : 0 ≤ r) (hl : 0 ≤ l) (hlh : l ≤ h) (hh' : h ≤ 18446744073709551615) (ht : 0 ≤ t) (b : waitB r h l n = false) : ¬ n ≤ satRefill l r t h := by
  have hp := Int.mul_nonneg hr ht
  unfold waitB at b
  rw [refill_eq hl hr ht hh']
  split at b
  · simp at b
  split at b
  · rename_i c d
    rcases d with d | rfl
    · generalize r * t = p at *
      split <;> omega
    · rw [Int.zero_mul] at *
      split <;> omega
  · simp at b
/-- Behind so many ticks it is there. -/
theorem wait_there {r h l n : Int} (hr : 0 ≤ r) (hl : 0 ≤ l) (hlh : l ≤ h) (hh' : h ≤ 18446744073709551615) (b : waitB r h l n = true) : n ≤ satRefill l r (waitN r h l n) h := by
  unfold waitB at b
  split at b
  · rename_i c
    have e : waitN r h l n = 0 := by unfold waitN; rw [if_pos c]
    rw [e, refill_eq hl hr (by decide) hh', Int.mul_zero]
    split <;> omega
  split at b
  · simp at b
  · rename_i c d
    have e : waitN r h l n = (n - l - 1) / r + 1 := by unfold waitN; rw [if_neg c, if_neg d]
    have hr0 : 0 < r := by omega
    have hq1 : 0 ≤ (n - l - 1) / r := Int.ediv_nonneg (by omega) (by omega)
    have hm := Int.lt_mul_ediv_self_add (x := n - l - 1) (k := r) hr0
    rw [e, refill_eq hl hr (by omega) hh', Int.mul_add, Int.mul_one]
    generalize r * ((n - l - 1) / r) = p at *
    split <;> omega
/-- One tick before it isn't. -/
theorem wait_not {r h l n : Int} (hr : 0 ≤ r) (hl : 0 ≤ l) (hlh : l ≤ h) (hh' : h ≤ 18446744073709551615) (b : 0 < waitN r h l n) : ¬ n ≤ satRefill l r (waitN r h l n - 1) h := by
  unfold waitN at b
  split at b
  · omega
  split at b
  · omega
  · rename_i c d
    have e : waitN r h l n = (n - l - 1) / r + 1 := by unfold waitN; rw [if_neg c, if_neg d]
    have hr0 : 0 < r := by omega
    have hq1 : 0 ≤ (n - l - 1) / r := Int.ediv_nonneg (by omega) (by omega)
    have hm := Int.mul_ediv_self_le (x := n - l - 1) (k := r) (by omega)
    rw [e, Int.add_sub_cancel, refill_eq hl hr hq1 hh']
    generalize r * ((n - l - 1) / r) = p at *
    split <;> omega

theorem bucketWait_walk (r : Int) (hr : 0 ≤ r ∧ r ≤ 18446744073709551615) (h : Int) (hh : 0 ≤ h ∧ h ≤ 18446744073709551615) (a : Int) (ha : 0 ≤ a ∧ a ≤ 18446744073709551615) (n : Int) (hn : 0 ≤ n ∧ n ≤ 18446744073709551615) (t : Int) (ht : 0 ≤ t ∧ t ≤ 18446744073709551615) (w : World) :
    Calls Try.prog 10 #[.int .u64 r, .int .u64 h, .agg #[.int .u64 a, .int .u64 n, .int .u64 t]] w fun e w' => e = .returned (.bool true) ∧ Below w.heap.size w w' := by
  have hl := takeL_bd hh.1 ha.1
  obtain ⟨l, hL⟩ : ∃ l, takeL h a = l := ⟨_, rfl⟩
  rw [hL] at hl
  replace hL := Lib.hid hL
  have hN := waitN_bd (h := h) (n := n) hr.1 hl.1 hn.2
  have hwn := fun k => wait_never (n := n) (t := t) hr.1 hl.1 hl.2 hh.2 ht.1 k
  have hwt := fun k => wait_there (n := n) hr.1 hl.1 hl.2 hh.2 k
  have hwb := fun k => wait_not (n := n) hr.1 hl.1 hl.2 hh.2 k
  obtain ⟨T, hT⟩ : ∃ T, waitN r h l n = T := ⟨_, rfl⟩
  rw [hT] at hN hwt hwb
  have hs1 := refill_bd (t := t) (h := h) hl.1 hr.1 ht.1 hh.1 hh.2
  have hs2 := refill_bd (t := T) (h := h) hl.1 hr.1 hN.1 hh.1 hh.2
  obtain ⟨s1, hS1⟩ : ∃ s, satRefill l r t h = s := ⟨_, rfl⟩
  obtain ⟨s2, hS2⟩ : ∃ s, satRefill l r T h = s := ⟨_, rfl⟩
  rw [hS1] at hs1 hwn
  rw [hS2] at hs2 hwt
  replace hS1 := Lib.hid hS1
  replace hS2 := Lib.hid hS2
  replace hT := Lib.hid hT
  cases hwB : waitB r h l n with
  | false =>
    have hd : decide (n ≤ s1) = false := decide_eq_false (hwn hwB)
    clear hwt hwb
    replace hwB := Lib.hid hwB
    go_enter Try.func10, Try.ntmps10
    go_wp2_with ((go_at_call 28; (with_reducible refine (bucketAlive_any _).mono ?_); rintro e w0 ⟨rfl, hB0⟩; obtain ⟨hc0, hf0⟩ := bl_cells hB0))
    go_quiet (fail)
    go_wp2_with (fail)
    refine (bnew_at r h _).mono ?_; rintro e w1 ⟨g, rfl, k0, hg, hB1⟩
    go_wp2_with (fail)
    refine (btake_at k0 a hh.2 ha.1).mono ?_; rw [hL.out]; rintro e w2 ⟨rfl, k1, t1⟩
    go_wp2_with (fail)
    refine (bwait_any k1 n hr.1 hr.2 hl.1 hn.2).mono ?_; rw [hT.out, hwB.out]; rintro e w' ⟨rfl, rfl⟩
    go_wp2_with (fail)
    refine (btick_at k1 t hr.1 hr.2 hh.1 hh.2 hl.1 (by omega) ht.1 ht.2).mono ?_; rw [hS1.out]; rintro e w3 ⟨rfl, k2, t2⟩
    go_wp2_with (fail)
    refine (bhas_any k2 n).mono ?_; rw [hd]; rintro e w' ⟨rfl, rfl⟩
    go_wp2
    go_ret
    have hBa := bl_then (bl_alloc (Below.refl _ w) _) hB0
    have hBb := bl_then (bl_drewN hBa _) hB1
    have hgw := Nat.le_trans (bl_drewN hBa _).size (Nat.le_of_eq hg)
    exact ⟨rfl, Turn.bl (Turn.bl hBb hgw t1) hgw t2⟩
  | true =>
    have hd : decide (n ≤ s2) = true := decide_eq_true (hwt hwB)
    have hBc : T = 0 ∨ 0 < T := by omega
    clear hwn hwt
    replace hwB := Lib.hid hwB
    go_enter Try.func10, Try.ntmps10
    go_wp2_with ((go_at_call 28; (with_reducible refine (bucketAlive_any _).mono ?_); rintro e w0 ⟨rfl, hB0⟩; obtain ⟨hc0, hf0⟩ := bl_cells hB0))
    go_quiet (fail)
    go_wp2_with (fail)
    refine (bnew_at r h _).mono ?_; rintro e w1 ⟨g, rfl, k0, hg, hB1⟩
    go_wp2_with (fail)
    refine (btake_at k0 a hh.2 ha.1).mono ?_; rw [hL.out]; rintro e w2 ⟨rfl, k1, t1⟩
    go_wp2_with (fail)
    refine (bwait_any k1 n hr.1 hr.2 hl.1 hn.2).mono ?_; rw [hT.out, hwB.out]; rintro e w' ⟨rfl, rfl⟩
    have hBa := bl_then (bl_alloc (Below.refl _ w) _) hB0
    have hBb := bl_then (bl_drewN hBa _) hB1
    have hgw := Nat.le_trans (bl_drewN hBa _).size (Nat.le_of_eq hg)
    have hBd := Turn.bl hBb hgw t1
    rcases hBc with h0 | h0
    · subst h0
      go_wp2_with (fail)
      refine (btick_at k1 0 hr.1 hr.2 hh.1 hh.2 hl.1 (by omega) (by decide) (by decide)).mono ?_; rw [hS2.out]; rintro e w3 ⟨rfl, k2, t2⟩
      go_wp2_with (fail)
      refine (btake_at k2 n (by omega) hn.1).mono ?_; rw [hd]; rintro e w4 ⟨rfl, k3, t3⟩
      go_wp2
      go_ret
      exact ⟨rfl, Turn.bl (Turn.bl hBd hgw t2) hgw t3⟩
    · have hbd3 := hwb h0
      have hs3 := refill_bd (t := T - 1) (h := h) hl.1 hr.1 (by omega) hh.1 hh.2
      obtain ⟨s3, hS3⟩ : ∃ s, satRefill l r (T - 1) h = s := ⟨_, rfl⟩
      rw [hS3] at hbd3 hs3
      have hd3 : decide (n ≤ s3) = false := decide_eq_false (by omega)
      replace hS3 := Lib.hid hS3
      go_wp2_with (fail)
      refine (bnew_at r h _).mono ?_; rintro e w5 ⟨g2, rfl, q0, hg2, hB5⟩
      have hgw2 := Nat.le_trans hBd.size (Nat.le_of_eq hg2)
      have hne : g ≠ g2 := by have := bk_lt k1; omega
      have p1 := bt_below k1 hB5
      have hBe := bl_then hBd hB5
      go_wp2_with (fail)
      refine (btake_at q0 a hh.2 ha.1).mono ?_; rw [hL.out]; rintro e w6 ⟨rfl, q1, t6⟩
      have p2 := bt_turn p1 hne t6
      have hBf := Turn.bl hBe hgw2 t6
      go_wp2_with (fail)
      refine (btick_at q1 (T - 1) hr.1 hr.2 hh.1 hh.2 hl.1 (by omega) (by omega) (by omega)).mono ?_; rw [hS3.out]; rintro e w7 ⟨rfl, q2, t7⟩
      have p3 := bt_turn p2 hne t7
      have hBg := Turn.bl hBf hgw2 t7
      go_wp2_with (fail)
      refine (bhas_any q2 n).mono ?_; rw [hd3]; rintro e w' ⟨rfl, rfl⟩
      go_wp2_with (fail)
      refine (btick_at p3 T hr.1 hr.2 hh.1 hh.2 hl.1 (by omega) hN.1 hN.2).mono ?_; rw [hS2.out]; rintro e w3 ⟨rfl, k2, t2⟩
      go_wp2_with (fail)
      refine (btake_at k2 n (by omega) hn.1).mono ?_; rw [hd]; rintro e w4 ⟨rfl, k3, t3⟩
      go_wp2
      go_ret
      exact ⟨rfl, Turn.bl (Turn.bl hBg hgw t2) hgw t3⟩
end Go.Proofs.Ytbhhckeccpodmaa
