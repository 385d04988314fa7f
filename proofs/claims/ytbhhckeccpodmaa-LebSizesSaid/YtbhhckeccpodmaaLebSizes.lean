/- The walk of LebSizes. -/
import Derived.Test.YtbhhckeccpodmaaLebApart
import Derived.LoopTactic
set_option linter.unusedVariables false
set_option linter.unusedSimpArgs false
namespace Go.Proofs.Ytbhhckeccpodmaa
open Go.RowKit Go.Proofs.YtbhhckeccpodmaaW.PrintWords
attribute [local go_sem] max2_int min2_int max_two min_two

theorem enc_hi (n i : Nat) (hi : i < (enc n).length) : (128 ≤ (enc n).getD i 0) ↔ i + 1 < (enc n).length := by
  obtain ⟨k, h1, h2, h3, h4⟩ := prefix_len (xs := enc n) (n := n) (List.prefix_refl _)
  constructor
  · intro h
    rcases Nat.lt_trichotomy i k with c | c | c
    · omega
    · subst c; omega
    · omega
  · intro h
    exact h3 i (by omega)
theorem enc_pow (a k : Nat) (hk : 1 ≤ k) (h : k < (enc a).length) : 128 ^ k ≤ a := by
  rw [show (128 : Nat) = 2 ^ 7 from rfl, ← Nat.pow_mul]
  rcases Nat.lt_or_ge a (2 ^ (7 * k)) with c | c
  · have := (enc_len_iff k a hk).2 c
    omega
  · exact c

set_option maxHeartbeats 1600000 in
theorem lebSizes_walk (a : Int) (ha : 0 ≤ a ∧ a ≤ 18446744073709551615) (b : Int) (hb : 0 ≤ b ∧ b ≤ 18446744073709551615) (w : World) :
    Calls Try.prog 7 #[.int .u64 a, .int .u64 b] w fun e w' => e = .returned (.bool true) ∧ Below w.heap.size w w' := by
  obtain ⟨m, rfl⟩ := Int.eq_ofNat_of_zero_le ha.1
  obtain ⟨n, rfl⟩ := Int.eq_ofNat_of_zero_le hb.1
  have hp1 := enc_pos m
  have hq1 := enc_len_10 (n := m) (by omega)
  have hbm := ha.2
  have hbn := hb.2
  go_enter Try.func7, Try.ntmps7
  go_wp2_with (go_at_call 16; refine (lebAlive_any _).mono ?_; rintro e w0 ⟨rfl, hB0⟩)
  refine (put_any m _ (by omega)).mono ?_; rintro e w1 ⟨v1, rfl, ho1, hB1⟩; obtain ⟨A1, c1, rfl, hr1⟩ := own_reads ho1
  replace hr1 := Lib.hid hr1
  have hB := bl_then hB0 hB1
  clear ho1 hB0 hB1
  go_wp2_with (fail)
  go_loopw [16] (fun v wr => ∃ i : Nat, v = .int .i64 i ∧ i ≤ (enc m).length ∧ w1 = wr) (fun v _ => (enc m).length - (intOf v).toNat)
  case atStart => exact ⟨0, rfl, Nat.zero_le _, rfl⟩
  case round =>
    obtain ⟨i, rfl, hi, rfl⟩ := hrel
    by_cases hil : i < (enc m).length
    · have hil2 : decide ((i : Int) < ((enc m).length : Int)) = true := decide_eq_true (by omega)
      obtain ⟨ad, rfl, hcell⟩ := hr1.out.at_ (i : Int) (by omega) (by omega)
      have hrd : rd (enc m) (i : Int) = (enc m).getD i 0 := by simp [rd]
      have hbd := enc_bytes m _ (List.getElem_mem hil)
      have hge := enc_hi m i hil
      rw [hrd, Int.toNat_natCast] at hcell
      rw [show (enc m)[i] = (enc m).getD i 0 by simp [hil]] at hbd
      generalize (enc m).getD i 0 = c at *
      by_cases hl : i + 1 < (enc m).length
      · have f1 : decide (128 ≤ c) = true := decide_eq_true (hge.2 hl)
        have f2 : decide ((i : Int) < ((enc m).length : Int) - 1) = true := decide_eq_true (by omega)
        clear hrd hge
        go_wp2
        exact ⟨⟨i + 1, rfl, by omega, by first | rfl | trivial⟩, by simp [intOf]; omega⟩
      · have f1 : decide (128 ≤ c) = false := decide_eq_false fun h => hl (hge.1 h)
        have f2 : decide ((i : Int) < ((enc m).length : Int) - 1) = false := decide_eq_false (by omega)
        clear hrd hge
        go_wp2
        exact ⟨⟨i + 1, rfl, by omega, by first | rfl | trivial⟩, by simp [intOf]; omega⟩
    · have hil2 : decide ((i : Int) < ((enc m).length : Int)) = false := decide_eq_false (by omega)
      go_wp2
      go_loopw [8, 9] (fun v8 v9 wr => ∃ k p : Nat, v9 = .int .i64 k ∧ v8 = .int .u64 p ∧ 1 ≤ k ∧ k ≤ (enc m).length ∧ p = 128 ^ (k - 1) ∧ w1 = wr) (fun _ v9 _ => (enc m).length - (intOf v9).toNat)
      case atStart => exact ⟨1, 1, rfl, rfl, Nat.le_refl _, by omega, rfl, rfl⟩
      case round =>
        obtain ⟨k, p, rfl, rfl, hk1, hk2, hp, rfl⟩ := hrel
        replace hp := Lib.hid hp
        by_cases hkl : k < (enc m).length
        · have g1 : decide ((k : Int) < ((enc m).length : Int)) = true := decide_eq_true (by omega)
          have g2 : decide ((k : Int) ≤ 9) = true := decide_eq_true (by omega)
          have hpm := enc_pow m k hk1 hkl
          rw [show 128 ^ k = 128 ^ (k - 1) * 128 by rw [← Nat.pow_succ]; congr 1; omega, ← hp.out] at hpm
          have hp0 : 1 ≤ p := by rw [hp.out]; exact Nat.pos_of_ne_zero (by simp)
          have hq : 1 ≤ m / p / 128 := by rw [Nat.div_div_eq_div_mul]; exact (Nat.le_div_iff_mul_le (by omega)).2 (by omega)
          have hpI : ¬ (p : Int) = 0 := by omega
          have hpI2 : (0 : Int) < p := by omega
          have hdI : ((m : Int) / (p : Int)) = ((m / p : Nat) : Int) := (Int.natCast_ediv m p).symm
          obtain ⟨q, hqq⟩ : ∃ q, m / p = q := ⟨_, rfl⟩
          rw [hqq] at hq hdI
          have g3 : ((q : Int) / 128 == 0) = false := by simp; omega
          have hqm : q ≤ m := by rw [← hqq]; exact Nat.div_le_self _ _
          clear hqq
          go_wp2_with (go_at_call 17; (with_reducible refine (size_any m _ (by omega)).mono ?_); rintro e w' ⟨rfl, rfl⟩)
          exact ⟨⟨k + 1, p * 128, by first | rfl | (congr 1; omega), by first | rfl | (congr 1; omega), by omega, by omega, by rw [hp.out, ← Nat.pow_succ]; congr 1; omega, by first | rfl | trivial⟩, by simp [intOf]; omega⟩
        · have g1 : decide ((k : Int) < ((enc m).length : Int)) = false := decide_eq_false (by omega)
          have q1 : decide ((1 : Int) ≤ ((enc m).length : Int)) = true := decide_eq_true (by omega)
          have q2 : decide (((enc m).length : Int) ≤ 10) = true := decide_eq_true (by omega)
          by_cases hab : n < m
          · have q3 : decide ((n : Int) < (m : Int)) = true := decide_eq_true (by omega)
            go_wp2_with (go_at_call 17; (with_reducible refine (size_any m _ (by omega)).mono ?_); rintro e w' ⟨rfl, rfl⟩)
            go_ret
            exact ⟨rfl, hB⟩
          · have q3 : decide ((n : Int) < (m : Int)) = false := decide_eq_false (by omega)
            have hmono := enc_len_mono (a := m) (b := n) (by omega)
            have q4 : decide (((enc m).length : Int) ≤ ((enc n).length : Int)) = true := decide_eq_true (by omega)
            go_wp2_with (go_at_call 17; first | ((with_reducible refine (size_any m _ (by omega)).mono ?_); rintro e w' ⟨rfl, rfl⟩) | ((with_reducible refine (size_any n _ (by omega)).mono ?_); rintro e w' ⟨rfl, rfl⟩))
            go_ret
            exact ⟨rfl, hB⟩
end Go.Proofs.Ytbhhckeccpodmaa
