/- Contract: a number's digits (floodgateref24.Digits). -/
import Derived.Test.YtebeknnjjoobnaaDoorBiS
set_option linter.unusedVariables false
set_option linter.unusedSimpArgs false
set_option maxRecDepth 100000
namespace Go.Proofs.YtebeknnjjoobnaaDoor
open Go.RowKit Go.Sort Go.Lib Go.Shelf Go.Proofs
attribute [local go_sem] max2_int min2_int max_two min_two

theorem dec_step (n : Nat) (h : 10 ≤ n) : Lib.decDigits n = Lib.decDigits (n / 10) ++ Lib.decDigits (n % 10) := by
  rw [dec_one (n % 10) (by omega)]
  conv => lhs; unfold Lib.decDigits
  rw [dif_neg (by omega)]
theorem digit_one (n : Nat) (h : n < 10) (w : World) : Calls Tryd.prog 35 #[.int .u64 n] w fun e w' => e = .returned (.string ⟨(Lib.decDigits n).toArray⟩) ∧ w = w' := by
  rw [dec_one n h]
  obtain rfl | rfl | rfl | rfl | rfl | rfl | rfl | rfl | rfl | rfl : n = 0 ∨ n = 1 ∨ n = 2 ∨ n = 3 ∨ n = 4 ∨ n = 5 ∨ n = 6 ∨ n = 7 ∨ n = 8 ∨ n = 9 := by omega
  all_goals (
    go_enter Tryd.func35, Tryd.ntmps35
    go_wp2
    go_ret
    exact ⟨rfl, rfl⟩)
set_option maxHeartbeats 800000 in
theorem digits_any : ∀ (n : Nat), n < 18446744073709551616 → ∀ w, Calls Tryd.prog 35 #[.int .u64 n] w fun e w' => e = .returned (.string ⟨(Lib.decDigits n).toArray⟩) ∧ w = w' := by
  intro n
  induction n using Nat.strongRecOn with
  | _ n ih =>
    intro hn w
    by_cases h : n < 10
    · exact digit_one n h w
    · have k1 := ih (n / 10) (by omega) (by omega)
      have k2 := ih (n % 10) (by omega) (by omega)
      have q1 : decide ((n : Int) < 10) = false := decide_eq_false (by omega)
      have hq : (n : Int) / 10 = ((n / 10 : Nat) : Int) := by omega
      have hr : (n : Int) % 10 = ((n % 10 : Nat) : Int) := by omega
      have hq2 : (n : Int).tdiv 10 = ((n / 10 : Nat) : Int) := by rw [Int.tdiv_eq_ediv_of_nonneg (by omega)]; omega
      have hr2 : (n : Int).tmod 10 = ((n % 10 : Nat) : Int) := by rw [Int.tmod_eq_emod_of_nonneg (by omega)]; omega
      have hl1 := Lib.nDigits_le20 (n / 10) (by omega)
      have hl2 := Lib.nDigits_le20 (n % 10) (by omega)
      rw [← Lib.decDigits_length] at hl1 hl2
      rw [dec_step n (by omega)]
      obtain ⟨A, hA⟩ : ∃ A, Lib.decDigits (n / 10) = A := ⟨_, rfl⟩
      obtain ⟨B, hB⟩ : ∃ B, Lib.decDigits (n % 10) = B := ⟨_, rfl⟩
      rw [hA] at k1 hl1 ⊢
      rw [hB] at k2 hl2 ⊢
      obtain ⟨Q, hQ⟩ : ∃ Q : Nat, n / 10 = Q := ⟨_, rfl⟩
      obtain ⟨R, hR⟩ : ∃ R : Nat, n % 10 = R := ⟨_, rfl⟩
      rw [hQ] at k1 hq hq2
      rw [hR] at k2 hr hr2
      have hJ : ¬ (9223372036854775807 < A.length + B.length) := by omega
      have hcat : ((⟨A.toArray⟩ : ByteArray) ++ ⟨B.toArray⟩) = ⟨(A ++ B).toArray⟩ := by apply ByteArray.ext; simp [ByteArray.data_append]
      replace k1 := Lib.hid k1
      replace k2 := Lib.hid k2
      replace hcat := Lib.hid hcat
      clear ih hA hB hQ hR
      go_enter Tryd.func35, Tryd.ntmps35
      go_wp2_with (fail)
      refine (k1.out _).mono ?_; rintro e w1 ⟨rfl, rfl⟩
      go_wp2_with (fail)
      refine (k2.out _).mono ?_; rintro e w1 ⟨rfl, rfl⟩
      go_wp2
      go_ret
      exact ⟨by rw [← hcat.out]; rfl, rfl⟩
end Go.Proofs.YtebeknnjjoobnaaDoor
