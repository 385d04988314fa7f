/- Contract: the period in which the next moment lies (floodgateref26.period). -/
import Derived.Test.YtebeknnjjoobnaaDoorBi3
set_option linter.unusedVariables false
set_option linter.unusedSimpArgs false
set_option maxRecDepth 100000
namespace Go.Proofs.YtebeknnjjoobnaaDoor
open Go.RowKit Go.Sort Go.Lib Go.Shelf Go.Proofs Go.Proofs.YtebeknnjjoobnaaDoorW.PrintWords
attribute [local go_sem] max2_int min2_int max_two min_two

set_option maxHeartbeats 3200000 in
theorem period_any (A : Option Addr) (ms : List Mo) (cap : Nat) (w : World) (hA : MomIn w A ms) (hl : ms.length ≤ 1000) :
    Calls Tryd.prog 20 #[.slice A ms.length cap] w fun e w' => e = .returned (.int .u64 (rowsL ms).2) ∧ Below w.heap.size w w' := by
  obtain ⟨N, hN⟩ : ∃ N, ms.length = N := ⟨_, rfl⟩
  rw [hN] at hl ⊢
  obtain ⟨P, hP⟩ : ∃ P, (rowsL ms).2 = P := ⟨_, rfl⟩
  rw [hP]
  have hw0 : IntKind.i64.wrap ((N : Int) - 1) = (N : Int) - 1 := by unfold IntKind.wrap; simp [IntKind.signed, IntKind.bits]; omega
  have hP0 : (rowsL (ms.take N)).2 = P := by rw [← hN, List.take_length]; exact hP
  replace hN := Lib.hid hN
  replace hA := Lib.hid hA
  replace hP0 := Lib.hid hP0
  clear hP
  go_enter Tryd.func20, Tryd.ntmps20
  go_wp2_with (fail)
  go_loopw [3] (fun v wr => ∃ (k : Nat) (z : Int), v = .int .i64 z ∧ z = (k : Int) - 1 ∧ k ≤ N ∧ (rowsL (ms.take k)).2 = P ∧ Below w.heap.size w wr) (fun v _ => (intOf v + 1).toNat)
  case atStart => exact ⟨N, _, rfl, rfl, Nat.le_refl _, hP0.out, Below.refl _ _⟩
  case round =>
    obtain ⟨k, z, rfl, hz, hk, hp, hBr⟩ := hrel
    replace hBr := Lib.hid hBr
    rcases Nat.eq_zero_or_pos k with rfl | hpos
    · have q1 : decide (0 ≤ z) = false := decide_eq_false (by omega)
      have hp1 : P = 1 := by rw [← hp]; rfl
      subst hp1
      replace hz := Lib.hid hz
      clear hp
      go_wp2
      go_ret
      exact ⟨rfl, hBr.out⟩
    · obtain ⟨j, rfl⟩ : ∃ j, k = j + 1 := ⟨k - 1, by omega⟩
      obtain rfl : z = (j : Int) := by omega
      have hjl : j < N := by omega
      have q1 : decide ((0 : Int) ≤ (j : Int)) = true := decide_eq_true (by omega)
      have q2 : (j : Int) < (N : Int) := by omega
      have hw1 : IntKind.i64.wrap ((j : Int) - 1) = (j : Int) - 1 := by unfold IntKind.wrap; simp [IntKind.signed, IntKind.bits]; omega
      obtain ⟨_, ad, hAd, hmi⟩ := hA.out j (by rw [hN.out]; exact hjl)
      have hstep := rowsL_snoc (ms.take j) (ms.getD j zeroMo)
      rw [← take_snoc' zeroMo ms j (by rw [hN.out]; exact hjl)] at hstep
      rw [hstep] at hp
      obtain ⟨m, hm⟩ : ∃ m, ms.getD j zeroMo = m := ⟨_, rfl⟩
      rw [hm] at hmi hp
      obtain ⟨cs, f, Ab, Ai, cb, ni, ci, hlen, hrow, hone, p0, p19, p22, p23, p24, p25, p48, hper⟩ := hmi
      have hrow := hrow.far hBr.out
      subst hAd
      have c48 := hrow.at_ 48 _ p48 (by decide)
      have hp2 : m.per.getD (rowsL (ms.take j)).2 = P := hp
      clear hp hstep hm hrow p0 p19 p22 p23 p24 p25 p48 hlen hone hz hpos
      rcases hper with ⟨hpn, rfl⟩ | ⟨p, ai, hpn, hni, rfl, hai⟩
      · rw [hpn] at hp2
        replace hp2 := Lib.hid hp2
        replace hpn := Lib.hid hpn
        go_wp2
        exact ⟨⟨j, _, rfl, rfl, by omega, hp2.out, hBr.out⟩, by simp [intOf]⟩
      · rw [hpn] at hp2
        have hpp : p = P := hp2
        subst hpp
        have hni2 : decide ((0 : Int) < (ni : Int)) = true := decide_eq_true (by omega)
        have hni3 : decide (0 < ni) = true := decide_eq_true hni
        have ha7 := cl_far hBr.out hai
        replace hp2 := Lib.hid hp2
        replace hpn := Lib.hid hpn
        go_wp2
        go_ret
        exact ⟨rfl, hBr.out⟩
end Go.Proofs.YtebeknnjjoobnaaDoor
