/- Contracts: the reference's Right of a policy; the numbers of a policy, both ways. -/
import Derived.Test.YtfcekicjlgdmaaaPolicy
import Derived.Deep.RegionHeld3
set_option linter.unusedVariables false
set_option linter.unusedSimpArgs false
set_option maxRecDepth 100000
namespace Go.Proofs.Ytfcekicjlgdmaaa
open Go.RowKit Go.Proofs.YtfcekicjlgdmaaaW.PrintWords
attribute [local go_sem] max2_int min2_int max_two min_two
attribute [local go_sem ↓] eql_nt neq_nt eql_ad net_addr net_bits

theorem ix7 (r1 r2 r3 r4 r5 r6 r7 : Int) (k : Nat) (hk : k < 7) (w : World) : (Instr.index 71 (.agg #[.int .u64 r1, .int .u64 r2, .int .u64 r3, .int .u64 r4, .int .u64 r5, .int .u64 r6, .int .u64 r7]) (.int .i64 (k : Int))).run Try.prog w = .ok (.int .u64 ([r1, r2, r3, r4, r5, r6, r7].getD k 0)) w := by
  rcases (by omega : k = 0 ∨ k = 1 ∨ k = 2 ∨ k = 3 ∨ k = 4 ∨ k = 5 ∨ k = 6) with rfl | rfl | rfl | rfl | rfl | rfl | rfl <;> kernel_rfl
theorem seven_perm (r1 r2 r3 r4 r5 r6 r7 : Int) : [r6, r7, r1, r2, r3, r4, r5].any overB = [r1, r2, r3, r4, r5, r6, r7].any overB := by
  simp only [List.any_cons, List.any_nil, Bool.or_false]
  cases overB r1 <;> cases overB r2 <;> cases overB r3 <;> cases overB r4 <;> cases overB r5 <;> cases overB r6 <;> cases overB r7 <;> rfl
set_option maxHeartbeats 1600000 in
theorem rpright_any (x : Pol) (hok : PolOk x) (w : World) :
    Calls Try.prog 18 #[.agg #[.int .i64 x.1, .int .u8 x.2.1.1, .int .u8 x.2.1.2.1, .int .u8 x.2.1.2.2.1, .int .u8 x.2.1.2.2.2.1, .int .i64 x.2.1.2.2.2.2, .int .u64 x.2.2.1, .int .u64 x.2.2.2.1, .int .u64 x.2.2.2.2.1, .int .u64 x.2.2.2.2.2.1, .int .u64 x.2.2.2.2.2.2.1, .int .u64 x.2.2.2.2.2.2.2.1, .int .u64 x.2.2.2.2.2.2.2.2]] w fun e w' => e = .returned (.bool (rightP x)) ∧ Below w.heap.size w w' := by
  obtain ⟨s, ⟨a, b, c, d, n⟩, r1, r2, r3, r4, r5, r6, r7⟩ := x
  obtain ⟨_, hok1, _⟩ := hok
  unfold NtOkT at hok1
  dsimp only at hok1 ⊢
  unfold rightP rightN seven
  dsimp only
  have hbx := bk_new w #[.int .i64 s, .int .u8 a, .int .u8 b, .int .u8 c, .int .u8 d, .int .i64 n, .int .u64 r1, .int .u64 r2, .int .u64 r3, .int .u64 r4, .int .u64 r5, .int .u64 r6, .int .u64 r7] 28
  have hBx := bl_alloc (Below.refl _ w) (.cells #[.int .i64 s, .int .u8 a, .int .u8 b, .int .u8 c, .int .u8 d, .int .i64 n, .int .u64 r1, .int .u64 r2, .int .u64 r3, .int .u64 r4, .int .u64 r5, .int .u64 r6, .int .u64 r7] 28)
  replace hbx := Lib.hid hbx
  replace hBx := Lib.hid hBx
  by_cases hs : 1 ≤ s ∧ s ≤ 255
  · have d1 : decide (s < 1) = false := decide_eq_false (by omega)
    have d2 : decide (255 < s) = false := decide_eq_false (by omega)
    rw [decide_eq_true hs, Bool.true_and]
    cases hR : rightB a b c d n with
    | false =>
      replace hR := Lib.hid hR
      rw [Bool.false_and, Bool.false_and]
      go_enter Try.func18, Try.ntmps18
      go_wp2_with (go_at_call 42; (with_reducible refine (rright_any a b c d n _ hok1).mono ?_); rw [hR.out]; rintro e w1 ⟨rfl, hB1⟩)
      go_ret
      exact ⟨rfl, bl_then hBx.out hB1⟩
    | true =>
      replace hR := Lib.hid hR
      rw [Bool.true_and, seven_perm]
      have hfin : ∀ v : Bool, [r1, r2, r3, r4, r5, r6, r7].any overB = v → (!([r1, r2, r3, r4, r5, r6, r7].any overB) && !([r6, r7].any underB)) = (!v && (decide (1500 ≤ r6) && decide (1500 ≤ r7))) := by
        intro v hv
        rw [hv]
        congr 1
        simp only [List.any_cons, List.any_nil, Bool.or_false, underB, Bool.not_or]
        congr 1 <;> (rw [← decide_not]; congr 1; simp)
      obtain ⟨F, hF⟩ : ∃ F, (!([r1, r2, r3, r4, r5, r6, r7].any overB) && !([r6, r7].any underB)) = F := ⟨_, rfl⟩
      rw [hF] at hfin ⊢
      clear hF
      replace hfin := Lib.hid hfin
      go_enter Try.func18, Try.ntmps18
      go_wp2_with (go_at_call 42; (with_reducible refine (rright_any a b c d n _ hok1).mono ?_); rw [hR.out]; rintro e w1 ⟨rfl, hB1⟩; have hbx1 := bk_below hB1 hbx.out; obtain ⟨z0, z1, z2, z3, z4, z5, z6, z7, z8, z9, z10, z11, z12, _⟩ := cells13 hbx1)
      go_loop [34] (fun v => ∃ k : Nat, v = .int .i64 k ∧ k ≤ 7 ∧ ∀ i, i < k → overB ([r1, r2, r3, r4, r5, r6, r7].getD i 0) = false) (fun v => 7 - (intOf v).toNat)
      case atStart => exact ⟨0, rfl, by omega, fun i hi => absurd hi (by omega)⟩
      case round =>
        obtain ⟨k, rfl, hk, hn⟩ := hrel
        replace hn := Lib.hid hn
        by_cases hk7 : k < 7
        · have hk2 : decide ((k : Int) < 7) = true := decide_eq_true (by omega)
          have hix := fun w => ix7 r1 r2 r3 r4 r5 r6 r7 k hk7 w
          obtain ⟨q, hq⟩ : ∃ q, [r1, r2, r3, r4, r5, r6, r7].getD k 0 = q := ⟨_, rfl⟩
          simp only [hq] at hix
          replace hq := Lib.hid hq
          by_cases ho : 281474976710656 < q
          · have ho2 : decide (281474976710656 < q) = true := decide_eq_true ho
            have hany : [r1, r2, r3, r4, r5, r6, r7].any overB = true := any_at (k := k) (by simpa using hk7) (by rw [hq.out]; exact ho2)
            have hf2 := hfin.out true hany
            replace hf2 := Lib.hid hf2
            clear hany
            go_wp2
            go_ret
            exact ⟨ret_bool (by rw [hf2.out]; rfl), bl_then hBx.out hB1⟩
          · have ho2 : decide (281474976710656 < q) = false := decide_eq_false ho
            have ho3 : overB q = false := ho2
            replace ho3 := Lib.hid ho3
            go_wp2
            go_round
            case rel =>
              refine ⟨k + 1, by first | rfl | (congr 1; omega), by omega, fun i hi => ?_⟩
              rcases Nat.lt_or_ge i k with h | h
              · exact hn.out i h
              · obtain rfl : i = k := by omega
                rw [hq.out, ho3.out]
            case measure => simp [intOf]; omega
        · have hk2 : decide ((k : Int) < 7) = false := decide_eq_false (by omega)
          obtain rfl : k = 7 := by omega
          have hany : [r1, r2, r3, r4, r5, r6, r7].any overB = false := any_none (fun i hi => hn.out i (by simpa using hi))
          have hf2 := hfin.out false hany
          replace hf2 := Lib.hid hf2
          clear hany
          by_cases h6 : 1500 ≤ r6
          · have h6' : decide (1500 ≤ r6) = true := decide_eq_true h6
            go_wp2
            go_ret
            exact ⟨ret_bool (by rw [hf2.out, h6']; simp), bl_then hBx.out hB1⟩
          · have h6' : decide (1500 ≤ r6) = false := decide_eq_false h6
            go_wp2
            go_ret
            exact ⟨ret_bool (by rw [hf2.out, h6']; simp), bl_then hBx.out hB1⟩
  · rw [decide_eq_false hs, Bool.false_and, Bool.false_and, Bool.false_and]
    by_cases h1 : s < 1
    · have d1 : decide (s < 1) = true := decide_eq_true h1
      go_enter Try.func18, Try.ntmps18
      go_wp2_with (fail)
      go_ret
      exact ⟨rfl, hBx.out⟩
    · have d1 : decide (s < 1) = false := decide_eq_false h1
      have d2 : decide (255 < s) = true := decide_eq_true (by omega)
      go_enter Try.func18, Try.ntmps18
      go_wp2_with (fail)
      go_ret
      exact ⟨rfl, hBx.out⟩
end Go.Proofs.Ytfcekicjlgdmaaa
