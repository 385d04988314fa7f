/- Contract of leb.Get: the number that bytes begin with. -/
import Derived.Test.YtfcekicjlgdmaaaLeb
set_option linter.unusedVariables false
set_option linter.unusedSimpArgs false
namespace Go.Proofs.Ytfcekicjlgdmaaa
open Go.RowKit Go.Proofs.YtfcekicjlgdmaaaW.PrintWords
attribute [local go_sem] max2_int min2_int max_two min_two

theorem u8_and_all : ∀ n : Fin 256, bits .and .u8 (n.val : Int) 127 = ((n.val % 128 : Nat) : Int) ∧ ((bits .and .u8 (n.val : Int) 128 != 0) = decide (128 ≤ n.val)) := by decide +kernel
theorem u8_and127 (c : Int) (h0 : 0 ≤ c) (h1 : c ≤ 255) : bits .and .u8 c 127 = c % 128 ∧ ((bits .and .u8 c 128 != 0) = decide (128 ≤ c)) := by
  have h := u8_and_all ⟨c.toNat, by omega⟩
  simp only [Int.toNat_of_nonneg h0] at h
  refine ⟨by rw [h.1]; omega, ?_⟩
  rw [h.2]
  congr 1
  simp; omega
theorem u64_or_join (n p b : Nat) (i : Nat) (hp : p = 2 ^ i) (hn : n < p) (hb : n + p * b < 18446744073709551616) : bits .or .u64 (n : Int) ((p * b : Nat) : Int) = ((n + p * b : Nat) : Int) := by
  subst hp
  have h := bits_or_u64_nat n (2 ^ i * b) (by omega) (by omega)
  rw [h, Nat.or_comm, ← Nat.two_pow_add_eq_or_of_lt hn]
  congr 1
  omega

/-- What a byte adds: the walk's own terms, at place k. -/
theorem get_step (xs : List Int) (k : Nat) (hk : k < xs.length) (hb : ∀ x ∈ xs, 0 ≤ x ∧ x ≤ 255) (hk9 : k ≤ 9) (hfit : k = 9 → xs.getD k 0 % 128 < 2) :
    IntKind.u64.wrap (xs.getD k 0 % 128 * 2 ^ (7 * (k : Int)).toNat) = xs.getD k 0 % 128 * 2 ^ (7 * (k : Int)).toNat ∧
    (xs.getD k 0 % 128 * 2 ^ (7 * (k : Int)).toNat / 2 ^ (7 * (k : Int)).toNat != xs.getD k 0 % 128) = false ∧
    bits .or .u64 (val (xs.take k) : Int) (xs.getD k 0 % 128 * 2 ^ (7 * (k : Int)).toNat) = (val (xs.take (k + 1)) : Int) ∧ val (xs.take (k + 1)) < 18446744073709551616 := by
  have h0 : 0 ≤ xs.getD k 0 ∧ xs.getD k 0 ≤ 255 := by
    rw [List.getD_eq_getElem?_getD, List.getElem?_eq_getElem hk]; exact hb _ (List.getElem_mem hk)
  have hv := val_take_succ xs k hk
  have hlt := val_take_lt xs k (by omega)
  generalize xs.getD k 0 = c at *
  have e7 : (7 * (k : Int)).toNat = 7 * k := by omega
  rw [e7]
  have ep : (128 : Nat) ^ k = 2 ^ (7 * k) := by rw [Nat.pow_mul]
  rw [ep] at hv hlt
  have ei : ((2 ^ (7 * k) : Nat) : Int) = (2 : Int) ^ (7 * k) := by simp
  rw [← ei]
  have hm : c % 128 = ((c.toNat % 128 : Nat) : Int) := by omega
  rw [hm]
  generalize hq : c.toNat % 128 = q at *
  have hq2 : q < 128 := by omega
  have hbound : (2 : Nat) ^ (7 * k) * (q + 1) ≤ 18446744073709551616 := by
    rcases Nat.lt_or_ge k 9 with h | h
    · have h1 : (2 : Nat) ^ (7 * k) ≤ 2 ^ 56 := Nat.pow_le_pow_right (by decide) (by omega)
      have h2 : (2 : Nat) ^ (7 * k) * (q + 1) ≤ 2 ^ 56 * 128 := Nat.mul_le_mul h1 (by omega)
      exact Nat.le_trans h2 (by decide)
    · obtain rfl : k = 9 := by omega
      have := hfit rfl
      have h2 : (2 : Nat) ^ (7 * 9) * (q + 1) ≤ 2 ^ (7 * 9) * 2 := Nat.mul_le_mul (Nat.le_refl _) (by omega)
      exact Nat.le_trans h2 (by decide)
  rw [Nat.mul_add, Nat.mul_one] at hbound
  have hj := u64_or_join (val (xs.take k)) (2 ^ (7 * k)) q (7 * k) rfl hlt (by omega)
  have hc : (q : Int) * ((2 ^ (7 * k) : Nat) : Int) = ((2 ^ (7 * k) * q : Nat) : Int) := by rw [Int.natCast_mul, Int.mul_comm]
  rw [hc, hv]
  refine ⟨?_, ?_, hj, by omega⟩
  · rw [IntKind.wrap_u64]; omega
  · rw [bne_eq_false_iff_eq]
    have hpos : 0 < (2 : Nat) ^ (7 * k) := Nat.pow_pos (by decide)
    rw [Int.natCast_mul, Int.mul_comm]
    exact Int.mul_ediv_cancel _ (by omega)
theorem get_over (xs : List Int) (k : Nat) (hk : k < xs.length) (hb : ∀ x ∈ xs, 0 ≤ x ∧ x ≤ 255) (hk9 : k = 9) (hfit : ¬ xs.getD k 0 % 128 < 2) (hge : ∀ j, j < k → 128 ≤ xs.getD j 0) :
    (IntKind.u64.wrap (xs.getD k 0 % 128 * 2 ^ (7 * (k : Int)).toNat) / 2 ^ (7 * (k : Int)).toNat != xs.getD k 0 % 128) = true ∧ getV xs = (0, 0, 21) := by
  subst hk9
  constructor
  · rw [bne_iff_ne]
    have e : (2 : Int) ^ (7 * ((9 : Nat) : Int)).toNat = 9223372036854775808 := by decide
    rw [e, IntKind.wrap_u64]
    omega
  · rcases Int.lt_or_le (xs.getD 9 0) 128 with h | h
    · refine getV_not hk hge h fun n hn he => ?_
      have h1 := (enc_take_only hk he).1
      have hv := val_take_succ xs 9 hk
      have h9 : (128 : Nat) ^ 9 = 9223372036854775808 := by decide
      rw [h9] at hv
      have h0 : 0 ≤ xs.getD 9 0 := by rw [List.getD_eq_getElem?_getD, List.getElem?_eq_getElem hk]; exact (hb _ (List.getElem_mem hk)).1
      have h5 : 2 ≤ (xs.getD 9 0).toNat % 128 := by omega
      generalize (xs.getD 9 0).toNat % 128 = q at *
      generalize val (List.take (9 + 1) xs) = v at *
      omega
    · refine getV_none 10 (by omega) fun j hj => ?_
      rcases Nat.lt_or_ge j 9 with h1 | h1
      · exact hge j h1
      · obtain rfl : j = 9 := by omega
        exact h

theorem ret_get {a b c : Int} {xs : List Int} (h : getV xs = (a, b, c)) : Ending.returned (.tuple #[.int .u64 a, .int .i64 b, .int .i64 c]) = .returned (.tuple #[.int .u64 (getV xs).1, .int .i64 (getV xs).2.1, .int .i64 (getV xs).2.2]) := by rw [h]

set_option maxHeartbeats 1600000 in
set_option maxRecDepth 100000 in
theorem get_any (A : Option Addr) (cap : Nat) (xs : List Int) (w : World) (hr : ReadsInt w .u8 A xs.length xs) (hcap : xs.length ≤ cap) (hcm : cap ≤ 9223372036854775807) (hb : ∀ x ∈ xs, 0 ≤ x ∧ x ≤ 255) :
    Calls Try.prog 60 #[.slice A xs.length cap] w fun e w' => e = .returned (.tuple #[.int .u64 (getV xs).1, .int .i64 (getV xs).2.1, .int .i64 (getV xs).2.2]) ∧ w = w' := by
  obtain ⟨m, hmin, hmx, hm10, hm⟩ : ∃ m : Nat, (if (10 : Int) < (xs.length : Int) then (10 : Int) else (xs.length : Int)) = (m : Int) ∧ m ≤ xs.length ∧ m ≤ 10 ∧ m = min xs.length 10 :=
    ⟨min xs.length 10, by split <;> omega, by omega, by omega, rfl⟩
  replace hm := Lib.hid hm
  have hR := Lib.hid hr
  have hB := Lib.hid hb
  obtain ⟨i0, hi0, _, hsz, _⟩ := info_parts info_u8
  clear hr hb
  go_enter Try.func60, Try.ntmps60
  go_wp2
  go_loop [15, 5] (fun i v => ∃ k : Nat, k ≤ m ∧ i = .int .i64 k ∧ v = .int .u64 (val (xs.take k)) ∧ ∀ j, j < k → 128 ≤ xs.getD j 0) (fun i _ => m - (intOf i).toNat)
  case atStart => exact ⟨0, Nat.zero_le _, rfl, rfl, fun j hj => absurd hj (by omega)⟩
  case round =>
    obtain ⟨k, hk, rfl, rfl, hge⟩ := hrel
    replace hge := Lib.hid hge
    by_cases hlt : k < m
    · have hkl : k < xs.length := by omega
      obtain ⟨ad, rfl, hcell⟩ := hR.out.at_ (k : Int) (by omega) (by omega)
      have hc0 : 0 ≤ xs.getD k 0 ∧ xs.getD k 0 ≤ 255 := by
        rw [List.getD_eq_getElem?_getD, List.getElem?_eq_getElem hkl]; exact hB.out _ (List.getElem_mem hkl)
      obtain ⟨ha1, ha2⟩ := u8_and127 (xs.getD k 0) hc0.1 hc0.2
      have hrd : rd xs (k : Int) = xs.getD k 0 := by simp [rd]
      rw [hrd, Int.toNat_natCast] at hcell
      clear hrd
      obtain ⟨c, hc⟩ : ∃ c, xs.getD k 0 = c := ⟨_, rfl⟩
      rw [hc] at hcell hc0 ha1 ha2
      replace hc := Lib.hid hc
      by_cases hfit : k = 9 ∧ ¬ c % 128 < 2
      · obtain ⟨h9, h2⟩ := hfit
        obtain ⟨hov, hgv⟩ := get_over xs k hkl hB.out h9 (by rw [hc.out]; exact h2) hge.out
        rw [hc.out] at hov
        replace hgv := Lib.hid hgv
        clear h9 h2
        clear hmin hi0 hsz
        obtain ⟨p, hp⟩ : ∃ p, (2 : Int) ^ (7 * (k : Int)).toNat = p := ⟨_, rfl⟩
        rw [hp] at hov
        go_wp2
        go_ret3
        exact ⟨ret_get hgv.out, rfl⟩
      · obtain ⟨s1, s2, s3, s4⟩ := get_step xs k hkl hB.out (by omega) (fun h => by rw [hc.out]; rcases Classical.em (c % 128 < 2) with h1 | h1; exact h1; exact absurd ⟨h, h1⟩ hfit)
        rw [hc.out] at s1 s2 s3
        clear hfit
        obtain ⟨p, hp⟩ : ∃ p, (2 : Int) ^ (7 * (k : Int)).toNat = p := ⟨_, rfl⟩
        rw [hp] at s1 s2 s3
        clear hmin hi0 hsz
        by_cases hmore : 128 ≤ c
        · go_wp2
          go_round
          case rel =>
            refine ⟨k + 1, by omega, by go_num, rfl, fun j hj => ?_⟩
            rcases Nat.lt_or_ge j k with h | h
            · exact hge.out j h
            · obtain rfl : j = k := by omega
              rw [hc.out]; exact hmore
          case measure => simp [intOf]; omega
        · have hck : xs.getD k 0 < 128 := by rw [hc.out]; omega
          by_cases hl : (enc (val (xs.take (k + 1)))).length = k + 1
          · have hgv := Lib.hid (getV_some hkl hge.out hck _ s4 (enc_take hkl hB.out hge.out hck hl))
            have hl0 : (((enc (val (xs.take (k + 1)))).length : Int) != (k : Int) + 1) = false := by rw [bne_eq_false_iff_eq]; omega
            clear hl hck
            go_wp2_with (go_at_call 68; refine (size_any (val (xs.take (k + 1))) _ s4).mono ?_; rintro e w' ⟨rfl, rfl⟩)
            go_ret3
            exact ⟨ret_get hgv.out, rfl⟩
          · have hgv := Lib.hid (getV_not hkl hge.out hck fun n hn he => hl (by rw [← (enc_take_only hkl he).1]; exact (enc_take_only hkl he).2))
            have hl0 : (((enc (val (xs.take (k + 1)))).length : Int) != (k : Int) + 1) = true := by rw [bne_iff_ne]; omega
            clear hl hck
            go_wp2_with (go_at_call 68; refine (size_any (val (xs.take (k + 1))) _ s4).mono ?_; rintro e w' ⟨rfl, rfl⟩)
            go_ret3
            exact ⟨ret_get hgv.out, rfl⟩
    · obtain rfl : k = m := by omega
      have hgv := Lib.hid (getV_none k hm.out hge.out)
      go_wp2
      go_ret3
      exact ⟨ret_get hgv.out, rfl⟩
end Go.Proofs.Ytfcekicjlgdmaaa
