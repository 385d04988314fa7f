/- The walks of layer 2's laws. -/
import Derived.Test.YtbhhckeccpodmaaRef02Get
set_option linter.unusedVariables false
set_option linter.unusedSimpArgs false
namespace Go.Proofs.Ytbhhckeccpodmaa
open Go.RowKit Go.Proofs.YtbhhckeccpodmaaW.PrintWords
attribute [local go_sem] max2_int min2_int max_two min_two

theorem reads_new (W : World) (e : TypeId) (k : IntKind) (xs : List Int) (hm : xs.length ≤ 9223372036854775807) :
    ReadsInt (W.alloc (.cells (nums k xs).toArray e)) k (some ⟨W.heap.size, 0, none⟩) xs.length xs := by
  obtain ⟨A, c, he, hr⟩ := own_reads (own_lit W W.heap.size e k xs (Nat.le_refl _) hm)
  injection he with h1 _ _
  subst h1
  exact hr
theorem enc_300 : enc 300 = [172, 2] := by rw [enc_big (by decide), enc_small (by decide)]; rfl
theorem getV_alive : getV [172, 2, 9] = (300, 2, 0) := by
  have := getV_ok (b := [172, 2, 9]) (n := 300) (by decide) ⟨[9], by rw [enc_300]; rfl⟩
  rw [this, enc_300]; rfl

set_option maxHeartbeats 800000 in
theorem lebAlive_any (w : World) : Calls Try.prog 16 #[] w fun e w' => e = .returned (.bool true) ∧ Below w.heap.size w w' := by
  have hr := Lib.hid (reads_new w 5 .u8 [172, 2, 9] (by decide))
  have hg := getV_alive
  have hs : strOfNums (enc 300) = ⟨#[172, 2]⟩ := by rw [enc_300]; rfl
  have hz1 : zig (-1) = 1 := by decide
  have hz2 : zag 1 = -1 := by decide
  go_enter Try.func16, Try.ntmps16
  go_wp2_with (first | (go_at_call 15; refine (get_any _ 3 [172, 2, 9] _ hr.out (by decide) (by decide) (by decide)).mono ?_; rw [hg]; rintro e w' ⟨rfl, rfl⟩) | (go_at_call 20; refine (put_any 300 _ (by decide)).mono ?_; rintro e w1 ⟨v1, rfl, ho1, hB1⟩; have hcv := own_string (P := Try.prog) Try.underlying26 Try.underlying5 Try.underlying9 ho1; rw [hs] at hcv) | (go_at_call 21; refine (zig_any (-1) _ (by decide) (by decide)).mono ?_; rintro e w' ⟨rfl, rfl⟩) | (go_at_call 23; refine (zag_any 1 _ (by decide) (by decide)).mono ?_; rintro e w' ⟨rfl, rfl⟩))
  go_ret
  exact ⟨rfl, bl_then (bl_alloc (Below.refl _ _) _) hB1⟩

theorem getV_nil : getV [] = (0, 0, 21) := getV_none 0 (by decide) (fun j hj => absurd hj (by omega))
theorem getV_long : getV [128, 0] = (0, 0, 21) := by
  have hge : ∀ j, j < 1 → (128 : Int) ≤ ([128, 0] : List Int).getD j 0 := by
    intro j hj
    obtain rfl : j = 0 := by omega
    decide
  refine getV_not (k := 1) (by decide) hge (by decide) fun n hn he => ?_
  have h1 := (enc_take_only (by decide) he).1
  rw [show val (List.take (1 + 1) [128, 0]) = 0 from by decide] at h1
  subst h1
  rw [enc_small (by decide)] at he
  revert he
  decide
theorem enc_zero_len : ((enc 0).length : Int) = 1 := by rw [enc_small (by decide)]; rfl
theorem enc_most_len : ((enc 18446744073709551615).length : Int) = 10 := by
  have h1 := enc_len_10 (n := 18446744073709551615) (by decide)
  rcases Nat.lt_or_ge (enc 18446744073709551615).length 10 with h | h
  · exfalso
    have := enc_len_lt 9 18446744073709551615 (by omega)
    revert this
    decide
  · omega

set_option maxHeartbeats 800000 in
theorem lebNames_walk (w : World) : Calls Try.prog 3 #[] w fun e w' => e = .returned (.bool true) ∧ Below w.heap.size w w' := by
  have hr := Lib.hid (reads_new w 5 .u8 [128, 0] (by decide))
  have hg := getV_long
  have hg0 := getV_nil
  have hl0 := enc_zero_len
  have hl1 := enc_most_len
  go_enter Try.func3, Try.ntmps3
  go_wp2_with (fail)
  refine (get_any _ 2 [128, 0] _ hr.out (by decide) (by decide) (by decide)).mono ?_
  rw [hg]; rintro e w' ⟨rfl, rfl⟩
  go_wp2_with (fail)
  refine (get_any none 0 [] _ ⟨rfl, by decide, fun h => absurd h (by decide)⟩ (by decide) (by decide) (by decide)).mono ?_
  rw [hg0]; rintro e w' ⟨rfl, rfl⟩
  go_wp2_with (go_at_call 16; refine (lebAlive_any _).mono ?_; rintro e w0 ⟨rfl, hB0⟩)
  refine (size_any 0 _ (by decide)).mono ?_
  rw [hl0]; rintro e w' ⟨rfl, rfl⟩
  go_wp2_with (fail)
  refine (size_any 18446744073709551615 _ (by decide)).mono ?_
  rw [hl1]; rintro e w' ⟨rfl, rfl⟩
  go_wp2
  go_ret
  exact ⟨rfl, bl_then (bl_alloc (Below.refl _ _) _) hB0⟩

set_option maxHeartbeats 800000 in
theorem lebZigs_walk (n : Int) (hn : -9223372036854775808 ≤ n ∧ n ≤ 9223372036854775807) (u : Int) (hu : 0 ≤ u ∧ u ≤ 18446744073709551615) (w : World) :
    Calls Try.prog 5 #[.int .i64 n, .int .u64 u] w fun e w' => e = .returned (.bool true) ∧ Below w.heap.size w w' := by
  have b1 := zig_bd hn.1 hn.2
  have b2 := zag_bd hu.1 hu.2
  have e1 : (zag (zig n) == n) = true := by rw [zag_zig]; simp
  have e2 : (zig (zag u) == u) = true := by rw [zig_zag u hu.1]; simp
  go_enter Try.func5, Try.ntmps5
  go_wp2_with (first | (go_at_call 16; refine (lebAlive_any _).mono ?_; rintro e w0 ⟨rfl, hB0⟩) | (go_at_call 21; (with_reducible refine (zig_any n _ hn.1 hn.2).mono ?_); rintro e w' ⟨rfl, rfl⟩) | (go_at_call 21; (with_reducible refine (zig_any (zag u) _ b2.1 b2.2).mono ?_); rintro e w' ⟨rfl, rfl⟩) | (go_at_call 22; (with_reducible refine (rzig_any n _ hn.1 hn.2).mono ?_); rintro e w' ⟨rfl, rfl⟩) | (go_at_call 23; (with_reducible refine (zag_any (zig n) _ b1.1 b1.2).mono ?_); rintro e w' ⟨rfl, rfl⟩) | (go_at_call 23; (with_reducible refine (zag_any u _ hu.1 hu.2).mono ?_); rintro e w' ⟨rfl, rfl⟩))
  go_ret
  exact ⟨rfl, hB0⟩
end Go.Proofs.Ytbhhckeccpodmaa
