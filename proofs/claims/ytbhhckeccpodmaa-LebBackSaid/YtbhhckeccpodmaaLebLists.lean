/- The walk of LebLists. -/
import Derived.Test.YtbhhckeccpodmaaLebLaws2
import Derived.Test.YtbhhckeccpodmaaLebAll
import Derived.Deep.RegionWith
set_option linter.unusedVariables false
set_option linter.unusedSimpArgs false
namespace Go.Proofs.Ytbhhckeccpodmaa
open Go.RowKit Go.Proofs.YtbhhckeccpodmaaW.PrintWords
attribute [local go_sem] max2_int min2_int max_two min_two

set_option maxHeartbeats 1600000 in
set_option maxRecDepth 100000 in
theorem lebLists_walk (A1 : Option Addr) (len1 cap1 : Nat) (zs1 : List Int) {w : World} (hz1 : IsRow .u64 w A1 len1 cap1 zs1) (A2 : Option Addr) (len2 cap2 : Nat) (zs2 : List Int) (hz2 : IsRow .u8 w A2 len2 cap2 zs2) :
    Calls Try.prog 13 #[.slice A1 len1 cap1, .slice A2 len2 cap2] w fun e w' => e = .returned (.bool true) ∧ Below w.heap.size w w' := by
  obtain ⟨l, rfl, hrl, hml, hwl, hcl⟩ := ReadsInt.ofRowC hz1
  obtain ⟨b, rfl, hrb, hmb, hwb, hcb⟩ := ReadsInt.ofRowC hz2
  have hcm1 := IsRow.cap_le hz1
  have hcm2 := IsRow.cap_le hz2
  have hl : U64 l := fun x hx => bounds_u64 (hwl x hx)
  have hb : ∀ x ∈ b, 0 ≤ x ∧ x ≤ 255 := fun x hx => bounds_u8 (hwb x hx)
  have hRl := Lib.hid hrl
  have hRb := Lib.hid hrb
  have hL := Lib.hid hl
  have hB := Lib.hid hb
  clear hz1 hz2 hrl hrb hwl hwb hl hb
  by_cases c1 : 200 < (l.length : Int)
  · have d1 : decide ((200 : Int) < (l.length : Int)) = true := decide_eq_true c1
    go_enter Try.func13, Try.ntmps13
    go_wp2_with (go_at_call 16; refine (lebAlive_any _).mono ?_; rintro e w0 ⟨rfl, hB0⟩)
    go_ret
    exact ⟨rfl, hB0⟩
  have d1 : decide ((200 : Int) < (l.length : Int)) = false := decide_eq_false c1
  by_cases c2 : 1000 < (b.length : Int)
  · have d2 : decide ((1000 : Int) < (b.length : Int)) = true := decide_eq_true c2
    go_enter Try.func13, Try.ntmps13
    go_wp2_with (go_at_call 16; refine (lebAlive_any _).mono ?_; rintro e w0 ⟨rfl, hB0⟩)
    go_ret
    exact ⟨rfl, hB0⟩
  have d2 : decide ((1000 : Int) < (b.length : Int)) = false := decide_eq_false c2
  go_enter Try.func13, Try.ntmps13
  go_wp2_with (first | (go_at_call 16; refine (lebAlive_any _).mono ?_; rintro e w0 ⟨rfl, hB0⟩) | (at_builtin; refine print_append_row (w0 := w) w.heap.size rfl (.tmp 20) (.tmp 21) 26 5 .u8 1 rfl Try.underlying26 info_u8 (by decide) _ [] b A2 _ cap2 rfl rfl (empty_own w0 w.heap.size 5 .u8 hB0.size) ((hRb.out.below hB0).below (bl_alloc (Below.refl _ _) _)) (bl_alloc hB0 _) (bl_alloc hB0 _).size (by simp; omega) ?_; rw [List.nil_append]; intro v1 w1 ho1 hB1 hg1 hat1; obtain ⟨A3, c3, rfl, hr3⟩ := own_reads ho1; have hc3 := own_le ho1; have hcm3 := own_capm ho1))
  refine (all_any A3 c3 b _ hr3 hc3 hcm3 hB.out).mono ?_; rintro e w2 ⟨v2, rfl, ho2, hB2⟩; obtain ⟨A4, c4, rfl, hr4⟩ := own_reads ho2
  go_wp2_with (fail)
  refine (rall_any A2 cap2 b _ (hRb.out.below (bl_then hB1 hB2)) hcb hcm2 hB.out).mono ?_; rintro e w3 ⟨v3, rfl, ho3, hB3⟩; obtain ⟨A5, c5, rfl, hr5⟩ := own_reads ho3
  have hBa := bl_then (bl_then hB1 hB2) hB3
  have hrl3 := Lib.hid (hRl.out.below hBa)
  replace hr4 := Lib.hid ((hr4.below hB3).drewN 1)
  replace hr5 := Lib.hid (hr5.drewN 1)
  have hlm := allV_len b
  obtain ⟨m, hm⟩ : ∃ m, (allV b).1 = m := ⟨_, rfl⟩
  obtain ⟨f, hf⟩ : ∃ f, (allV b).2 = f := ⟨_, rfl⟩
  rw [hm] at hr4 hr5 hlm ⊢
  rw [hf]
  clear hm hf ho1 ho2 ho3 hr3 hB0 hB1 hB2 hB3 hg1 hat1 hRl hRb
  obtain ⟨S, hS⟩ : ∃ S, strOfNums (encL l) = S := ⟨_, rfl⟩
  have cv : ∀ (w' : World) (A : Option Addr) (c : Nat), RowE (encL l) w' A → (convert 26 9 (.slice A (encL l).length c)).run Try.prog w' = .ok (.string S) w' := fun w' A c h => by
    rw [← hS]; exact string_of_reads (P := Try.prog) (c := c) Try.underlying26 Try.underlying5 Try.underlying9 h
  replace cv := Lib.hid cv
  clear hS
  have hmm : decide (m = m) = true := decide_eq_true rfl
  go_wp2_with (fail)
  go_region_with (first | (go_at_call 42; (with_reducible refine (nums_any A1 cap1 l _ ?_ hL.out (by omega)).mono ?_); (first | exact (hrl3.out.drewN 1).below hBd | exact hrl3.out); rintro e w4 ⟨v4, rfl, ho4, hBc⟩; obtain ⟨A6, c6, rfl, hr6⟩ := own_reads ho4; have k1 := cv.out w4 A6 c6 hr6; clear ho4; try (have k2 := cv.out w4 A7 c7 (RowE.below hr7 hBc))) | (go_at_call 43; (with_reducible refine (rnums_any A1 cap1 l _ ?_ hL.out (by omega)).mono ?_); (first | exact (hrl3.out.drewN 1).below hBc | exact hrl3.out); rintro e w5 ⟨v5, rfl, ho5, hBd⟩; obtain ⟨A7, c7, rfl, hr7⟩ := own_reads ho5; have k3 := cv.out w5 A7 c7 hr7; clear ho5; try (have k4 := cv.out w5 A6 c6 (RowE.below hr6 hBd))) | (go_at_call 44; (with_reducible refine (same_any A4 A5 c4 c5 m m _ ?_ ?_ (by omega) (by omega)).mono ?_); (first | exact (hr4.out.below hBc).below hBd | exact (hr4.out.below hBd).below hBc); (first | exact (hr5.out.below hBc).below hBd | exact (hr5.out.below hBd).below hBc); rintro e w6 ⟨rfl, nd, rfl⟩))
  all_goals
    simp only [Act.put, List.getElem_toArray, List.getElem_cons_succ, List.getElem_cons_zero, List.setIfInBounds_toArray, List.set_cons_zero, List.set_cons_succ]
    go_wp2
    go_ret
    refine ⟨rfl, bl_drewN ?_ _⟩
    first | exact bl_then (bl_then (bl_drew hBa) hBc) hBd | exact bl_then (bl_then (bl_drew hBa) hBd) hBc
end Go.Proofs.Ytbhhckeccpodmaa
