/- Contracts: slices.Grow and slices.Concat of rows. -/
import Derived.Test.YtebeknnjjoobnaaDoorBiG
set_option linter.unusedVariables false
set_option linter.unusedSimpArgs false
set_option maxRecDepth 100000
namespace Go.Proofs.YtebeknnjjoobnaaDoor
open Go.RowKit Go.Sort Go.Lib Go.Shelf Go.Proofs Go.Proofs.YtebeknnjjoobnaaDoorW.PrintWords
attribute [local go_sem] max2_int min2_int max_two min_two

abbrev OwnW (w : World) (base : Nat) (v : Value) (l : List Rw) : Prop := w.ownsRow base 32 6 v l.length (wrows l)
theorem grow_any (n : Nat) (hn : n ≤ 1000) (w : World) :
    Calls Tryd.prog 37 #[.slice none 0 0, .int .i64 n] w fun e w' => ∃ v, e = .returned v ∧ OwnW w' w.heap.size v [] ∧ Below w.heap.size w w' := by
  rcases Nat.eq_zero_or_pos n with rfl | hp
  · exact (Any8.slices_Grow_room growRw none 0 0 0 w (Nat.le_refl _) (by omega) (by omega) (by omega)).mono fun e w' ⟨h1, h2⟩ => ⟨_, h1, ⟨rfl, .inl ⟨rfl, rfl⟩⟩, by rw [h2]; exact Below.refl _ _⟩
  · obtain ⟨i0, hi, hzz⟩ := Option.map_eq_some_iff.1 inf_rw
    simp only [Prod.mk.injEq] at hzz
    obtain ⟨hz0, hz1, hz2⟩ := hzz
    have hbig : (0 + n) * i0.bytes ≤ 140737488355328 := by rw [hz2]; omega
    have hcap := grownCap_ge w (0 + n) 0 (growRw_ren.t 25)
    have hcap2 := grownCap_le_maxLen w (0 + n) 0 (growRw_ren.t 25) (by unfold maxLen; omega)
    have hg := Any8.slices_Grow_grow growRw i0 _ hi hz0 (by omega) none 0 0 n [] w (Nat.le_refl _) (by omega) hbig (by omega) (by simp) (fun _ => rfl) (fun a ha => by cases ha)
    obtain ⟨C, hC⟩ : ∃ C, grownCap w (0 + n) 0 (growRw_ren.t 25) = C := ⟨_, rfl⟩
    rw [hC] at hg hcap hcap2
    refine hg.mono fun e w' h => ?_
    obtain ⟨h1, h2⟩ := h
    refine ⟨_, h1, ⟨rfl, .inr ⟨w.heap.size, C, _, rfl, Nat.le_refl _, by rw [h2]; exact heap_alloc_new w.drew _, Nat.zero_le _, hcap2, ?_, by simp; rfl⟩⟩, by rw [h2]; exact bl_alloc (bl_drew (Below.refl _ w)) _⟩
    simp only [Array.size_append, size_zeroCells]
    show 0 + (0 + n - 0) * 6 + (C - (0 + n)) * 6 = _
    omega
set_option maxHeartbeats 1600000 in
theorem concat_any (q ca cb : Nat) (A B : Option Addr) (a b : List Rw) (w : World) (hA : RwAt w A a) (hB : RwAt w B b) (ha : a.length ≤ 400) (hb : b.length ≤ 400)
    (x0 : w.cell? ⟨q, 0, none⟩ = some (.slice A a.length ca)) (x1 : w.cell? ⟨q, 1, none⟩ = some (.slice B b.length cb)) :
    Calls Tryd.prog 22 #[.slice (some ⟨q, 0, none⟩) 2 2] w fun e w' => ∃ v, e = .returned v ∧ OwnW w' w.heap.size v (a ++ b) ∧ Below w.heap.size w w' := by
  obtain ⟨n, hn⟩ : ∃ n, a.length = n := ⟨_, rfl⟩
  obtain ⟨m, hm⟩ : ∃ m, b.length = m := ⟨_, rfl⟩
  rw [hn] at ha x0
  rw [hm] at hb x1
  have q1 : decide ((n : Int) < 0) = false := decide_eq_false (by omega)
  have q2 : decide ((n : Int) + (m : Int) < 0) = false := decide_eq_false (by omega)
  have hsum : ((n : Int) + (m : Int)) = ((n + m : Nat) : Int) := by omega
  have hlt := cl_lt x0
  replace hn := Lib.hid hn
  replace hm := Lib.hid hm
  replace hA := Lib.hid hA
  replace hB := Lib.hid hB
  replace hsum := Lib.hid hsum
  go_enter Tryd.func22, Tryd.ntmps22
  go_wp2
  refine wp_loop_rounds 3 ?_
  rw [rounds_succ]
  go_wp2
  rw [rounds_succ]
  go_wp2
  rw [rounds_succ]
  go_wp2_with (fail)
  rw [hsum.out]
  refine (grow_any (n + m) (by omega) _).mono ?_; rintro e w1 ⟨v, rfl, ho, hB1⟩
  have x0' := hB1.cell (p := ⟨q, 0, none⟩) hlt
  have x1' := hB1.cell (p := ⟨q, 1, none⟩) hlt
  rw [x0] at x0'
  rw [x1] at x1'
  have hA1 := Lib.hid (hA.out.below hB1)
  have hB2 := Lib.hid (hB.out.below hB1)
  clear x0 x1
  go_wp2_with (fail)
  refine wp_loop_rounds 3 ?_
  rw [rounds_succ]
  go_wp2_with (at_builtin; refine append_rws w.heap.size rfl (.tmp 31) (.tmp 32) rfl _ [] a A n _ rfl rfl hn.out.symm ho hA1.out hB1 hB1.size (by simp; omega) ?_; intro v1 w2 ho1 hB3)
  have x1'' := hB3.cell (p := ⟨q, 1, none⟩) hlt
  rw [← hB1.cell (p := ⟨q, 1, none⟩) hlt, x1'] at x1''
  have hB4 := Lib.hid (hB.out.below hB3)
  rw [List.nil_append] at ho1
  clear x0' x1' hB1 ho hA1 hB2
  rw [rounds_succ]
  go_wp2_with (at_builtin; refine append_rws w.heap.size rfl (.tmp 31) (.tmp 32) rfl _ a b B m _ rfl rfl hm.out.symm ho1 hB4.out hB3 hB3.size (by rw [hn.out]; omega) ?_; intro v2 w3 ho2 hB5)
  rw [rounds_succ]
  go_wp2
  go_ret
  exact ⟨_, rfl, ho2, hB5⟩
end Go.Proofs.YtebeknnjjoobnaaDoor
