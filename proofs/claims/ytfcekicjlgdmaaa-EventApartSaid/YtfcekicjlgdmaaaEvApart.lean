/- The walk of EventApart. -/
import Derived.Test.YtfcekicjlgdmaaaEvH
set_option linter.unusedVariables false
set_option linter.unusedSimpArgs false
set_option maxRecDepth 100000
namespace Go.Proofs.Ytfcekicjlgdmaaa
open Go.RowKit Go.Shelf Go.Proofs.YtfcekicjlgdmaaaW.PrintWords
attribute [local go_sem] max2_int min2_int max_two min_two
set_option maxHeartbeats 12800000 in
theorem eventApart_walk (k s : Int) (A1 : Option Addr) (n c1 : Nat) {w : World} (hf1 : IsFlat polLeaves w A1 n c1) (A2 : Option Addr) (m c2 : Nat) (zs : List Int) (hr1 : IsRow .i64 w A2 m c2 zs) (g p : Int) (k' s' : Int) (A1' : Option Addr) (n' c1' : Nat) (hf2 : IsFlat polLeaves w A1' n' c1') (A2' : Option Addr) (m' c2' : Nat) (zs' : List Int) (hr2 : IsRow .i64 w A2' m' c2' zs') (g' p' : Int) :
    Calls Try.prog 12 #[.agg #[.int .i64 k, .int .i64 s, .slice A1 n c1, .slice A2 m c2, .int .u64 g, .int .u64 p], .agg #[.int .i64 k', .int .i64 s', .slice A1' n' c1', .slice A2' m' c2', .int .u64 g', .int .u64 p']] w fun e w' => e = .returned (.bool true) ∧ Below w.heap.size w w' := by
  obtain ⟨ps, ds, hE⟩ := ev_at hf1 hr1
  obtain ⟨ps', ds', hE'⟩ := ev_at hf2 hr2
  clear hf1 hr1 hf2 hr2
  have hx : Bk ((w.alloc (.cells #[.int .i64 k, .int .i64 s, .slice A1 n c1, .slice A2 m c2, .int .u64 g, .int .u64 p] 53)).alloc (.cells #[.int .i64 k', .int .i64 s', .slice A1' n' c1', .slice A2' m' c2', .int .u64 g', .int .u64 p'] 53)) w.heap.size #[.int .i64 k, .int .i64 s, .slice A1 n c1, .slice A2 m c2, .int .u64 g, .int .u64 p] 53 := bk_alloc (bk_new w _ _) _
  have hy : Bk ((w.alloc (.cells #[.int .i64 k, .int .i64 s, .slice A1 n c1, .slice A2 m c2, .int .u64 g, .int .u64 p] 53)).alloc (.cells #[.int .i64 k', .int .i64 s', .slice A1' n' c1', .slice A2' m' c2', .int .u64 g', .int .u64 p'] 53)) (w.heap.size + 1) #[.int .i64 k', .int .i64 s', .slice A1' n' c1', .slice A2' m' c2', .int .u64 g', .int .u64 p'] 53 := bk_at (by simp)
  have hB := bl_alloc (bl_alloc (Below.refl _ w) (.cells #[.int .i64 k, .int .i64 s, .slice A1 n c1, .slice A2 m c2, .int .u64 g, .int .u64 p] 53)) (.cells #[.int .i64 k', .int .i64 s', .slice A1' n' c1', .slice A2' m' c2', .int .u64 g', .int .u64 p'] 53)
  have hg1 := fun W => great_any k s g p A1 A2 n m c1 c2 W
  have hg2 := fun W => great_any k' s' g' p' A1' A2' n' m' c1' c2' W
  have hokA := hE.2.2.1.ok
  have hokB := hE'.2.2.1.ok
  replace hE := Lib.hid hE
  replace hE' := Lib.hid hE'
  replace hx := Lib.hid hx
  replace hy := Lib.hid hy
  replace hB := Lib.hid hB
  by_cases q1 : 30 < n ∨ 30 < m
  · rw [decide_eq_true q1] at hg1
    replace hg1 := Lib.hid hg1
    clear q1
    go_enter Try.func12, Try.ntmps12
    go_wp2_with (first | (go_at_call 27; (with_reducible refine (ealive_any _).mono ?_); rintro e w0 ⟨rfl, hq0⟩; have hB0 := bl_then hB.out hq0; have hx0 := bk_below hq0 hx.out; obtain ⟨x0_0, x0_1, x0_2, x0_3, x0_4, x0_5, x0_f0, x0_f1, x0_f2, x0_f3, x0_f4, x0_f5⟩ := cells6 hx0; have hy0 := bk_below hq0 hy.out; obtain ⟨y0_0, y0_1, y0_2, y0_3, y0_4, y0_5, y0_f0, y0_f1, y0_f2, y0_f3, y0_f4, y0_f5⟩ := cells6 hy0) | (go_at_call 28; (with_reducible refine (hg1.out _).mono ?_); rintro e w1 ⟨rfl, hq1⟩; have hB1 := bl_then hB0 hq1; have hx1 := bk_below hq1 hx0; obtain ⟨x1_0, x1_1, x1_2, x1_3, x1_4, x1_5, x1_f0, x1_f1, x1_f2, x1_f3, x1_f4, x1_f5⟩ := cells6 hx1; have hy1 := bk_below hq1 hy0; obtain ⟨y1_0, y1_1, y1_2, y1_3, y1_4, y1_5, y1_f0, y1_f1, y1_f2, y1_f3, y1_f4, y1_f5⟩ := cells6 hy1))
    go_ret
    exact ⟨rfl, hB1⟩
  rw [decide_eq_false q1] at hg1
  replace hg1 := Lib.hid hg1
  have hn30 : n ≤ 200 := by omega
  have hm30 : m ≤ 200 := by omega
  by_cases q2 : 30 < n' ∨ 30 < m'
  · rw [decide_eq_true q2] at hg2
    replace hg2 := Lib.hid hg2
    clear q1 q2
    go_enter Try.func12, Try.ntmps12
    go_wp2_with (first | (go_at_call 27; (with_reducible refine (ealive_any _).mono ?_); rintro e w0 ⟨rfl, hq0⟩; have hB0 := bl_then hB.out hq0; have hx0 := bk_below hq0 hx.out; obtain ⟨x0_0, x0_1, x0_2, x0_3, x0_4, x0_5, x0_f0, x0_f1, x0_f2, x0_f3, x0_f4, x0_f5⟩ := cells6 hx0; have hy0 := bk_below hq0 hy.out; obtain ⟨y0_0, y0_1, y0_2, y0_3, y0_4, y0_5, y0_f0, y0_f1, y0_f2, y0_f3, y0_f4, y0_f5⟩ := cells6 hy0) | (go_at_call 28; (with_reducible refine (hg1.out _).mono ?_); rintro e w1 ⟨rfl, hq1⟩; have hB1 := bl_then hB0 hq1; have hx1 := bk_below hq1 hx0; obtain ⟨x1_0, x1_1, x1_2, x1_3, x1_4, x1_5, x1_f0, x1_f1, x1_f2, x1_f3, x1_f4, x1_f5⟩ := cells6 hx1; have hy1 := bk_below hq1 hy0; obtain ⟨y1_0, y1_1, y1_2, y1_3, y1_4, y1_5, y1_f0, y1_f1, y1_f2, y1_f3, y1_f4, y1_f5⟩ := cells6 hy1) | (go_at_call 28; (with_reducible refine (hg2.out _).mono ?_); rintro e w2 ⟨rfl, hq2⟩; have hB2 := bl_then hB1 hq2; have hx2 := bk_below hq2 hx1; obtain ⟨x2_0, x2_1, x2_2, x2_3, x2_4, x2_5, x2_f0, x2_f1, x2_f2, x2_f3, x2_f4, x2_f5⟩ := cells6 hx2; have hy2 := bk_below hq2 hy1; obtain ⟨y2_0, y2_1, y2_2, y2_3, y2_4, y2_5, y2_f0, y2_f1, y2_f2, y2_f3, y2_f4, y2_f5⟩ := cells6 hy2))
    go_ret
    exact ⟨rfl, hB2⟩
  rw [decide_eq_false q2] at hg2
  replace hg2 := Lib.hid hg2
  have hn30' : n' ≤ 200 := by omega
  have hm30' : m' ≤ 200 := by omega
  clear q1 q2
  have hr1 := fun W h => eright_at (k := k) (s := s) (g := g) (p := p) (A1 := A1) (A2 := A2) (c1 := c1) (c2 := c2) (n := n) (m := m) (ps := ps) (ds := ds) (w := W) h hn30 hm30
  have hr2 := fun W h => eright_at (k := k') (s := s') (g := g') (p := p') (A1 := A1') (A2 := A2') (c1 := c1') (c2 := c2') (n := n') (m := m') (ps := ps') (ds := ds') (w := W) h hn30' hm30'
  by_cases hR : RightE k s g p ps ds
  rotate_left 1
  · rw [rightE_no hR] at hr1
    replace hr1 := Lib.hid hr1
    clear hR hokA hokB
    go_enter Try.func12, Try.ntmps12
    go_wp2_with (first | (go_at_call 27; (with_reducible refine (ealive_any _).mono ?_); rintro e w0 ⟨rfl, hq0⟩; have hB0 := bl_then hB.out hq0; have hx0 := bk_below hq0 hx.out; obtain ⟨x0_0, x0_1, x0_2, x0_3, x0_4, x0_5, x0_f0, x0_f1, x0_f2, x0_f3, x0_f4, x0_f5⟩ := cells6 hx0; have hy0 := bk_below hq0 hy.out; obtain ⟨y0_0, y0_1, y0_2, y0_3, y0_4, y0_5, y0_f0, y0_f1, y0_f2, y0_f3, y0_f4, y0_f5⟩ := cells6 hy0) | (go_at_call 28; (with_reducible refine (hg1.out _).mono ?_); rintro e w1 ⟨rfl, hq1⟩; have hB1 := bl_then hB0 hq1; have hx1 := bk_below hq1 hx0; obtain ⟨x1_0, x1_1, x1_2, x1_3, x1_4, x1_5, x1_f0, x1_f1, x1_f2, x1_f3, x1_f4, x1_f5⟩ := cells6 hx1; have hy1 := bk_below hq1 hy0; obtain ⟨y1_0, y1_1, y1_2, y1_3, y1_4, y1_5, y1_f0, y1_f1, y1_f2, y1_f3, y1_f4, y1_f5⟩ := cells6 hy1) | (go_at_call 28; (with_reducible refine (hg2.out _).mono ?_); rintro e w2 ⟨rfl, hq2⟩; have hB2 := bl_then hB1 hq2; have hx2 := bk_below hq2 hx1; obtain ⟨x2_0, x2_1, x2_2, x2_3, x2_4, x2_5, x2_f0, x2_f1, x2_f2, x2_f3, x2_f4, x2_f5⟩ := cells6 hx2; have hy2 := bk_below hq2 hy1; obtain ⟨y2_0, y2_1, y2_2, y2_3, y2_4, y2_5, y2_f0, y2_f1, y2_f2, y2_f3, y2_f4, y2_f5⟩ := cells6 hy2) | (go_at_call 30; (with_reducible refine (hr1.out _ (hE.out.below hB2)).mono ?_); rintro e w3 ⟨rfl, hq3⟩; have hB3 := bl_then hB2 hq3; have hx3 := bk_below hq3 hx2; obtain ⟨x3_0, x3_1, x3_2, x3_3, x3_4, x3_5, x3_f0, x3_f1, x3_f2, x3_f3, x3_f4, x3_f5⟩ := cells6 hx3; have hy3 := bk_below hq3 hy2; obtain ⟨y3_0, y3_1, y3_2, y3_3, y3_4, y3_5, y3_f0, y3_f1, y3_f2, y3_f3, y3_f4, y3_f5⟩ := cells6 hy3))
    go_ret
    exact ⟨rfl, hB3⟩
  rw [rightE_yes hR] at hr1
  replace hr1 := Lib.hid hr1
  by_cases hR' : RightE k' s' g' p' ps' ds'
  rotate_left 1
  · rw [rightE_no hR'] at hr2
    replace hr2 := Lib.hid hr2
    clear hR hR' hokA hokB
    go_enter Try.func12, Try.ntmps12
    go_wp2_with (first | (go_at_call 27; (with_reducible refine (ealive_any _).mono ?_); rintro e w0 ⟨rfl, hq0⟩; have hB0 := bl_then hB.out hq0; have hx0 := bk_below hq0 hx.out; obtain ⟨x0_0, x0_1, x0_2, x0_3, x0_4, x0_5, x0_f0, x0_f1, x0_f2, x0_f3, x0_f4, x0_f5⟩ := cells6 hx0; have hy0 := bk_below hq0 hy.out; obtain ⟨y0_0, y0_1, y0_2, y0_3, y0_4, y0_5, y0_f0, y0_f1, y0_f2, y0_f3, y0_f4, y0_f5⟩ := cells6 hy0) | (go_at_call 28; (with_reducible refine (hg1.out _).mono ?_); rintro e w1 ⟨rfl, hq1⟩; have hB1 := bl_then hB0 hq1; have hx1 := bk_below hq1 hx0; obtain ⟨x1_0, x1_1, x1_2, x1_3, x1_4, x1_5, x1_f0, x1_f1, x1_f2, x1_f3, x1_f4, x1_f5⟩ := cells6 hx1; have hy1 := bk_below hq1 hy0; obtain ⟨y1_0, y1_1, y1_2, y1_3, y1_4, y1_5, y1_f0, y1_f1, y1_f2, y1_f3, y1_f4, y1_f5⟩ := cells6 hy1) | (go_at_call 28; (with_reducible refine (hg2.out _).mono ?_); rintro e w2 ⟨rfl, hq2⟩; have hB2 := bl_then hB1 hq2; have hx2 := bk_below hq2 hx1; obtain ⟨x2_0, x2_1, x2_2, x2_3, x2_4, x2_5, x2_f0, x2_f1, x2_f2, x2_f3, x2_f4, x2_f5⟩ := cells6 hx2; have hy2 := bk_below hq2 hy1; obtain ⟨y2_0, y2_1, y2_2, y2_3, y2_4, y2_5, y2_f0, y2_f1, y2_f2, y2_f3, y2_f4, y2_f5⟩ := cells6 hy2) | (go_at_call 30; (with_reducible refine (hr1.out _ (hE.out.below hB2)).mono ?_); rintro e w3 ⟨rfl, hq3⟩; have hB3 := bl_then hB2 hq3; have hx3 := bk_below hq3 hx2; obtain ⟨x3_0, x3_1, x3_2, x3_3, x3_4, x3_5, x3_f0, x3_f1, x3_f2, x3_f3, x3_f4, x3_f5⟩ := cells6 hx3; have hy3 := bk_below hq3 hy2; obtain ⟨y3_0, y3_1, y3_2, y3_3, y3_4, y3_5, y3_f0, y3_f1, y3_f2, y3_f3, y3_f4, y3_f5⟩ := cells6 hy3) | (go_at_call 30; (with_reducible refine (hr2.out _ (hE'.out.below hB3)).mono ?_); rintro e w4 ⟨rfl, hq4⟩; have hB4 := bl_then hB3 hq4; have hx4 := bk_below hq4 hx3; obtain ⟨x4_0, x4_1, x4_2, x4_3, x4_4, x4_5, x4_f0, x4_f1, x4_f2, x4_f3, x4_f4, x4_f5⟩ := cells6 hx4; have hy4 := bk_below hq4 hy3; obtain ⟨y4_0, y4_1, y4_2, y4_3, y4_4, y4_5, y4_f0, y4_f1, y4_f2, y4_f3, y4_f4, y4_f5⟩ := cells6 hy4))
    go_ret
    exact ⟨rfl, hB4⟩
  rw [rightE_yes hR'] at hr2
  replace hr2 := Lib.hid hr2
  have hb1 := fun W h => ebytes_at (k := k) (s := s) (g := g) (p := p) (A1 := A1) (A2 := A2) (c1 := c1) (c2 := c2) (n := n) (m := m) (ps := ps) (ds := ds) (w := W) h hn30 hm30
  have hb2 := fun W h => ebytes_at (k := k') (s := s') (g := g') (p := p') (A1 := A1') (A2 := A2') (c1 := c1') (c2 := c2') (n := n') (m := m') (ps := ps') (ds := ds') (w := W) h hn30' hm30'
  unfold MakesBytes at hb1 hb2
  rw [bytesV_yes hR] at hb1
  rw [bytesV_yes hR'] at hb2
  dsimp only at hb1 hb2
  have hs1 := fun W h h' => esame_at (k := k) (s := s) (g := g) (p := p) (k' := k') (s' := s') (g' := g') (p' := p') (A1 := A1) (A2 := A2) (c1 := c1) (c2 := c2) (n := n) (m := m) (ps := ps) (ds := ds) (A1' := A1') (A2' := A2') (c1' := c1') (c2' := c2') (n' := n') (m' := m') (ps' := ps') (ds' := ds') (w := W) h h' hn30 hm30
  have hst : ((strOfNums (encL (evNums k s g p ps ds))).toList == (strOfNums (encL (evNums k' s' g' p' ps' ds'))).toList) = sameE k s g p k' s' g' p' ps ps' ds ds' := by
    by_cases h : encL (evNums k s g p ps ds) = encL (evNums k' s' g' p' ps' ds')
    · rw [(strs_eq h).1]
      obtain ⟨rfl, rfl, rfl, rfl, rfl, rfl⟩ := evNums_inj (hR.shape hokA) (hR'.shape hokB) (encL_inj (evNums_u64 hR hokA) (evNums_u64 hR' hokB) h)
      unfold sameE
      simp
    · rw [(strs_ne (encL_bytes _) (encL_bytes _) h).1]
      unfold sameE
      symm
      refine decide_eq_false (fun h' => h ?_)
      obtain ⟨rfl, rfl, rfl, rfl, rfl, rfl⟩ := h'
      rfl
  obtain ⟨Sm, hSm⟩ : ∃ V, sameE k s g p k' s' g' p' ps ps' ds ds' = V := ⟨_, rfl⟩
  rw [hSm] at hs1 hst
  have cv1 := fun W A cc h => cv8 W A cc (encL (evNums k s g p ps ds)) h
  have cv2 := fun W A cc h => cv8 W A cc (encL (evNums k' s' g' p' ps' ds')) h
  obtain ⟨S1, hS1⟩ : ∃ S, strOfNums (encL (evNums k s g p ps ds)) = S := ⟨_, rfl⟩
  obtain ⟨S2, hS2⟩ : ∃ S, strOfNums (encL (evNums k' s' g' p' ps' ds')) = S := ⟨_, rfl⟩
  rw [hS1] at hst cv1
  rw [hS2] at hst cv2
  obtain ⟨X1, hX1⟩ : ∃ X, encL (evNums k s g p ps ds) = X := ⟨_, rfl⟩
  obtain ⟨X2, hX2⟩ : ∃ X, encL (evNums k' s' g' p' ps' ds') = X := ⟨_, rfl⟩
  rw [hX1] at hb1 cv1
  rw [hX2] at hb2 cv2
  clear hSm hS1 hS2 hX1 hX2 hR hR' hokA hokB
  have hss : (Sm == Sm) = true := beq_self_eq_true Sm
  have hsd : decide (Sm = Sm) = true := decide_eq_true rfl
  replace hs1 := Lib.hid hs1
  replace hb1 := Lib.hid hb1
  replace hb2 := Lib.hid hb2
  replace cv1 := Lib.hid cv1
  replace cv2 := Lib.hid cv2
  go_enter Try.func12, Try.ntmps12
  go_wp2_with (first | (go_at_call 27; (with_reducible refine (ealive_any _).mono ?_); rintro e w0 ⟨rfl, hq0⟩; have hB0 := bl_then hB.out hq0; have hx0 := bk_below hq0 hx.out; obtain ⟨x0_0, x0_1, x0_2, x0_3, x0_4, x0_5, x0_f0, x0_f1, x0_f2, x0_f3, x0_f4, x0_f5⟩ := cells6 hx0; have hy0 := bk_below hq0 hy.out; obtain ⟨y0_0, y0_1, y0_2, y0_3, y0_4, y0_5, y0_f0, y0_f1, y0_f2, y0_f3, y0_f4, y0_f5⟩ := cells6 hy0) | (go_at_call 28; (with_reducible refine (hg1.out _).mono ?_); rintro e w1 ⟨rfl, hq1⟩; have hB1 := bl_then hB0 hq1; have hx1 := bk_below hq1 hx0; obtain ⟨x1_0, x1_1, x1_2, x1_3, x1_4, x1_5, x1_f0, x1_f1, x1_f2, x1_f3, x1_f4, x1_f5⟩ := cells6 hx1; have hy1 := bk_below hq1 hy0; obtain ⟨y1_0, y1_1, y1_2, y1_3, y1_4, y1_5, y1_f0, y1_f1, y1_f2, y1_f3, y1_f4, y1_f5⟩ := cells6 hy1) | (go_at_call 28; (with_reducible refine (hg2.out _).mono ?_); rintro e w2 ⟨rfl, hq2⟩; have hB2 := bl_then hB1 hq2; have hx2 := bk_below hq2 hx1; obtain ⟨x2_0, x2_1, x2_2, x2_3, x2_4, x2_5, x2_f0, x2_f1, x2_f2, x2_f3, x2_f4, x2_f5⟩ := cells6 hx2; have hy2 := bk_below hq2 hy1; obtain ⟨y2_0, y2_1, y2_2, y2_3, y2_4, y2_5, y2_f0, y2_f1, y2_f2, y2_f3, y2_f4, y2_f5⟩ := cells6 hy2) | (go_at_call 30; (with_reducible refine (hr1.out _ (hE.out.below hB2)).mono ?_); rintro e w3 ⟨rfl, hq3⟩; have hB3 := bl_then hB2 hq3; have hx3 := bk_below hq3 hx2; obtain ⟨x3_0, x3_1, x3_2, x3_3, x3_4, x3_5, x3_f0, x3_f1, x3_f2, x3_f3, x3_f4, x3_f5⟩ := cells6 hx3; have hy3 := bk_below hq3 hy2; obtain ⟨y3_0, y3_1, y3_2, y3_3, y3_4, y3_5, y3_f0, y3_f1, y3_f2, y3_f3, y3_f4, y3_f5⟩ := cells6 hy3) | (go_at_call 30; (with_reducible refine (hr2.out _ (hE'.out.below hB3)).mono ?_); rintro e w4 ⟨rfl, hq4⟩; have hB4 := bl_then hB3 hq4; have hx4 := bk_below hq4 hx3; obtain ⟨x4_0, x4_1, x4_2, x4_3, x4_4, x4_5, x4_f0, x4_f1, x4_f2, x4_f3, x4_f4, x4_f5⟩ := cells6 hx4; have hy4 := bk_below hq4 hy3; obtain ⟨y4_0, y4_1, y4_2, y4_3, y4_4, y4_5, y4_f0, y4_f1, y4_f2, y4_f3, y4_f4, y4_f5⟩ := cells6 hy4) | (go_at_call 25; (with_reducible refine (hb1.out _ (hE.out.below hB4)).mono ?_); rintro e w5 ⟨v5, rfl, ho5, hq5⟩; have hB5 := bl_then hB4 hq5; have hx5 := bk_below hq5 hx4; obtain ⟨x5_0, x5_1, x5_2, x5_3, x5_4, x5_5, x5_f0, x5_f1, x5_f2, x5_f3, x5_f4, x5_f5⟩ := cells6 hx5; have hy5 := bk_below hq5 hy4; obtain ⟨y5_0, y5_1, y5_2, y5_3, y5_4, y5_5, y5_f0, y5_f1, y5_f2, y5_f3, y5_f4, y5_f5⟩ := cells6 hy5; obtain ⟨Ab1, cb1, rfl, hrx⟩ := own_reads ho5; have hcb1 := own_le ho5) | (go_at_call 25; (with_reducible refine (hb2.out _ (hE'.out.below hB5)).mono ?_); rintro e w6 ⟨v6, rfl, ho6, hq6⟩; have hB6 := bl_then hB5 hq6; have hx6 := bk_below hq6 hx5; obtain ⟨x6_0, x6_1, x6_2, x6_3, x6_4, x6_5, x6_f0, x6_f1, x6_f2, x6_f3, x6_f4, x6_f5⟩ := cells6 hx6; have hy6 := bk_below hq6 hy5; obtain ⟨y6_0, y6_1, y6_2, y6_3, y6_4, y6_5, y6_f0, y6_f1, y6_f2, y6_f3, y6_f4, y6_f5⟩ := cells6 hy6; obtain ⟨Ab2, cb2, rfl, hry⟩ := own_reads ho6; have hcb2 := own_le ho6; have hcbm2 := own_capm ho6))
  clear x0_0 x0_1 x0_2 x0_3 x0_4 x0_5 x0_f0 x0_f1 x0_f2 x0_f3 x0_f4 x0_f5 y0_0 y0_1 y0_2 y0_3 y0_4 y0_5 y0_f0 y0_f1 y0_f2 y0_f3 y0_f4 y0_f5 x1_0 x1_1 x1_2 x1_3 x1_4 x1_5 x1_f0 x1_f1 x1_f2 x1_f3 x1_f4 x1_f5 y1_0 y1_1 y1_2 y1_3 y1_4 y1_5 y1_f0 y1_f1 y1_f2 y1_f3 y1_f4 y1_f5 x2_0 x2_1 x2_2 x2_3 x2_4 x2_5 x2_f0 x2_f1 x2_f2 x2_f3 x2_f4 x2_f5 y2_0 y2_1 y2_2 y2_3 y2_4 y2_5 y2_f0 y2_f1 y2_f2 y2_f3 y2_f4 y2_f5 x3_0 x3_1 x3_2 x3_3 x3_4 x3_5 x3_f0 x3_f1 x3_f2 x3_f3 x3_f4 x3_f5 y3_0 y3_1 y3_2 y3_3 y3_4 y3_5 y3_f0 y3_f1 y3_f2 y3_f3 y3_f4 y3_f5 x4_0 x4_1 x4_2 x4_3 x4_4 x4_5 x4_f0 x4_f1 x4_f2 x4_f3 x4_f4 x4_f5 y4_0 y4_1 y4_2 y4_3 y4_4 y4_5 y4_f0 y4_f1 y4_f2 y4_f3 y4_f4 y4_f5 x5_0 x5_1 x5_2 x5_3 x5_4 x5_5 x5_f0 x5_f1 x5_f2 x5_f3 x5_f4 x5_f5 y5_0 y5_1 y5_2 y5_3 y5_4 y5_5 y5_f0 y5_f1 y5_f2 y5_f3 y5_f4 y5_f5 x6_0 x6_1 x6_2 x6_3 x6_4 x6_5 x6_f0 x6_f1 x6_f2 x6_f3 x6_f4 x6_f5 y6_0 y6_1 y6_2 y6_3 y6_4 y6_5 y6_f0 y6_f1 y6_f2 y6_f3 y6_f4 y6_f5
  have hE6 := hE.out.below hB6
  have hE6' := hE'.out.below hB6
  have hrx' := hrx.below hq6
  replace hx6 := Lib.hid hx6
  replace hy6 := Lib.hid hy6
  replace hE6 := Lib.hid hE6
  replace hE6' := Lib.hid hE6'
  replace hrx' := Lib.hid hrx'
  replace hry := Lib.hid hry
  replace hB6 := Lib.hid hB6
  clear hx0 hx1 hx2 hx3 hx4 hx5 hy0 hy1 hy2 hy3 hy4 hy5 hB0 hB1 hB2 hB3 hB4 hB5 hq0 hq1 hq2 hq3 hq4 hq5 hq6 ho5 ho6 hrx
  refine wp_region_noPanic ?_
  refine wp_region_held_drew (S := fun w' => Below w6.heap.size w6 w') (by kernel_rfl) (bl_drew (Below.refl _ _)) (fun hHeld => ?_)
  refine wpAnyH_take (i := 0) (oi := { dst := some 37, op := Go.Op.move (Go.Operand.tmp 6), type := 31, pos := "law.go:89", after := #[], guard := none }) (v := ?_) rfl (by kernel_rfl) (by kernel_rfl) (by kernel_rfl) (fun _ _ _ h => h) (Or.inl ⟨by rfl, ?_⟩) (by assumption) ?_
  rotate_left 1
  · intro w' hSw
    first | (go_simp; done) | (go_simp; with_reducible rfl)
  try simp only [Act.put, List.getElem_toArray, List.getElem_cons_succ, List.getElem_cons_zero, List.setIfInBounds_toArray, List.set_cons_zero, List.set_cons_succ]
  refine wpAnyH_take (i := 1) (oi := { dst := some 38, op := Go.Op.binOp Go.BinOp.eql 31 (Go.Operand.tmp 37) (Go.Operand.const (Go.Value.int Go.IntKind.i64 0)) 31, type := 4, pos := "law.go:89", after := #[{ on := 0, ground := Go.Ground.data }], guard := none }) (v := ?_) rfl (by kernel_rfl) (by kernel_rfl) (by kernel_rfl) (fun _ _ _ h => h) (Or.inl ⟨by rfl, ?_⟩) (by assumption) ?_
  rotate_left 1
  · intro w' hSw
    first | (go_simp; done) | (go_simp; with_reducible rfl)
  try simp only [Act.put, List.getElem_toArray, List.getElem_cons_succ, List.getElem_cons_zero, List.setIfInBounds_toArray, List.set_cons_zero, List.set_cons_succ]
  refine wpAnyH_take (i := 2) (oi := { dst := some 39, op := Go.Op.move (Go.Operand.tmp 38), type := 4, pos := "law.go:89", after := #[{ on := 1, ground := Go.Ground.data }], guard := none }) (v := ?_) rfl (by kernel_rfl) (by kernel_rfl) (by kernel_rfl) (fun _ _ _ h => h) (Or.inl ⟨by rfl, ?_⟩) (by assumption) ?_
  rotate_left 1
  · intro w' hSw
    first | (go_simp; done) | (go_simp; with_reducible rfl)
  try simp only [Act.put, List.getElem_toArray, List.getElem_cons_succ, List.getElem_cons_zero, List.setIfInBounds_toArray, List.set_cons_zero, List.set_cons_succ]
  refine wpAnyH_take (i := 3) (oi := { dst := some 40, op := Go.Op.move (Go.Operand.tmp 8), type := 31, pos := "law.go:89", after := #[{ on := 2, ground := Go.Ground.guard }], guard := some (2, true) }) (v := ?_) rfl (by kernel_rfl) (by kernel_rfl) (by kernel_rfl) (fun _ _ _ h => h) (Or.inl ⟨by rfl, ?_⟩) (by assumption) ?_
  rotate_left 1
  · intro w' hSw
    first | (go_simp; done) | (go_simp; with_reducible rfl)
  try simp only [Act.put, List.getElem_toArray, List.getElem_cons_succ, List.getElem_cons_zero, List.setIfInBounds_toArray, List.set_cons_zero, List.set_cons_succ]
  refine wpAnyH_take (i := 4) (oi := { dst := some 41, op := Go.Op.binOp Go.BinOp.eql 31 (Go.Operand.tmp 40) (Go.Operand.const (Go.Value.int Go.IntKind.i64 0)) 31, type := 4, pos := "law.go:89", after := #[{ on := 3, ground := Go.Ground.data }, { on := 2, ground := Go.Ground.guard }], guard := some (2, true) }) (v := ?_) rfl (by kernel_rfl) (by kernel_rfl) (by kernel_rfl) (fun _ _ _ h => h) (Or.inl ⟨by rfl, ?_⟩) (by assumption) ?_
  rotate_left 1
  · intro w' hSw
    first | (go_simp; done) | (go_simp; with_reducible rfl)
  try simp only [Act.put, List.getElem_toArray, List.getElem_cons_succ, List.getElem_cons_zero, List.setIfInBounds_toArray, List.set_cons_zero, List.set_cons_succ]
  refine wpAnyH_take (i := 5) (oi := { dst := some 42, op := Go.Op.pick (Go.Operand.tmp 39) (Go.Operand.tmp 41) (Go.Operand.const (Go.Value.bool false)), type := 4, pos := "law.go:89", after := #[{ on := 2, ground := Go.Ground.data }, { on := 4, ground := Go.Ground.data }], guard := none }) (v := ?_) rfl (by kernel_rfl) (by kernel_rfl) (by kernel_rfl) (fun _ _ _ h => h) (Or.inl ⟨by rfl, ?_⟩) (by assumption) ?_
  rotate_left 1
  · intro w' hSw
    first | (go_simp; done) | (go_simp; with_reducible rfl)
  try simp only [Act.put, List.getElem_toArray, List.getElem_cons_succ, List.getElem_cons_zero, List.setIfInBounds_toArray, List.set_cons_zero, List.set_cons_succ]
  refine wpAnyH_take (i := 6) (oi := { dst := some 43, op := Go.Op.move (Go.Operand.tmp 42), type := 4, pos := "law.go:89", after := #[{ on := 5, ground := Go.Ground.data }, { on := 2, ground := Go.Ground.chain }], guard := none }) (v := ?_) rfl (by kernel_rfl) (by kernel_rfl) (by kernel_rfl) (fun _ _ _ h => h) (Or.inl ⟨by rfl, ?_⟩) (by assumption) ?_
  rotate_left 1
  · intro w' hSw
    first | (go_simp; done) | (go_simp; with_reducible rfl)
  try simp only [Act.put, List.getElem_toArray, List.getElem_cons_succ, List.getElem_cons_zero, List.setIfInBounds_toArray, List.set_cons_zero, List.set_cons_succ]
  refine wpAnyH_take (i := 7) (oi := { dst := some 44, op := Go.Op.move (Go.Operand.tmp 5), type := 48, pos := "law.go:89", after := #[{ on := 6, ground := Go.Ground.guard }], guard := some (6, true) }) (v := ?_) rfl (by kernel_rfl) (by kernel_rfl) (by kernel_rfl) (fun _ _ _ h => h) (Or.inl ⟨by rfl, ?_⟩) (by assumption) ?_
  rotate_left 1
  · intro w' hSw
    first | (go_simp; done) | (go_simp; with_reducible rfl)
  try simp only [Act.put, List.getElem_toArray, List.getElem_cons_succ, List.getElem_cons_zero, List.setIfInBounds_toArray, List.set_cons_zero, List.set_cons_succ]
  refine wpAnyH_take (i := 8) (oi := { dst := some 45, op := Go.Op.convert 48 9 (Go.Operand.tmp 44), type := 9, pos := "law.go:89", after := #[{ on := 7, ground := Go.Ground.data }, { on := 6, ground := Go.Ground.guard }], guard := some (6, true) }) (v := ?_) rfl (by kernel_rfl) (by kernel_rfl) (by kernel_rfl) (fun _ _ _ h => h) (Or.inl ⟨by rfl, ?_⟩) (by assumption) ?_
  rotate_left 1
  · intro w' hSw
    have kk := cv1.out w' Ab1 cb1 (hrx'.out.below hSw)
    first | (go_simp; done) | (go_simp; with_reducible rfl)
  try simp only [Act.put, List.getElem_toArray, List.getElem_cons_succ, List.getElem_cons_zero, List.setIfInBounds_toArray, List.set_cons_zero, List.set_cons_succ]
  refine wpAnyH_take (i := 9) (oi := { dst := some 46, op := Go.Op.move (Go.Operand.tmp 7), type := 48, pos := "law.go:89", after := #[{ on := 6, ground := Go.Ground.guard }], guard := some (6, true) }) (v := ?_) rfl (by kernel_rfl) (by kernel_rfl) (by kernel_rfl) (fun _ _ _ h => h) (Or.inl ⟨by rfl, ?_⟩) (by assumption) ?_
  rotate_left 1
  · intro w' hSw
    first | (go_simp; done) | (go_simp; with_reducible rfl)
  try simp only [Act.put, List.getElem_toArray, List.getElem_cons_succ, List.getElem_cons_zero, List.setIfInBounds_toArray, List.set_cons_zero, List.set_cons_succ]
  refine wpAnyH_take (i := 10) (oi := { dst := some 47, op := Go.Op.convert 48 9 (Go.Operand.tmp 46), type := 9, pos := "law.go:89", after := #[{ on := 9, ground := Go.Ground.data }, { on := 6, ground := Go.Ground.guard }], guard := some (6, true) }) (v := ?_) rfl (by kernel_rfl) (by kernel_rfl) (by kernel_rfl) (fun _ _ _ h => h) (Or.inl ⟨by rfl, ?_⟩) (by assumption) ?_
  rotate_left 1
  · intro w' hSw
    have kk := cv2.out w' Ab2 cb2 (hry.out.below hSw)
    first | (go_simp; done) | (go_simp; with_reducible rfl)
  try simp only [Act.put, List.getElem_toArray, List.getElem_cons_succ, List.getElem_cons_zero, List.setIfInBounds_toArray, List.set_cons_zero, List.set_cons_succ]
  refine wpAnyH_take (i := 11) (oi := { dst := some 48, op := Go.Op.binOp Go.BinOp.eql 9 (Go.Operand.tmp 45) (Go.Operand.tmp 47) 9, type := 4, pos := "law.go:89", after := #[{ on := 8, ground := Go.Ground.data }, { on := 10, ground := Go.Ground.data }, { on := 6, ground := Go.Ground.guard }], guard := some (6, true) }) (v := ?_) rfl (by kernel_rfl) (by kernel_rfl) (by kernel_rfl) (fun _ _ _ h => h) (Or.inl ⟨by rfl, ?_⟩) (by assumption) ?_
  rotate_left 1
  · intro w' hSw
    first | (go_simp; done) | (go_simp; with_reducible rfl)
  try simp only [Act.put, List.getElem_toArray, List.getElem_cons_succ, List.getElem_cons_zero, List.setIfInBounds_toArray, List.set_cons_zero, List.set_cons_succ]
  refine wpAnyH_take (i := 12) (oi := { dst := some 49, op := Go.Op.load 53 (Go.Operand.tmp 2), type := 53, pos := "law.go:89", after := #[{ on := 6, ground := Go.Ground.guard }], guard := some (6, true) }) (v := ?_) rfl (by kernel_rfl) (by kernel_rfl) (by kernel_rfl) (fun _ _ _ h => h) (Or.inl ⟨by rfl, ?_⟩) (by assumption) ?_
  rotate_left 1
  · intro w' hSw
    obtain ⟨z0, z1, z2, z3, z4, z5, zf0, zf1, zf2, zf3, zf4, zf5⟩ := cells6 (bk_below hSw hx6.out)
    first | (go_simp; done) | (go_simp; with_reducible rfl)
  try simp only [Act.put, List.getElem_toArray, List.getElem_cons_succ, List.getElem_cons_zero, List.setIfInBounds_toArray, List.set_cons_zero, List.set_cons_succ]
  refine wpAnyH_take (i := 13) (oi := { dst := some 50, op := Go.Op.load 53 (Go.Operand.tmp 3), type := 53, pos := "law.go:89", after := #[{ on := 6, ground := Go.Ground.guard }], guard := some (6, true) }) (v := ?_) rfl (by kernel_rfl) (by kernel_rfl) (by kernel_rfl) (fun _ _ _ h => h) (Or.inl ⟨by rfl, ?_⟩) (by assumption) ?_
  rotate_left 1
  · intro w' hSw
    obtain ⟨z0, z1, z2, z3, z4, z5, zf0, zf1, zf2, zf3, zf4, zf5⟩ := cells6 (bk_below hSw hy6.out)
    first | (go_simp; done) | (go_simp; with_reducible rfl)
  try simp only [Act.put, List.getElem_toArray, List.getElem_cons_succ, List.getElem_cons_zero, List.setIfInBounds_toArray, List.set_cons_zero, List.set_cons_succ]
  refine wpAnyH_ready (rs := [14]) (by kernel_rfl) (by simp) ?_
  refine (AllReadyH.cons (o := { dst := some 51, op := Go.Op.call { callee := Go.Callee.value (Go.Operand.func 32), args := #[Go.Operand.tmp 49, Go.Operand.tmp 50], argTypes := #[53, 53] }, type := 4, pos := "law.go:89", after := #[{ on := 12, ground := Go.Ground.data }, { on := 13, ground := Go.Ground.data }, { on := 6, ground := Go.Ground.chain }, { on := 6, ground := Go.Ground.guard }], guard := some (6, true) }) rfl (fun K hK => ?_) AllReadyH.nil)
  go_simp
  go_at_call 32
  (with_reducible refine (hs1.out _ (hE6.out.below hHeld) (hE6'.out.below hHeld)).mono ?_)
  rintro e wa ⟨rfl, hBz⟩
  go_wp2_with (fail)
  refine hK.out _ _ ?_ (fun hHeld => ?_)
  · exact bl_then hHeld hBz
  clear hK K
  try simp only [Act.put, List.getElem_toArray, List.getElem_cons_succ, List.getElem_cons_zero, List.setIfInBounds_toArray, List.set_cons_zero, List.set_cons_succ]
  refine wpAnyH_take (i := 15) (oi := { dst := some 52, op := Go.Op.binOp Go.BinOp.eql 4 (Go.Operand.tmp 48) (Go.Operand.tmp 51) 4, type := 4, pos := "law.go:89", after := #[{ on := 11, ground := Go.Ground.data }, { on := 14, ground := Go.Ground.data }, { on := 6, ground := Go.Ground.guard }], guard := some (6, true) }) (v := ?_) rfl (by kernel_rfl) (by kernel_rfl) (by kernel_rfl) (fun _ _ _ h => h) (Or.inl ⟨by rfl, ?_⟩) (by assumption) ?_
  rotate_left 1
  · intro w' hSw
    first | (go_simp; done) | (go_simp; with_reducible rfl)
  try simp only [Act.put, List.getElem_toArray, List.getElem_cons_succ, List.getElem_cons_zero, List.setIfInBounds_toArray, List.set_cons_zero, List.set_cons_succ]
  refine wpAnyH_take (i := 16) (oi := { dst := some 53, op := Go.Op.pick (Go.Operand.tmp 43) (Go.Operand.tmp 52) (Go.Operand.const (Go.Value.bool false)), type := 4, pos := "law.go:89", after := #[{ on := 6, ground := Go.Ground.data }, { on := 15, ground := Go.Ground.data }], guard := none }) (v := ?_) rfl (by kernel_rfl) (by kernel_rfl) (by kernel_rfl) (fun _ _ _ h => h) (Or.inl ⟨by rfl, ?_⟩) (by assumption) ?_
  rotate_left 1
  · intro w' hSw
    first | (go_simp; done) | (go_simp; with_reducible rfl)
  try simp only [Act.put, List.getElem_toArray, List.getElem_cons_succ, List.getElem_cons_zero, List.setIfInBounds_toArray, List.set_cons_zero, List.set_cons_succ]
  refine wpAnyH_take (i := 17) (oi := { dst := some 4, op := Go.Op.assign (Go.Operand.tmp 53), type := 4, pos := "law.go:89", after := #[{ on := 16, ground := Go.Ground.data }, { on := 14, ground := Go.Ground.chain }, { on := 0, ground := Go.Ground.phase }, { on := 1, ground := Go.Ground.phase }, { on := 2, ground := Go.Ground.phase }, { on := 3, ground := Go.Ground.phase }, { on := 4, ground := Go.Ground.phase }, { on := 5, ground := Go.Ground.phase }, { on := 6, ground := Go.Ground.phase }, { on := 7, ground := Go.Ground.phase }, { on := 8, ground := Go.Ground.phase }, { on := 9, ground := Go.Ground.phase }, { on := 10, ground := Go.Ground.phase }, { on := 11, ground := Go.Ground.phase }, { on := 12, ground := Go.Ground.phase }, { on := 13, ground := Go.Ground.phase }, { on := 14, ground := Go.Ground.phase }, { on := 15, ground := Go.Ground.phase }, { on := 16, ground := Go.Ground.phase }], guard := none }) (v := ?_) rfl (by kernel_rfl) (by kernel_rfl) (by kernel_rfl) (fun _ _ _ h => h) (Or.inl ⟨by rfl, ?_⟩) (by assumption) ?_
  rotate_left 1
  · intro w' hSw
    first | (go_simp; done) | (go_simp; with_reducible rfl)
  try simp only [Act.put, List.getElem_toArray, List.getElem_cons_succ, List.getElem_cons_zero, List.setIfInBounds_toArray, List.set_cons_zero, List.set_cons_succ]
  refine wpAnyH_done (by kernel_rfl) ?_ _
  refine NoPanic.normal ?_
  go_wp2
  go_ret
  exact ⟨rfl, bl_then hB6.out hHeld⟩
end Go.Proofs.Ytfcekicjlgdmaaa
