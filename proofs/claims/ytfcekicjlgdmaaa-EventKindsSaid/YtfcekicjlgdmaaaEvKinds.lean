/- The walk of EventKinds. -/
import Derived.Test.YtfcekicjlgdmaaaEvH
set_option linter.unusedVariables false
set_option linter.unusedSimpArgs false
set_option maxRecDepth 100000
namespace Go.Proofs.Ytfcekicjlgdmaaa
open Go.RowKit Go.Shelf Go.Proofs.YtfcekicjlgdmaaaW.PrintWords
attribute [local go_sem] max2_int min2_int max_two min_two
theorem ev_first {k s g p : Int} {ps : List Pol} {ds : List Int} (h : RightE k s g p ps ds) (ho : OkAll ps) : 2 ≤ (encL (evNums k s g p ps ds)).length ∧ (encL (evNums k s g p ps ds)).getD 0 0 = k := by
  obtain ⟨hk, t, ht⟩ := evNums_head h
  have hl := (evNums_len h ho).1
  rw [ht, List.length_cons] at hl
  rw [ht, encL_one (by omega) t, List.length_cons]
  refine ⟨?_, rfl⟩
  match t, hl with
  | b :: t', _ =>
    rw [encL_cons, List.length_append]
    have := enc_pos b.toNat
    omega
theorem ev_begins {k s g p k' s' g' p' : Int} {ps ps' : List Pol} {ds ds' : List Int} (h : RightE k s g p ps ds) (ho : OkAll ps) (h' : RightE k' s' g' p' ps' ds') (ho' : OkAll ps')
    (hl : (encL (evNums k s g p ps ds)).length < (encL (evNums k' s' g' p' ps' ds')).length) (ht : (encL (evNums k' s' g' p' ps' ds')).take (encL (evNums k s g p ps ds)).length = encL (evNums k s g p ps ds)) : k = 1 ∧ k' = 1 ∧ ps.length < ps'.length := by
  have e := List.take_append_drop (encL (evNums k s g p ps ds)).length (encL (evNums k' s' g' p' ps' ds'))
  rw [ht] at e
  obtain ⟨c, e1, e2⟩ := encL_prefix _ _ _ (evNums_u64 h ho) (evNums_u64 h' ho') e
  obtain ⟨rfl, _, _, _, _, rs, e3, e4, e5⟩ := evNums_prefix (h.shape ho) (h'.shape ho') e1.symm
  have hc : c ≠ [] := fun hc => by
    rw [hc, encL_nil] at e2
    have := congrArg List.length e2
    rw [List.length_drop, List.length_nil] at this
    omega
  have hrs : rs ≠ [] := fun hrs => hc (by rw [e4, hrs, flatN_nil])
  have h1 := e5.resolve_right hrs
  refine ⟨h1, h1, ?_⟩
  rw [e3, List.length_append]
  have := List.length_pos_iff.2 hrs
  omega
set_option maxHeartbeats 12800000 in
theorem eventKinds_walk (k s : Int) (A1 : Option Addr) (n c1 : Nat) {w : World} (hf1 : IsFlat polLeaves w A1 n c1) (A2 : Option Addr) (m c2 : Nat) (zs : List Int) (hr1 : IsRow .i64 w A2 m c2 zs) (g p : Int) (k' s' : Int) (A1' : Option Addr) (n' c1' : Nat) (hf2 : IsFlat polLeaves w A1' n' c1') (A2' : Option Addr) (m' c2' : Nat) (zs' : List Int) (hr2 : IsRow .i64 w A2' m' c2' zs') (g' p' : Int) :
    Calls Try.prog 13 #[.agg #[.int .i64 k, .int .i64 s, .slice A1 n c1, .slice A2 m c2, .int .u64 g, .int .u64 p], .agg #[.int .i64 k', .int .i64 s', .slice A1' n' c1', .slice A2' m' c2', .int .u64 g', .int .u64 p']] w fun e w' => e = .returned (.bool true) ∧ Below w.heap.size w w' := by
  obtain ⟨ps, ds, hE⟩ := ev_at hf1 hr1
  obtain ⟨ps', ds', hE'⟩ := ev_at hf2 hr2
  clear hf1 hr1 hf2 hr2
  have hx : Bk ((w.alloc (.cells #[.int .i64 k, .int .i64 s, .slice A1 n c1, .slice A2 m c2, .int .u64 g, .int .u64 p] 53)).alloc (.cells #[.int .i64 k', .int .i64 s', .slice A1' n' c1', .slice A2' m' c2', .int .u64 g', .int .u64 p'] 53)) w.heap.size #[.int .i64 k, .int .i64 s, .slice A1 n c1, .slice A2 m c2, .int .u64 g, .int .u64 p] 53 := bk_alloc (bk_new w _ _) _
  have hy : Bk ((w.alloc (.cells #[.int .i64 k, .int .i64 s, .slice A1 n c1, .slice A2 m c2, .int .u64 g, .int .u64 p] 53)).alloc (.cells #[.int .i64 k', .int .i64 s', .slice A1' n' c1', .slice A2' m' c2', .int .u64 g', .int .u64 p'] 53)) (w.heap.size + 1) #[.int .i64 k', .int .i64 s', .slice A1' n' c1', .slice A2' m' c2', .int .u64 g', .int .u64 p'] 53 := bk_at (by simp)
  have hB := bl_alloc (bl_alloc (Below.refl _ w) (.cells #[.int .i64 k, .int .i64 s, .slice A1 n c1, .slice A2 m c2, .int .u64 g, .int .u64 p] 53)) (.cells #[.int .i64 k', .int .i64 s', .slice A1' n' c1', .slice A2' m' c2', .int .u64 g', .int .u64 p'] 53)
  have hg1 := fun W => great_any k s g p A1 A2 n m c1 c2 W
  have hg2 := fun W => great_any k' s' g' p' A1' A2' n' m' c1' c2' W
  have hokA := hE.2.2.1.ok
  have hokB := hE'.2.2.1.ok
  replace hE := Lib.hid hE
  replace hE' := Lib.hid hE'
  replace hx := Lib.hid hx
  replace hy := Lib.hid hy
  replace hB := Lib.hid hB
  by_cases q1 : 30 < n ∨ 30 < m
  · rw [decide_eq_true q1] at hg1
    replace hg1 := Lib.hid hg1
    clear q1
    go_enter Try.func13, Try.ntmps13
    go_wp2_with (first | (go_at_call 27; (with_reducible refine (ealive_any _).mono ?_); rintro e w0 ⟨rfl, hq0⟩; have hB0 := bl_then hB.out hq0; have hx0 := bk_below hq0 hx.out; obtain ⟨x0_0, x0_1, x0_2, x0_3, x0_4, x0_5, x0_f0, x0_f1, x0_f2, x0_f3, x0_f4, x0_f5⟩ := cells6 hx0; have hy0 := bk_below hq0 hy.out; obtain ⟨y0_0, y0_1, y0_2, y0_3, y0_4, y0_5, y0_f0, y0_f1, y0_f2, y0_f3, y0_f4, y0_f5⟩ := cells6 hy0) | (go_at_call 28; (with_reducible refine (hg1.out _).mono ?_); rintro e w1 ⟨rfl, hq1⟩; have hB1 := bl_then hB0 hq1; have hx1 := bk_below hq1 hx0; obtain ⟨x1_0, x1_1, x1_2, x1_3, x1_4, x1_5, x1_f0, x1_f1, x1_f2, x1_f3, x1_f4, x1_f5⟩ := cells6 hx1; have hy1 := bk_below hq1 hy0; obtain ⟨y1_0, y1_1, y1_2, y1_3, y1_4, y1_5, y1_f0, y1_f1, y1_f2, y1_f3, y1_f4, y1_f5⟩ := cells6 hy1))
    go_ret
    exact ⟨rfl, hB1⟩
  rw [decide_eq_false q1] at hg1
  replace hg1 := Lib.hid hg1
  have hn30 : n ≤ 200 := by omega
  have hm30 : m ≤ 200 := by omega
  by_cases q2 : 30 < n' ∨ 30 < m'
  · rw [decide_eq_true q2] at hg2
    replace hg2 := Lib.hid hg2
    clear q1 q2
    go_enter Try.func13, Try.ntmps13
    go_wp2_with (first | (go_at_call 27; (with_reducible refine (ealive_any _).mono ?_); rintro e w0 ⟨rfl, hq0⟩; have hB0 := bl_then hB.out hq0; have hx0 := bk_below hq0 hx.out; obtain ⟨x0_0, x0_1, x0_2, x0_3, x0_4, x0_5, x0_f0, x0_f1, x0_f2, x0_f3, x0_f4, x0_f5⟩ := cells6 hx0; have hy0 := bk_below hq0 hy.out; obtain ⟨y0_0, y0_1, y0_2, y0_3, y0_4, y0_5, y0_f0, y0_f1, y0_f2, y0_f3, y0_f4, y0_f5⟩ := cells6 hy0) | (go_at_call 28; (with_reducible refine (hg1.out _).mono ?_); rintro e w1 ⟨rfl, hq1⟩; have hB1 := bl_then hB0 hq1; have hx1 := bk_below hq1 hx0; obtain ⟨x1_0, x1_1, x1_2, x1_3, x1_4, x1_5, x1_f0, x1_f1, x1_f2, x1_f3, x1_f4, x1_f5⟩ := cells6 hx1; have hy1 := bk_below hq1 hy0; obtain ⟨y1_0, y1_1, y1_2, y1_3, y1_4, y1_5, y1_f0, y1_f1, y1_f2, y1_f3, y1_f4, y1_f5⟩ := cells6 hy1) | (go_at_call 28; (with_reducible refine (hg2.out _).mono ?_); rintro e w2 ⟨rfl, hq2⟩; have hB2 := bl_then hB1 hq2; have hx2 := bk_below hq2 hx1; obtain ⟨x2_0, x2_1, x2_2, x2_3, x2_4, x2_5, x2_f0, x2_f1, x2_f2, x2_f3, x2_f4, x2_f5⟩ := cells6 hx2; have hy2 := bk_below hq2 hy1; obtain ⟨y2_0, y2_1, y2_2, y2_3, y2_4, y2_5, y2_f0, y2_f1, y2_f2, y2_f3, y2_f4, y2_f5⟩ := cells6 hy2))
    go_ret
    exact ⟨rfl, hB2⟩
  rw [decide_eq_false q2] at hg2
  replace hg2 := Lib.hid hg2
  have hn30' : n' ≤ 200 := by omega
  have hm30' : m' ≤ 200 := by omega
  clear q1 q2
  have hr1 := fun W h => eright_at (k := k) (s := s) (g := g) (p := p) (A1 := A1) (A2 := A2) (c1 := c1) (c2 := c2) (n := n) (m := m) (ps := ps) (ds := ds) (w := W) h hn30 hm30
  have hr2 := fun W h => eright_at (k := k') (s := s') (g := g') (p := p') (A1 := A1') (A2 := A2') (c1 := c1') (c2 := c2') (n := n') (m := m') (ps := ps') (ds := ds') (w := W) h hn30' hm30'
  by_cases hR : RightE k s g p ps ds
  rotate_left 1
  · rw [rightE_no hR] at hr1
    replace hr1 := Lib.hid hr1
    clear hR hokA hokB
    go_enter Try.func13, Try.ntmps13
    go_wp2_with (first | (go_at_call 27; (with_reducible refine (ealive_any _).mono ?_); rintro e w0 ⟨rfl, hq0⟩; have hB0 := bl_then hB.out hq0; have hx0 := bk_below hq0 hx.out; obtain ⟨x0_0, x0_1, x0_2, x0_3, x0_4, x0_5, x0_f0, x0_f1, x0_f2, x0_f3, x0_f4, x0_f5⟩ := cells6 hx0; have hy0 := bk_below hq0 hy.out; obtain ⟨y0_0, y0_1, y0_2, y0_3, y0_4, y0_5, y0_f0, y0_f1, y0_f2, y0_f3, y0_f4, y0_f5⟩ := cells6 hy0) | (go_at_call 28; (with_reducible refine (hg1.out _).mono ?_); rintro e w1 ⟨rfl, hq1⟩; have hB1 := bl_then hB0 hq1; have hx1 := bk_below hq1 hx0; obtain ⟨x1_0, x1_1, x1_2, x1_3, x1_4, x1_5, x1_f0, x1_f1, x1_f2, x1_f3, x1_f4, x1_f5⟩ := cells6 hx1; have hy1 := bk_below hq1 hy0; obtain ⟨y1_0, y1_1, y1_2, y1_3, y1_4, y1_5, y1_f0, y1_f1, y1_f2, y1_f3, y1_f4, y1_f5⟩ := cells6 hy1) | (go_at_call 28; (with_reducible refine (hg2.out _).mono ?_); rintro e w2 ⟨rfl, hq2⟩; have hB2 := bl_then hB1 hq2; have hx2 := bk_below hq2 hx1; obtain ⟨x2_0, x2_1, x2_2, x2_3, x2_4, x2_5, x2_f0, x2_f1, x2_f2, x2_f3, x2_f4, x2_f5⟩ := cells6 hx2; have hy2 := bk_below hq2 hy1; obtain ⟨y2_0, y2_1, y2_2, y2_3, y2_4, y2_5, y2_f0, y2_f1, y2_f2, y2_f3, y2_f4, y2_f5⟩ := cells6 hy2) | (go_at_call 30; (with_reducible refine (hr1.out _ (hE.out.below hB2)).mono ?_); rintro e w3 ⟨rfl, hq3⟩; have hB3 := bl_then hB2 hq3; have hx3 := bk_below hq3 hx2; obtain ⟨x3_0, x3_1, x3_2, x3_3, x3_4, x3_5, x3_f0, x3_f1, x3_f2, x3_f3, x3_f4, x3_f5⟩ := cells6 hx3; have hy3 := bk_below hq3 hy2; obtain ⟨y3_0, y3_1, y3_2, y3_3, y3_4, y3_5, y3_f0, y3_f1, y3_f2, y3_f3, y3_f4, y3_f5⟩ := cells6 hy3))
    go_ret
    exact ⟨rfl, hB3⟩
  rw [rightE_yes hR] at hr1
  replace hr1 := Lib.hid hr1
  by_cases hR' : RightE k' s' g' p' ps' ds'
  rotate_left 1
  · rw [rightE_no hR'] at hr2
    replace hr2 := Lib.hid hr2
    clear hR hR' hokA hokB
    go_enter Try.func13, Try.ntmps13
    go_wp2_with (first | (go_at_call 27; (with_reducible refine (ealive_any _).mono ?_); rintro e w0 ⟨rfl, hq0⟩; have hB0 := bl_then hB.out hq0; have hx0 := bk_below hq0 hx.out; obtain ⟨x0_0, x0_1, x0_2, x0_3, x0_4, x0_5, x0_f0, x0_f1, x0_f2, x0_f3, x0_f4, x0_f5⟩ := cells6 hx0; have hy0 := bk_below hq0 hy.out; obtain ⟨y0_0, y0_1, y0_2, y0_3, y0_4, y0_5, y0_f0, y0_f1, y0_f2, y0_f3, y0_f4, y0_f5⟩ := cells6 hy0) | (go_at_call 28; (with_reducible refine (hg1.out _).mono ?_); rintro e w1 ⟨rfl, hq1⟩; have hB1 := bl_then hB0 hq1; have hx1 := bk_below hq1 hx0; obtain ⟨x1_0, x1_1, x1_2, x1_3, x1_4, x1_5, x1_f0, x1_f1, x1_f2, x1_f3, x1_f4, x1_f5⟩ := cells6 hx1; have hy1 := bk_below hq1 hy0; obtain ⟨y1_0, y1_1, y1_2, y1_3, y1_4, y1_5, y1_f0, y1_f1, y1_f2, y1_f3, y1_f4, y1_f5⟩ := cells6 hy1) | (go_at_call 28; (with_reducible refine (hg2.out _).mono ?_); rintro e w2 ⟨rfl, hq2⟩; have hB2 := bl_then hB1 hq2; have hx2 := bk_below hq2 hx1; obtain ⟨x2_0, x2_1, x2_2, x2_3, x2_4, x2_5, x2_f0, x2_f1, x2_f2, x2_f3, x2_f4, x2_f5⟩ := cells6 hx2; have hy2 := bk_below hq2 hy1; obtain ⟨y2_0, y2_1, y2_2, y2_3, y2_4, y2_5, y2_f0, y2_f1, y2_f2, y2_f3, y2_f4, y2_f5⟩ := cells6 hy2) | (go_at_call 30; (with_reducible refine (hr1.out _ (hE.out.below hB2)).mono ?_); rintro e w3 ⟨rfl, hq3⟩; have hB3 := bl_then hB2 hq3; have hx3 := bk_below hq3 hx2; obtain ⟨x3_0, x3_1, x3_2, x3_3, x3_4, x3_5, x3_f0, x3_f1, x3_f2, x3_f3, x3_f4, x3_f5⟩ := cells6 hx3; have hy3 := bk_below hq3 hy2; obtain ⟨y3_0, y3_1, y3_2, y3_3, y3_4, y3_5, y3_f0, y3_f1, y3_f2, y3_f3, y3_f4, y3_f5⟩ := cells6 hy3) | (go_at_call 30; (with_reducible refine (hr2.out _ (hE'.out.below hB3)).mono ?_); rintro e w4 ⟨rfl, hq4⟩; have hB4 := bl_then hB3 hq4; have hx4 := bk_below hq4 hx3; obtain ⟨x4_0, x4_1, x4_2, x4_3, x4_4, x4_5, x4_f0, x4_f1, x4_f2, x4_f3, x4_f4, x4_f5⟩ := cells6 hx4; have hy4 := bk_below hq4 hy3; obtain ⟨y4_0, y4_1, y4_2, y4_3, y4_4, y4_5, y4_f0, y4_f1, y4_f2, y4_f3, y4_f4, y4_f5⟩ := cells6 hy4))
    go_ret
    exact ⟨rfl, hB4⟩
  rw [rightE_yes hR'] at hr2
  replace hr2 := Lib.hid hr2
  have hb1 := fun W h => ebytes_at (k := k) (s := s) (g := g) (p := p) (A1 := A1) (A2 := A2) (c1 := c1) (c2 := c2) (n := n) (m := m) (ps := ps) (ds := ds) (w := W) h hn30 hm30
  have hb2 := fun W h => ebytes_at (k := k') (s := s') (g := g') (p := p') (A1 := A1') (A2 := A2') (c1 := c1') (c2 := c2') (n := n') (m := m') (ps := ps') (ds := ds') (w := W) h hn30' hm30'
  unfold MakesBytes at hb1 hb2
  rw [bytesV_yes hR] at hb1
  rw [bytesV_yes hR'] at hb2
  dsimp only at hb1 hb2
  have hk : 1 ≤ k ∧ k ≤ 3 := by rcases (evNums_head hR).1 with h | h | h <;> omega
  have hk' : 1 ≤ k' ∧ k' ≤ 3 := by rcases (evNums_head hR').1 with h | h | h <;> omega
  have hl1 : 2 ≤ (encL (evNums k s g p ps ds)).length ∧ (encL (evNums k s g p ps ds)).getD 0 0 = k := ev_first hR hokA
  have hl2 : 2 ≤ (encL (evNums k' s' g' p' ps' ds')).length ∧ (encL (evNums k' s' g' p' ps' ds')).getD 0 0 = k' := ev_first hR' hokB
  have hpre : (encL (evNums k s g p ps ds)).length < (encL (evNums k' s' g' p' ps' ds')).length → (encL (evNums k' s' g' p' ps' ds')).take (encL (evNums k s g p ps ds)).length = encL (evNums k s g p ps ds) → k = 1 ∧ k' = 1 ∧ n < n' := fun h1 h2 => by
    obtain ⟨e1, e2, e3⟩ := ev_begins hR hokA hR' hokB h1 h2
    rw [hE.out.1, hE'.out.1] at e3
    exact ⟨e1, e2, e3⟩
  have hby1 := encL_bytes (evNums k s g p ps ds)
  have hby2 := encL_bytes (evNums k' s' g' p' ps' ds')
  obtain ⟨X1, hX1⟩ : ∃ X, encL (evNums k s g p ps ds) = X := ⟨_, rfl⟩
  obtain ⟨X2, hX2⟩ : ∃ X, encL (evNums k' s' g' p' ps' ds') = X := ⟨_, rfl⟩
  rw [hX1] at hb1 hl1 hpre hby1
  rw [hX2] at hb2 hl2 hpre hby2
  obtain ⟨hl1, hf1⟩ := hl1
  obtain ⟨hl2, hf2⟩ := hl2
  have hw1 : IntKind.i64.wrap k = k := by rw [IntKind.wrap_i64]; omega
  have hw2 : IntKind.i64.wrap k' = k' := by rw [IntKind.wrap_i64]; omega
  have cv1 := fun W A cc h => cv8 W A cc X1 h
  obtain ⟨u1, hu1⟩ : ∃ u, X1.length = u + 2 := ⟨X1.length - 2, by omega⟩
  obtain ⟨u2, hu2⟩ : ∃ u, X2.length = u + 2 := ⟨X2.length - 2, by omega⟩
  rw [hu1] at cv1 hb1 hpre
  rw [hu2] at hb2 hpre
  have d1 : decide ((u1 : Int) + 2 < 2) = false := decide_eq_false (by omega)
  have d2 : decide ((u2 : Int) + 2 < 2) = false := decide_eq_false (by omega)
  have i1 : (0 : Int) < (u1 : Int) + 2 := by omega
  have i2 : (0 : Int) < (u2 : Int) + 2 := by omega
  replace hu1 := Lib.hid hu1
  replace hu2 := Lib.hid hu2
  clear hX1 hX2 hR hR' hokA hokB
  replace hb1 := Lib.hid hb1
  replace hb2 := Lib.hid hb2
  replace cv1 := Lib.hid cv1
  replace hf1 := Lib.hid hf1
  clear hl1 hl2
  replace hf2 := Lib.hid hf2
  replace hpre := Lib.hid hpre
  replace hby1 := Lib.hid hby1
  replace hby2 := Lib.hid hby2
  go_enter Try.func13, Try.ntmps13
  go_wp2_with (first | (go_at_call 27; (with_reducible refine (ealive_any _).mono ?_); rintro e w0 ⟨rfl, hq0⟩; have hB0 := bl_then hB.out hq0; have hx0 := bk_below hq0 hx.out; obtain ⟨x0_0, x0_1, x0_2, x0_3, x0_4, x0_5, x0_f0, x0_f1, x0_f2, x0_f3, x0_f4, x0_f5⟩ := cells6 hx0; have hy0 := bk_below hq0 hy.out; obtain ⟨y0_0, y0_1, y0_2, y0_3, y0_4, y0_5, y0_f0, y0_f1, y0_f2, y0_f3, y0_f4, y0_f5⟩ := cells6 hy0) | (go_at_call 28; (with_reducible refine (hg1.out _).mono ?_); rintro e w1 ⟨rfl, hq1⟩; have hB1 := bl_then hB0 hq1; have hx1 := bk_below hq1 hx0; obtain ⟨x1_0, x1_1, x1_2, x1_3, x1_4, x1_5, x1_f0, x1_f1, x1_f2, x1_f3, x1_f4, x1_f5⟩ := cells6 hx1; have hy1 := bk_below hq1 hy0; obtain ⟨y1_0, y1_1, y1_2, y1_3, y1_4, y1_5, y1_f0, y1_f1, y1_f2, y1_f3, y1_f4, y1_f5⟩ := cells6 hy1) | (go_at_call 28; (with_reducible refine (hg2.out _).mono ?_); rintro e w2 ⟨rfl, hq2⟩; have hB2 := bl_then hB1 hq2; have hx2 := bk_below hq2 hx1; obtain ⟨x2_0, x2_1, x2_2, x2_3, x2_4, x2_5, x2_f0, x2_f1, x2_f2, x2_f3, x2_f4, x2_f5⟩ := cells6 hx2; have hy2 := bk_below hq2 hy1; obtain ⟨y2_0, y2_1, y2_2, y2_3, y2_4, y2_5, y2_f0, y2_f1, y2_f2, y2_f3, y2_f4, y2_f5⟩ := cells6 hy2) | (go_at_call 30; (with_reducible refine (hr1.out _ (hE.out.below hB2)).mono ?_); rintro e w3 ⟨rfl, hq3⟩; have hB3 := bl_then hB2 hq3; have hx3 := bk_below hq3 hx2; obtain ⟨x3_0, x3_1, x3_2, x3_3, x3_4, x3_5, x3_f0, x3_f1, x3_f2, x3_f3, x3_f4, x3_f5⟩ := cells6 hx3; have hy3 := bk_below hq3 hy2; obtain ⟨y3_0, y3_1, y3_2, y3_3, y3_4, y3_5, y3_f0, y3_f1, y3_f2, y3_f3, y3_f4, y3_f5⟩ := cells6 hy3) | (go_at_call 30; (with_reducible refine (hr2.out _ (hE'.out.below hB3)).mono ?_); rintro e w4 ⟨rfl, hq4⟩; have hB4 := bl_then hB3 hq4; have hx4 := bk_below hq4 hx3; obtain ⟨x4_0, x4_1, x4_2, x4_3, x4_4, x4_5, x4_f0, x4_f1, x4_f2, x4_f3, x4_f4, x4_f5⟩ := cells6 hx4; have hy4 := bk_below hq4 hy3; obtain ⟨y4_0, y4_1, y4_2, y4_3, y4_4, y4_5, y4_f0, y4_f1, y4_f2, y4_f3, y4_f4, y4_f5⟩ := cells6 hy4) | (go_at_call 25; (with_reducible refine (hb1.out _ (hE.out.below hB4)).mono ?_); rintro e w5 ⟨v5, rfl, ho5, hq5⟩; have hB5 := bl_then hB4 hq5; have hx5 := bk_below hq5 hx4; obtain ⟨x5_0, x5_1, x5_2, x5_3, x5_4, x5_5, x5_f0, x5_f1, x5_f2, x5_f3, x5_f4, x5_f5⟩ := cells6 hx5; have hy5 := bk_below hq5 hy4; obtain ⟨y5_0, y5_1, y5_2, y5_3, y5_4, y5_5, y5_f0, y5_f1, y5_f2, y5_f3, y5_f4, y5_f5⟩ := cells6 hy5; obtain ⟨Ab1, cb1, rfl, hrx⟩ := own_reads ho5; have hcb1 := own_le ho5) | (go_at_call 25; (with_reducible refine (hb2.out _ (hE'.out.below hB5)).mono ?_); rintro e w6 ⟨v6, rfl, ho6, hq6⟩; have hB6 := bl_then hB5 hq6; have hx6 := bk_below hq6 hx5; obtain ⟨x6_0, x6_1, x6_2, x6_3, x6_4, x6_5, x6_f0, x6_f1, x6_f2, x6_f3, x6_f4, x6_f5⟩ := cells6 hx6; have hy6 := bk_below hq6 hy5; obtain ⟨y6_0, y6_1, y6_2, y6_3, y6_4, y6_5, y6_f0, y6_f1, y6_f2, y6_f3, y6_f4, y6_f5⟩ := cells6 hy6; obtain ⟨Ab2, cb2, rfl, hry⟩ := own_reads ho6; have hcb2 := own_le ho6; have hcbm2 := own_capm ho6))
  clear x0_0 x0_1 x0_2 x0_3 x0_4 x0_5 x0_f0 x0_f1 x0_f2 x0_f3 x0_f4 x0_f5 y0_0 y0_1 y0_2 y0_3 y0_4 y0_5 y0_f0 y0_f1 y0_f2 y0_f3 y0_f4 y0_f5 x1_0 x1_1 x1_2 x1_3 x1_4 x1_5 x1_f0 x1_f1 x1_f2 x1_f3 x1_f4 x1_f5 y1_0 y1_1 y1_2 y1_3 y1_4 y1_5 y1_f0 y1_f1 y1_f2 y1_f3 y1_f4 y1_f5 x2_0 x2_1 x2_2 x2_3 x2_4 x2_5 x2_f0 x2_f1 x2_f2 x2_f3 x2_f4 x2_f5 y2_0 y2_1 y2_2 y2_3 y2_4 y2_5 y2_f0 y2_f1 y2_f2 y2_f3 y2_f4 y2_f5 x3_0 x3_1 x3_2 x3_3 x3_4 x3_5 x3_f0 x3_f1 x3_f2 x3_f3 x3_f4 x3_f5 y3_0 y3_1 y3_2 y3_3 y3_4 y3_5 y3_f0 y3_f1 y3_f2 y3_f3 y3_f4 y3_f5 x4_0 x4_1 x4_2 x4_3 x4_4 x4_5 x4_f0 x4_f1 x4_f2 x4_f3 x4_f4 x4_f5 y4_0 y4_1 y4_2 y4_3 y4_4 y4_5 y4_f0 y4_f1 y4_f2 y4_f3 y4_f4 y4_f5 x5_0 x5_1 x5_2 x5_3 x5_4 x5_5 x5_f0 x5_f1 x5_f2 x5_f3 x5_f4 x5_f5 y5_0 y5_1 y5_2 y5_3 y5_4 y5_5 y5_f0 y5_f1 y5_f2 y5_f3 y5_f4 y5_f5 x6_0 x6_1 x6_2 x6_3 x6_4 x6_5 x6_f0 x6_f1 x6_f2 x6_f3 x6_f4 x6_f5 y6_0 y6_1 y6_2 y6_3 y6_4 y6_5 y6_f0 y6_f1 y6_f2 y6_f3 y6_f4 y6_f5
  have hE6 := hE.out.below hB6
  have hE6' := hE'.out.below hB6
  have hrx' := hrx.below hq6
  replace hx6 := Lib.hid hx6
  replace hy6 := Lib.hid hy6
  replace hE6 := Lib.hid hE6
  replace hE6' := Lib.hid hE6'
  replace hrx' := Lib.hid hrx'
  replace hry := Lib.hid hry
  replace hB6 := Lib.hid hB6
  clear hx0 hx1 hx2 hx3 hx4 hx5 hy0 hy1 hy2 hy3 hy4 hy5 hB0 hB1 hB2 hB3 hB4 hB5 hq0 hq1 hq2 hq3 hq4 hq5 hq6 ho5 ho6 hrx
  obtain ⟨a1, rfl, _⟩ := hrx'.out.2.2 (by omega)
  obtain ⟨a2, rfl, _⟩ := hry.out.2.2 (by omega)
  have f1 := rd_0 hrx'.out (by omega) hf1.out
  have f2 := rd_0 hry.out (by omega) hf2.out
  refine wp_region_noPanic ?_
  refine wp_region_held_drew (S := fun w' => Below w6.heap.size w6 w') (by kernel_rfl) (bl_drew (Below.refl _ _)) (fun hHeld => ?_)
  refine wpAnyH_take (i := 0) (oi := { dst := some 37, op := Go.Op.move (Go.Operand.tmp 6), type := 31, pos := "law.go:102", after := #[], guard := none }) (v := ?_) rfl (by kernel_rfl) (by kernel_rfl) (by kernel_rfl) (fun _ _ _ h => h) (Or.inl ⟨by rfl, ?_⟩) (by assumption) ?_
  rotate_left 1
  · intro w' hSw
    first | (go_simp; done) | (go_simp; with_reducible rfl)
  try simp only [Act.put, List.getElem_toArray, List.getElem_cons_succ, List.getElem_cons_zero, List.setIfInBounds_toArray, List.set_cons_zero, List.set_cons_succ]
  refine wpAnyH_take (i := 1) (oi := { dst := some 38, op := Go.Op.binOp Go.BinOp.neq 31 (Go.Operand.tmp 37) (Go.Operand.const (Go.Value.int Go.IntKind.i64 0)) 31, type := 4, pos := "law.go:102", after := #[{ on := 0, ground := Go.Ground.data }], guard := none }) (v := ?_) rfl (by kernel_rfl) (by kernel_rfl) (by kernel_rfl) (fun _ _ _ h => h) (Or.inl ⟨by rfl, ?_⟩) (by assumption) ?_
  rotate_left 1
  · intro w' hSw
    first | (go_simp; done) | (go_simp; with_reducible rfl)
  try simp only [Act.put, List.getElem_toArray, List.getElem_cons_succ, List.getElem_cons_zero, List.setIfInBounds_toArray, List.set_cons_zero, List.set_cons_succ]
  refine wpAnyH_take (i := 2) (oi := { dst := some 39, op := Go.Op.move (Go.Operand.tmp 38), type := 4, pos := "law.go:102", after := #[{ on := 1, ground := Go.Ground.data }], guard := none }) (v := ?_) rfl (by kernel_rfl) (by kernel_rfl) (by kernel_rfl) (fun _ _ _ h => h) (Or.inl ⟨by rfl, ?_⟩) (by assumption) ?_
  rotate_left 1
  · intro w' hSw
    first | (go_simp; done) | (go_simp; with_reducible rfl)
  try simp only [Act.put, List.getElem_toArray, List.getElem_cons_succ, List.getElem_cons_zero, List.setIfInBounds_toArray, List.set_cons_zero, List.set_cons_succ]
  refine wpAnyH_take (i := 3) (oi := { dst := some 40, op := Go.Op.move (Go.Operand.tmp 8), type := 31, pos := "law.go:102", after := #[{ on := 2, ground := Go.Ground.guard }], guard := some (2, false) }) (v := ?_) rfl (by kernel_rfl) (by kernel_rfl) (by kernel_rfl) (fun _ _ _ h => h) (Or.inl ⟨by rfl, ?_⟩) (by assumption) ?_
  rotate_left 1
  · intro w' hSw
    first | (go_simp; done) | (go_simp; with_reducible rfl)
  try simp only [Act.put, List.getElem_toArray, List.getElem_cons_succ, List.getElem_cons_zero, List.setIfInBounds_toArray, List.set_cons_zero, List.set_cons_succ]
  refine wpAnyH_take (i := 4) (oi := { dst := some 41, op := Go.Op.binOp Go.BinOp.neq 31 (Go.Operand.tmp 40) (Go.Operand.const (Go.Value.int Go.IntKind.i64 0)) 31, type := 4, pos := "law.go:102", after := #[{ on := 3, ground := Go.Ground.data }, { on := 2, ground := Go.Ground.guard }], guard := some (2, false) }) (v := ?_) rfl (by kernel_rfl) (by kernel_rfl) (by kernel_rfl) (fun _ _ _ h => h) (Or.inl ⟨by rfl, ?_⟩) (by assumption) ?_
  rotate_left 1
  · intro w' hSw
    first | (go_simp; done) | (go_simp; with_reducible rfl)
  try simp only [Act.put, List.getElem_toArray, List.getElem_cons_succ, List.getElem_cons_zero, List.setIfInBounds_toArray, List.set_cons_zero, List.set_cons_succ]
  refine wpAnyH_take (i := 5) (oi := { dst := some 42, op := Go.Op.pick (Go.Operand.tmp 39) (Go.Operand.const (Go.Value.bool true)) (Go.Operand.tmp 41), type := 4, pos := "law.go:102", after := #[{ on := 2, ground := Go.Ground.data }, { on := 4, ground := Go.Ground.data }], guard := none }) (v := ?_) rfl (by kernel_rfl) (by kernel_rfl) (by kernel_rfl) (fun _ _ _ h => h) (Or.inl ⟨by rfl, ?_⟩) (by assumption) ?_
  rotate_left 1
  · intro w' hSw
    first | (go_simp; done) | (go_simp; with_reducible rfl)
  try simp only [Act.put, List.getElem_toArray, List.getElem_cons_succ, List.getElem_cons_zero, List.setIfInBounds_toArray, List.set_cons_zero, List.set_cons_succ]
  refine wpAnyH_take (i := 6) (oi := { dst := some 43, op := Go.Op.move (Go.Operand.tmp 42), type := 4, pos := "law.go:102", after := #[{ on := 5, ground := Go.Ground.data }, { on := 2, ground := Go.Ground.chain }], guard := none }) (v := ?_) rfl (by kernel_rfl) (by kernel_rfl) (by kernel_rfl) (fun _ _ _ h => h) (Or.inl ⟨by rfl, ?_⟩) (by assumption) ?_
  rotate_left 1
  · intro w' hSw
    first | (go_simp; done) | (go_simp; with_reducible rfl)
  try simp only [Act.put, List.getElem_toArray, List.getElem_cons_succ, List.getElem_cons_zero, List.setIfInBounds_toArray, List.set_cons_zero, List.set_cons_succ]
  refine wpAnyH_take (i := 7) (oi := { dst := some 44, op := Go.Op.move (Go.Operand.tmp 5), type := 48, pos := "law.go:102", after := #[{ on := 6, ground := Go.Ground.guard }], guard := some (6, false) }) (v := ?_) rfl (by kernel_rfl) (by kernel_rfl) (by kernel_rfl) (fun _ _ _ h => h) (Or.inl ⟨by rfl, ?_⟩) (by assumption) ?_
  rotate_left 1
  · intro w' hSw
    first | (go_simp; done) | (go_simp; with_reducible rfl)
  try simp only [Act.put, List.getElem_toArray, List.getElem_cons_succ, List.getElem_cons_zero, List.setIfInBounds_toArray, List.set_cons_zero, List.set_cons_succ]
  refine wpAnyH_take (i := 8) (oi := { dst := some 45, op := Go.Op.call { callee := Go.Callee.builtin Go.Builtin.len, args := #[Go.Operand.tmp 44], argTypes := #[48] }, type := 3, pos := "law.go:102", after := #[{ on := 7, ground := Go.Ground.data }, { on := 6, ground := Go.Ground.guard }], guard := some (6, false) }) (v := ?_) rfl (by kernel_rfl) (by kernel_rfl) (by kernel_rfl) (fun _ _ _ h => h) (Or.inl ⟨by rfl, ?_⟩) (by assumption) ?_
  rotate_left 1
  · intro w' hSw
    first | (go_simp; done) | (go_simp; with_reducible rfl)
  try simp only [Act.put, List.getElem_toArray, List.getElem_cons_succ, List.getElem_cons_zero, List.setIfInBounds_toArray, List.set_cons_zero, List.set_cons_succ]
  refine wpAnyH_take (i := 9) (oi := { dst := some 46, op := Go.Op.binOp Go.BinOp.lss 3 (Go.Operand.tmp 45) (Go.Operand.const (Go.Value.int Go.IntKind.i64 2)) 3, type := 4, pos := "law.go:102", after := #[{ on := 8, ground := Go.Ground.data }, { on := 6, ground := Go.Ground.guard }], guard := some (6, false) }) (v := ?_) rfl (by kernel_rfl) (by kernel_rfl) (by kernel_rfl) (fun _ _ _ h => h) (Or.inl ⟨by rfl, ?_⟩) (by assumption) ?_
  rotate_left 1
  · intro w' hSw
    first | (go_simp; done) | (go_simp; with_reducible rfl)
  try simp only [Act.put, List.getElem_toArray, List.getElem_cons_succ, List.getElem_cons_zero, List.setIfInBounds_toArray, List.set_cons_zero, List.set_cons_succ]
  refine wpAnyH_take (i := 10) (oi := { dst := some 47, op := Go.Op.pick (Go.Operand.tmp 43) (Go.Operand.const (Go.Value.bool true)) (Go.Operand.tmp 46), type := 4, pos := "law.go:102", after := #[{ on := 6, ground := Go.Ground.data }, { on := 9, ground := Go.Ground.data }], guard := none }) (v := ?_) rfl (by kernel_rfl) (by kernel_rfl) (by kernel_rfl) (fun _ _ _ h => h) (Or.inl ⟨by rfl, ?_⟩) (by assumption) ?_
  rotate_left 1
  · intro w' hSw
    first | (go_simp; done) | (go_simp; with_reducible rfl)
  try simp only [Act.put, List.getElem_toArray, List.getElem_cons_succ, List.getElem_cons_zero, List.setIfInBounds_toArray, List.set_cons_zero, List.set_cons_succ]
  refine wpAnyH_take (i := 11) (oi := { dst := some 48, op := Go.Op.move (Go.Operand.tmp 47), type := 4, pos := "law.go:102", after := #[{ on := 10, ground := Go.Ground.data }, { on := 6, ground := Go.Ground.chain }], guard := none }) (v := ?_) rfl (by kernel_rfl) (by kernel_rfl) (by kernel_rfl) (fun _ _ _ h => h) (Or.inl ⟨by rfl, ?_⟩) (by assumption) ?_
  rotate_left 1
  · intro w' hSw
    first | (go_simp; done) | (go_simp; with_reducible rfl)
  try simp only [Act.put, List.getElem_toArray, List.getElem_cons_succ, List.getElem_cons_zero, List.setIfInBounds_toArray, List.set_cons_zero, List.set_cons_succ]
  refine wpAnyH_take (i := 12) (oi := { dst := some 49, op := Go.Op.move (Go.Operand.tmp 7), type := 48, pos := "law.go:102", after := #[{ on := 11, ground := Go.Ground.guard }], guard := some (11, false) }) (v := ?_) rfl (by kernel_rfl) (by kernel_rfl) (by kernel_rfl) (fun _ _ _ h => h) (Or.inl ⟨by rfl, ?_⟩) (by assumption) ?_
  rotate_left 1
  · intro w' hSw
    first | (go_simp; done) | (go_simp; with_reducible rfl)
  try simp only [Act.put, List.getElem_toArray, List.getElem_cons_succ, List.getElem_cons_zero, List.setIfInBounds_toArray, List.set_cons_zero, List.set_cons_succ]
  refine wpAnyH_take (i := 13) (oi := { dst := some 50, op := Go.Op.call { callee := Go.Callee.builtin Go.Builtin.len, args := #[Go.Operand.tmp 49], argTypes := #[48] }, type := 3, pos := "law.go:102", after := #[{ on := 12, ground := Go.Ground.data }, { on := 11, ground := Go.Ground.guard }], guard := some (11, false) }) (v := ?_) rfl (by kernel_rfl) (by kernel_rfl) (by kernel_rfl) (fun _ _ _ h => h) (Or.inl ⟨by rfl, ?_⟩) (by assumption) ?_
  rotate_left 1
  · intro w' hSw
    first | (go_simp; done) | (go_simp; with_reducible rfl)
  try simp only [Act.put, List.getElem_toArray, List.getElem_cons_succ, List.getElem_cons_zero, List.setIfInBounds_toArray, List.set_cons_zero, List.set_cons_succ]
  refine wpAnyH_take (i := 14) (oi := { dst := some 51, op := Go.Op.binOp Go.BinOp.lss 3 (Go.Operand.tmp 50) (Go.Operand.const (Go.Value.int Go.IntKind.i64 2)) 3, type := 4, pos := "law.go:102", after := #[{ on := 13, ground := Go.Ground.data }, { on := 11, ground := Go.Ground.guard }], guard := some (11, false) }) (v := ?_) rfl (by kernel_rfl) (by kernel_rfl) (by kernel_rfl) (fun _ _ _ h => h) (Or.inl ⟨by rfl, ?_⟩) (by assumption) ?_
  rotate_left 1
  · intro w' hSw
    first | (go_simp; done) | (go_simp; with_reducible rfl)
  try simp only [Act.put, List.getElem_toArray, List.getElem_cons_succ, List.getElem_cons_zero, List.setIfInBounds_toArray, List.set_cons_zero, List.set_cons_succ]
  refine wpAnyH_take (i := 15) (oi := { dst := some 52, op := Go.Op.pick (Go.Operand.tmp 48) (Go.Operand.const (Go.Value.bool true)) (Go.Operand.tmp 51), type := 4, pos := "law.go:102", after := #[{ on := 11, ground := Go.Ground.data }, { on := 14, ground := Go.Ground.data }], guard := none }) (v := ?_) rfl (by kernel_rfl) (by kernel_rfl) (by kernel_rfl) (fun _ _ _ h => h) (Or.inl ⟨by rfl, ?_⟩) (by assumption) ?_
  rotate_left 1
  · intro w' hSw
    first | (go_simp; done) | (go_simp; with_reducible rfl)
  try simp only [Act.put, List.getElem_toArray, List.getElem_cons_succ, List.getElem_cons_zero, List.setIfInBounds_toArray, List.set_cons_zero, List.set_cons_succ]
  refine wpAnyH_take (i := 16) (oi := { dst := some 53, op := Go.Op.move (Go.Operand.tmp 52), type := 4, pos := "law.go:102", after := #[{ on := 15, ground := Go.Ground.data }, { on := 11, ground := Go.Ground.chain }], guard := none }) (v := ?_) rfl (by kernel_rfl) (by kernel_rfl) (by kernel_rfl) (fun _ _ _ h => h) (Or.inl ⟨by rfl, ?_⟩) (by assumption) ?_
  rotate_left 1
  · intro w' hSw
    first | (go_simp; done) | (go_simp; with_reducible rfl)
  try simp only [Act.put, List.getElem_toArray, List.getElem_cons_succ, List.getElem_cons_zero, List.setIfInBounds_toArray, List.set_cons_zero, List.set_cons_succ]
  refine wpAnyH_take (i := 17) (oi := { dst := some 54, op := Go.Op.move (Go.Operand.tmp 5), type := 48, pos := "law.go:102", after := #[{ on := 16, ground := Go.Ground.guard }], guard := some (16, false) }) (v := ?_) rfl (by kernel_rfl) (by kernel_rfl) (by kernel_rfl) (fun _ _ _ h => h) (Or.inl ⟨by rfl, ?_⟩) (by assumption) ?_
  rotate_left 1
  · intro w' hSw
    first | (go_simp; done) | (go_simp; with_reducible rfl)
  try simp only [Act.put, List.getElem_toArray, List.getElem_cons_succ, List.getElem_cons_zero, List.setIfInBounds_toArray, List.set_cons_zero, List.set_cons_succ]
  refine wpAnyH_take (i := 18) (oi := { dst := some 55, op := Go.Op.indexAddr 48 (Go.Operand.tmp 54) (Go.Operand.const (Go.Value.int Go.IntKind.i64 0)), type := 0, pos := "law.go:102", after := #[{ on := 17, ground := Go.Ground.data }, { on := 16, ground := Go.Ground.guard }], guard := some (16, false) }) (v := ?_) rfl (by kernel_rfl) (by kernel_rfl) (by kernel_rfl) (fun _ _ _ h => h) (Or.inl ⟨by rfl, ?_⟩) (by assumption) ?_
  rotate_left 1
  · intro w' hSw
    first | (go_simp; done) | (go_simp; with_reducible rfl)
  try simp only [Act.put, List.getElem_toArray, List.getElem_cons_succ, List.getElem_cons_zero, List.setIfInBounds_toArray, List.set_cons_zero, List.set_cons_succ]
  refine wpAnyH_take (i := 19) (oi := { dst := some 56, op := Go.Op.load 5 (Go.Operand.tmp 55), type := 5, pos := "law.go:102", after := #[{ on := 18, ground := Go.Ground.data }, { on := 16, ground := Go.Ground.guard }], guard := some (16, false) }) (v := ?_) rfl (by kernel_rfl) (by kernel_rfl) (by kernel_rfl) (fun _ _ _ h => h) (Or.inl ⟨by rfl, ?_⟩) (by assumption) ?_
  rotate_left 1
  · intro w' hSw
    have kk := cl_far hSw f1
    first | (go_simp; done) | (go_simp; with_reducible rfl)
  try simp only [Act.put, List.getElem_toArray, List.getElem_cons_succ, List.getElem_cons_zero, List.setIfInBounds_toArray, List.set_cons_zero, List.set_cons_succ]
  refine wpAnyH_take (i := 20) (oi := { dst := some 57, op := Go.Op.convert 5 3 (Go.Operand.tmp 56), type := 3, pos := "law.go:102", after := #[{ on := 19, ground := Go.Ground.data }, { on := 16, ground := Go.Ground.guard }], guard := some (16, false) }) (v := ?_) rfl (by kernel_rfl) (by kernel_rfl) (by kernel_rfl) (fun _ _ _ h => h) (Or.inl ⟨by rfl, ?_⟩) (by assumption) ?_
  rotate_left 1
  · intro w' hSw
    first | (go_simp; done) | (go_simp; with_reducible rfl)
  try simp only [Act.put, List.getElem_toArray, List.getElem_cons_succ, List.getElem_cons_zero, List.setIfInBounds_toArray, List.set_cons_zero, List.set_cons_succ]
  refine wpAnyH_take (i := 21) (oi := { dst := some 58, op := Go.Op.fieldAddr 53 (Go.Operand.tmp 2) 0, type := 0, pos := "law.go:102", after := #[{ on := 16, ground := Go.Ground.guard }], guard := some (16, false) }) (v := ?_) rfl (by kernel_rfl) (by kernel_rfl) (by kernel_rfl) (fun _ _ _ h => h) (Or.inl ⟨by rfl, ?_⟩) (by assumption) ?_
  rotate_left 1
  · intro w' hSw
    first | (go_simp; done) | (go_simp; with_reducible rfl)
  try simp only [Act.put, List.getElem_toArray, List.getElem_cons_succ, List.getElem_cons_zero, List.setIfInBounds_toArray, List.set_cons_zero, List.set_cons_succ]
  refine wpAnyH_take (i := 22) (oi := { dst := some 59, op := Go.Op.load 3 (Go.Operand.tmp 58), type := 3, pos := "law.go:102", after := #[{ on := 21, ground := Go.Ground.data }, { on := 16, ground := Go.Ground.guard }], guard := some (16, false) }) (v := ?_) rfl (by kernel_rfl) (by kernel_rfl) (by kernel_rfl) (fun _ _ _ h => h) (Or.inl ⟨by rfl, ?_⟩) (by assumption) ?_
  rotate_left 1
  · intro w' hSw
    obtain ⟨z0, z1, z2, z3, z4, z5, zf0, zf1, zf2, zf3, zf4, zf5⟩ := cells6 (bk_below hSw hx6.out)
    first | (go_simp; done) | (go_simp; with_reducible rfl)
  try simp only [Act.put, List.getElem_toArray, List.getElem_cons_succ, List.getElem_cons_zero, List.setIfInBounds_toArray, List.set_cons_zero, List.set_cons_succ]
  refine wpAnyH_take (i := 23) (oi := { dst := some 60, op := Go.Op.binOp Go.BinOp.neq 3 (Go.Operand.tmp 57) (Go.Operand.tmp 59) 3, type := 4, pos := "law.go:102", after := #[{ on := 20, ground := Go.Ground.data }, { on := 22, ground := Go.Ground.data }, { on := 16, ground := Go.Ground.guard }], guard := some (16, false) }) (v := ?_) rfl (by kernel_rfl) (by kernel_rfl) (by kernel_rfl) (fun _ _ _ h => h) (Or.inl ⟨by rfl, ?_⟩) (by assumption) ?_
  rotate_left 1
  · intro w' hSw
    first | (go_simp; done) | (go_simp; with_reducible rfl)
  try simp only [Act.put, List.getElem_toArray, List.getElem_cons_succ, List.getElem_cons_zero, List.setIfInBounds_toArray, List.set_cons_zero, List.set_cons_succ]
  refine wpAnyH_take (i := 24) (oi := { dst := some 61, op := Go.Op.pick (Go.Operand.tmp 53) (Go.Operand.const (Go.Value.bool true)) (Go.Operand.tmp 60), type := 4, pos := "law.go:102", after := #[{ on := 16, ground := Go.Ground.data }, { on := 23, ground := Go.Ground.data }], guard := none }) (v := ?_) rfl (by kernel_rfl) (by kernel_rfl) (by kernel_rfl) (fun _ _ _ h => h) (Or.inl ⟨by rfl, ?_⟩) (by assumption) ?_
  rotate_left 1
  · intro w' hSw
    first | (go_simp; done) | (go_simp; with_reducible rfl)
  try simp only [Act.put, List.getElem_toArray, List.getElem_cons_succ, List.getElem_cons_zero, List.setIfInBounds_toArray, List.set_cons_zero, List.set_cons_succ]
  refine wpAnyH_take (i := 25) (oi := { dst := some 62, op := Go.Op.move (Go.Operand.tmp 61), type := 4, pos := "law.go:102", after := #[{ on := 24, ground := Go.Ground.data }, { on := 16, ground := Go.Ground.chain }], guard := none }) (v := ?_) rfl (by kernel_rfl) (by kernel_rfl) (by kernel_rfl) (fun _ _ _ h => h) (Or.inl ⟨by rfl, ?_⟩) (by assumption) ?_
  rotate_left 1
  · intro w' hSw
    first | (go_simp; done) | (go_simp; with_reducible rfl)
  try simp only [Act.put, List.getElem_toArray, List.getElem_cons_succ, List.getElem_cons_zero, List.setIfInBounds_toArray, List.set_cons_zero, List.set_cons_succ]
  refine wpAnyH_take (i := 26) (oi := { dst := some 63, op := Go.Op.move (Go.Operand.tmp 7), type := 48, pos := "law.go:102", after := #[{ on := 25, ground := Go.Ground.guard }], guard := some (25, false) }) (v := ?_) rfl (by kernel_rfl) (by kernel_rfl) (by kernel_rfl) (fun _ _ _ h => h) (Or.inl ⟨by rfl, ?_⟩) (by assumption) ?_
  rotate_left 1
  · intro w' hSw
    first | (go_simp; done) | (go_simp; with_reducible rfl)
  try simp only [Act.put, List.getElem_toArray, List.getElem_cons_succ, List.getElem_cons_zero, List.setIfInBounds_toArray, List.set_cons_zero, List.set_cons_succ]
  refine wpAnyH_take (i := 27) (oi := { dst := some 64, op := Go.Op.indexAddr 48 (Go.Operand.tmp 63) (Go.Operand.const (Go.Value.int Go.IntKind.i64 0)), type := 0, pos := "law.go:102", after := #[{ on := 26, ground := Go.Ground.data }, { on := 25, ground := Go.Ground.guard }], guard := some (25, false) }) (v := ?_) rfl (by kernel_rfl) (by kernel_rfl) (by kernel_rfl) (fun _ _ _ h => h) (Or.inl ⟨by rfl, ?_⟩) (by assumption) ?_
  rotate_left 1
  · intro w' hSw
    first | (go_simp; done) | (go_simp; with_reducible rfl)
  try simp only [Act.put, List.getElem_toArray, List.getElem_cons_succ, List.getElem_cons_zero, List.setIfInBounds_toArray, List.set_cons_zero, List.set_cons_succ]
  refine wpAnyH_take (i := 28) (oi := { dst := some 65, op := Go.Op.load 5 (Go.Operand.tmp 64), type := 5, pos := "law.go:102", after := #[{ on := 27, ground := Go.Ground.data }, { on := 25, ground := Go.Ground.guard }], guard := some (25, false) }) (v := ?_) rfl (by kernel_rfl) (by kernel_rfl) (by kernel_rfl) (fun _ _ _ h => h) (Or.inl ⟨by rfl, ?_⟩) (by assumption) ?_
  rotate_left 1
  · intro w' hSw
    have kk := cl_far hSw f2
    first | (go_simp; done) | (go_simp; with_reducible rfl)
  try simp only [Act.put, List.getElem_toArray, List.getElem_cons_succ, List.getElem_cons_zero, List.setIfInBounds_toArray, List.set_cons_zero, List.set_cons_succ]
  refine wpAnyH_take (i := 29) (oi := { dst := some 66, op := Go.Op.convert 5 3 (Go.Operand.tmp 65), type := 3, pos := "law.go:102", after := #[{ on := 28, ground := Go.Ground.data }, { on := 25, ground := Go.Ground.guard }], guard := some (25, false) }) (v := ?_) rfl (by kernel_rfl) (by kernel_rfl) (by kernel_rfl) (fun _ _ _ h => h) (Or.inl ⟨by rfl, ?_⟩) (by assumption) ?_
  rotate_left 1
  · intro w' hSw
    first | (go_simp; done) | (go_simp; with_reducible rfl)
  try simp only [Act.put, List.getElem_toArray, List.getElem_cons_succ, List.getElem_cons_zero, List.setIfInBounds_toArray, List.set_cons_zero, List.set_cons_succ]
  refine wpAnyH_take (i := 30) (oi := { dst := some 67, op := Go.Op.fieldAddr 53 (Go.Operand.tmp 3) 0, type := 0, pos := "law.go:102", after := #[{ on := 25, ground := Go.Ground.guard }], guard := some (25, false) }) (v := ?_) rfl (by kernel_rfl) (by kernel_rfl) (by kernel_rfl) (fun _ _ _ h => h) (Or.inl ⟨by rfl, ?_⟩) (by assumption) ?_
  rotate_left 1
  · intro w' hSw
    first | (go_simp; done) | (go_simp; with_reducible rfl)
  try simp only [Act.put, List.getElem_toArray, List.getElem_cons_succ, List.getElem_cons_zero, List.setIfInBounds_toArray, List.set_cons_zero, List.set_cons_succ]
  refine wpAnyH_take (i := 31) (oi := { dst := some 68, op := Go.Op.load 3 (Go.Operand.tmp 67), type := 3, pos := "law.go:102", after := #[{ on := 30, ground := Go.Ground.data }, { on := 25, ground := Go.Ground.guard }], guard := some (25, false) }) (v := ?_) rfl (by kernel_rfl) (by kernel_rfl) (by kernel_rfl) (fun _ _ _ h => h) (Or.inl ⟨by rfl, ?_⟩) (by assumption) ?_
  rotate_left 1
  · intro w' hSw
    obtain ⟨z0, z1, z2, z3, z4, z5, zf0, zf1, zf2, zf3, zf4, zf5⟩ := cells6 (bk_below hSw hy6.out)
    first | (go_simp; done) | (go_simp; with_reducible rfl)
  try simp only [Act.put, List.getElem_toArray, List.getElem_cons_succ, List.getElem_cons_zero, List.setIfInBounds_toArray, List.set_cons_zero, List.set_cons_succ]
  refine wpAnyH_take (i := 32) (oi := { dst := some 69, op := Go.Op.binOp Go.BinOp.neq 3 (Go.Operand.tmp 66) (Go.Operand.tmp 68) 3, type := 4, pos := "law.go:102", after := #[{ on := 29, ground := Go.Ground.data }, { on := 31, ground := Go.Ground.data }, { on := 25, ground := Go.Ground.guard }], guard := some (25, false) }) (v := ?_) rfl (by kernel_rfl) (by kernel_rfl) (by kernel_rfl) (fun _ _ _ h => h) (Or.inl ⟨by rfl, ?_⟩) (by assumption) ?_
  rotate_left 1
  · intro w' hSw
    first | (go_simp; done) | (go_simp; with_reducible rfl)
  try simp only [Act.put, List.getElem_toArray, List.getElem_cons_succ, List.getElem_cons_zero, List.setIfInBounds_toArray, List.set_cons_zero, List.set_cons_succ]
  refine wpAnyH_take (i := 33) (oi := { dst := some 70, op := Go.Op.pick (Go.Operand.tmp 62) (Go.Operand.const (Go.Value.bool true)) (Go.Operand.tmp 69), type := 4, pos := "law.go:102", after := #[{ on := 25, ground := Go.Ground.data }, { on := 32, ground := Go.Ground.data }], guard := none }) (v := ?_) rfl (by kernel_rfl) (by kernel_rfl) (by kernel_rfl) (fun _ _ _ h => h) (Or.inl ⟨by rfl, ?_⟩) (by assumption) ?_
  rotate_left 1
  · intro w' hSw
    first | (go_simp; done) | (go_simp; with_reducible rfl)
  try simp only [Act.put, List.getElem_toArray, List.getElem_cons_succ, List.getElem_cons_zero, List.setIfInBounds_toArray, List.set_cons_zero, List.set_cons_succ]
  refine wpAnyH_done (by kernel_rfl) ?_ _
  refine NoPanic.normal ?_
  have hH := hHeld
  go_wp2_with (fail)
  by_cases hlt : u1 + 2 < u2 + 2
  rotate_left 1
  · have e1 : decide ((u2 : Int) + 2 ≤ (u1 : Int) + 2) = true := decide_eq_true (by omega)
    have e2 : decide (u2 ≤ u1) = true := decide_eq_true (by omega)
    have e3 : decide ((u2 : Int) ≤ (u1 : Int)) = true := decide_eq_true (by omega)
    clear hHeld
    refine wp_region_noPanic ?_
    refine wp_region_held_drew (S := fun w' => Below w6.heap.size w6 w') (by kernel_rfl) (bl_drew hH) (fun hHeld => ?_)
    refine wpAnyH_take (i := 0) (oi := { dst := some 71, op := Go.Op.move (Go.Operand.tmp 5), type := 48, pos := "law.go:105", after := #[], guard := none }) (v := ?_) rfl (by kernel_rfl) (by kernel_rfl) (by kernel_rfl) (fun _ _ _ h => h) (Or.inl ⟨by rfl, ?_⟩) (by assumption) ?_
    rotate_left 1
    · intro w' hSw
      first | (go_simp; done) | (go_simp; with_reducible rfl)
    try simp only [Act.put, List.getElem_toArray, List.getElem_cons_succ, List.getElem_cons_zero, List.setIfInBounds_toArray, List.set_cons_zero, List.set_cons_succ]
    refine wpAnyH_take (i := 1) (oi := { dst := some 72, op := Go.Op.call { callee := Go.Callee.builtin Go.Builtin.len, args := #[Go.Operand.tmp 71], argTypes := #[48] }, type := 3, pos := "law.go:105", after := #[{ on := 0, ground := Go.Ground.data }], guard := none }) (v := ?_) rfl (by kernel_rfl) (by kernel_rfl) (by kernel_rfl) (fun _ _ _ h => h) (Or.inl ⟨by rfl, ?_⟩) (by assumption) ?_
    rotate_left 1
    · intro w' hSw
      first | (go_simp; done) | (go_simp; with_reducible rfl)
    try simp only [Act.put, List.getElem_toArray, List.getElem_cons_succ, List.getElem_cons_zero, List.setIfInBounds_toArray, List.set_cons_zero, List.set_cons_succ]
    refine wpAnyH_take (i := 2) (oi := { dst := some 73, op := Go.Op.move (Go.Operand.tmp 7), type := 48, pos := "law.go:105", after := #[], guard := none }) (v := ?_) rfl (by kernel_rfl) (by kernel_rfl) (by kernel_rfl) (fun _ _ _ h => h) (Or.inl ⟨by rfl, ?_⟩) (by assumption) ?_
    rotate_left 1
    · intro w' hSw
      first | (go_simp; done) | (go_simp; with_reducible rfl)
    try simp only [Act.put, List.getElem_toArray, List.getElem_cons_succ, List.getElem_cons_zero, List.setIfInBounds_toArray, List.set_cons_zero, List.set_cons_succ]
    refine wpAnyH_take (i := 3) (oi := { dst := some 74, op := Go.Op.call { callee := Go.Callee.builtin Go.Builtin.len, args := #[Go.Operand.tmp 73], argTypes := #[48] }, type := 3, pos := "law.go:105", after := #[{ on := 2, ground := Go.Ground.data }], guard := none }) (v := ?_) rfl (by kernel_rfl) (by kernel_rfl) (by kernel_rfl) (fun _ _ _ h => h) (Or.inl ⟨by rfl, ?_⟩) (by assumption) ?_
    rotate_left 1
    · intro w' hSw
      first | (go_simp; done) | (go_simp; with_reducible rfl)
    try simp only [Act.put, List.getElem_toArray, List.getElem_cons_succ, List.getElem_cons_zero, List.setIfInBounds_toArray, List.set_cons_zero, List.set_cons_succ]
    refine wpAnyH_take (i := 4) (oi := { dst := some 75, op := Go.Op.binOp Go.BinOp.geq 3 (Go.Operand.tmp 72) (Go.Operand.tmp 74) 3, type := 4, pos := "law.go:105", after := #[{ on := 1, ground := Go.Ground.data }, { on := 3, ground := Go.Ground.data }], guard := none }) (v := ?_) rfl (by kernel_rfl) (by kernel_rfl) (by kernel_rfl) (fun _ _ _ h => h) (Or.inl ⟨by rfl, ?_⟩) (by assumption) ?_
    rotate_left 1
    · intro w' hSw
      first | (go_simp; done) | (go_simp; with_reducible rfl)
    try simp only [Act.put, List.getElem_toArray, List.getElem_cons_succ, List.getElem_cons_zero, List.setIfInBounds_toArray, List.set_cons_zero, List.set_cons_succ]
    refine wpAnyH_take (i := 5) (oi := { dst := some 76, op := Go.Op.move (Go.Operand.tmp 75), type := 4, pos := "law.go:105", after := #[{ on := 4, ground := Go.Ground.data }], guard := none }) (v := ?_) rfl (by kernel_rfl) (by kernel_rfl) (by kernel_rfl) (fun _ _ _ h => h) (Or.inl ⟨by rfl, ?_⟩) (by assumption) ?_
    rotate_left 1
    · intro w' hSw
      first | (go_simp; done) | (go_simp; with_reducible rfl)
    try simp only [Act.put, List.getElem_toArray, List.getElem_cons_succ, List.getElem_cons_zero, List.setIfInBounds_toArray, List.set_cons_zero, List.set_cons_succ]
    refine wpAnyH_take (i := 6) (oi := { dst := some 77, op := Go.Op.move (Go.Operand.tmp 7), type := 48, pos := "law.go:105", after := #[{ on := 5, ground := Go.Ground.guard }], guard := some (5, false) }) (v := undef) rfl (by kernel_rfl) (by kernel_rfl) (by kernel_rfl) (fun _ _ _ h => h) (Or.inr ⟨by rfl, rfl⟩) (by assumption) ?_
    try simp only [Act.put, List.getElem_toArray, List.getElem_cons_succ, List.getElem_cons_zero, List.setIfInBounds_toArray, List.set_cons_zero, List.set_cons_succ]
    refine wpAnyH_take (i := 7) (oi := { dst := some 78, op := Go.Op.move (Go.Operand.tmp 5), type := 48, pos := "law.go:105", after := #[{ on := 5, ground := Go.Ground.guard }], guard := some (5, false) }) (v := undef) rfl (by kernel_rfl) (by kernel_rfl) (by kernel_rfl) (fun _ _ _ h => h) (Or.inr ⟨by rfl, rfl⟩) (by assumption) ?_
    try simp only [Act.put, List.getElem_toArray, List.getElem_cons_succ, List.getElem_cons_zero, List.setIfInBounds_toArray, List.set_cons_zero, List.set_cons_succ]
    refine wpAnyH_take (i := 8) (oi := { dst := some 79, op := Go.Op.call { callee := Go.Callee.builtin Go.Builtin.len, args := #[Go.Operand.tmp 78], argTypes := #[48] }, type := 3, pos := "law.go:105", after := #[{ on := 7, ground := Go.Ground.data }, { on := 5, ground := Go.Ground.guard }], guard := some (5, false) }) (v := undef) rfl (by kernel_rfl) (by kernel_rfl) (by kernel_rfl) (fun _ _ _ h => h) (Or.inr ⟨by rfl, rfl⟩) (by assumption) ?_
    try simp only [Act.put, List.getElem_toArray, List.getElem_cons_succ, List.getElem_cons_zero, List.setIfInBounds_toArray, List.set_cons_zero, List.set_cons_succ]
    refine wpAnyH_take (i := 9) (oi := { dst := some 80, op := Go.Op.slice 48 (Go.Operand.tmp 77) none (some (Go.Operand.tmp 79)) none, type := 48, pos := "law.go:105", after := #[{ on := 6, ground := Go.Ground.data }, { on := 8, ground := Go.Ground.data }, { on := 5, ground := Go.Ground.guard }], guard := some (5, false) }) (v := undef) rfl (by kernel_rfl) (by kernel_rfl) (by kernel_rfl) (fun _ _ _ h => h) (Or.inr ⟨by rfl, rfl⟩) (by assumption) ?_
    try simp only [Act.put, List.getElem_toArray, List.getElem_cons_succ, List.getElem_cons_zero, List.setIfInBounds_toArray, List.set_cons_zero, List.set_cons_succ]
    refine wpAnyH_take (i := 10) (oi := { dst := some 81, op := Go.Op.convert 48 9 (Go.Operand.tmp 80), type := 9, pos := "law.go:105", after := #[{ on := 9, ground := Go.Ground.data }, { on := 5, ground := Go.Ground.guard }], guard := some (5, false) }) (v := undef) rfl (by kernel_rfl) (by kernel_rfl) (by kernel_rfl) (fun _ _ _ h => h) (Or.inr ⟨by rfl, rfl⟩) (by assumption) ?_
    try simp only [Act.put, List.getElem_toArray, List.getElem_cons_succ, List.getElem_cons_zero, List.setIfInBounds_toArray, List.set_cons_zero, List.set_cons_succ]
    refine wpAnyH_take (i := 11) (oi := { dst := some 82, op := Go.Op.move (Go.Operand.tmp 5), type := 48, pos := "law.go:105", after := #[{ on := 5, ground := Go.Ground.guard }], guard := some (5, false) }) (v := undef) rfl (by kernel_rfl) (by kernel_rfl) (by kernel_rfl) (fun _ _ _ h => h) (Or.inr ⟨by rfl, rfl⟩) (by assumption) ?_
    try simp only [Act.put, List.getElem_toArray, List.getElem_cons_succ, List.getElem_cons_zero, List.setIfInBounds_toArray, List.set_cons_zero, List.set_cons_succ]
    refine wpAnyH_take (i := 12) (oi := { dst := some 83, op := Go.Op.convert 48 9 (Go.Operand.tmp 82), type := 9, pos := "law.go:105", after := #[{ on := 11, ground := Go.Ground.data }, { on := 5, ground := Go.Ground.guard }], guard := some (5, false) }) (v := undef) rfl (by kernel_rfl) (by kernel_rfl) (by kernel_rfl) (fun _ _ _ h => h) (Or.inr ⟨by rfl, rfl⟩) (by assumption) ?_
    try simp only [Act.put, List.getElem_toArray, List.getElem_cons_succ, List.getElem_cons_zero, List.setIfInBounds_toArray, List.set_cons_zero, List.set_cons_succ]
    refine wpAnyH_take (i := 13) (oi := { dst := some 84, op := Go.Op.binOp Go.BinOp.neq 9 (Go.Operand.tmp 81) (Go.Operand.tmp 83) 9, type := 4, pos := "law.go:105", after := #[{ on := 10, ground := Go.Ground.data }, { on := 12, ground := Go.Ground.data }, { on := 5, ground := Go.Ground.guard }], guard := some (5, false) }) (v := undef) rfl (by kernel_rfl) (by kernel_rfl) (by kernel_rfl) (fun _ _ _ h => h) (Or.inr ⟨by rfl, rfl⟩) (by assumption) ?_
    try simp only [Act.put, List.getElem_toArray, List.getElem_cons_succ, List.getElem_cons_zero, List.setIfInBounds_toArray, List.set_cons_zero, List.set_cons_succ]
    refine wpAnyH_take (i := 14) (oi := { dst := some 85, op := Go.Op.pick (Go.Operand.tmp 76) (Go.Operand.const (Go.Value.bool true)) (Go.Operand.tmp 84), type := 4, pos := "law.go:105", after := #[{ on := 5, ground := Go.Ground.data }, { on := 13, ground := Go.Ground.data }], guard := none }) (v := ?_) rfl (by kernel_rfl) (by kernel_rfl) (by kernel_rfl) (fun _ _ _ h => h) (Or.inl ⟨by rfl, ?_⟩) (by assumption) ?_
    rotate_left 1
    · intro w' hSw
      first | (go_simp; done) | (go_simp; with_reducible rfl)
    try simp only [Act.put, List.getElem_toArray, List.getElem_cons_succ, List.getElem_cons_zero, List.setIfInBounds_toArray, List.set_cons_zero, List.set_cons_succ]
    refine wpAnyH_done (by kernel_rfl) ?_ _
    refine NoPanic.normal ?_
    go_wp2
    go_ret
    exact ⟨rfl, bl_then hB6.out hHeld⟩
  have e1 : decide ((u2 : Int) + 2 ≤ (u1 : Int) + 2) = false := decide_eq_false (by omega)
  have e2 : decide (u2 ≤ u1) = false := decide_eq_false (by omega)
  have e3 : decide ((u2 : Int) ≤ (u1 : Int)) = false := decide_eq_false (by omega)
  have hcut : ∀ W, ReadsInt W .u8 (some a2) (u2 + 2) X2 → (convert 48 9 (.slice (some a2) (u1 + 2) cb2)).run Try.prog W = .ok (.string (strOfNums (X2.take (u1 + 2)))) W := fun W h => by
    have h' : ReadsInt W .u8 (some a2) (u1 + 2) (X2.take (u1 + 2)) := ⟨by rw [List.length_take, hu2.out]; omega, by omega, fun _ => by
      obtain ⟨ad, e, hc⟩ := h.2.2 (by omega)
      refine ⟨ad, e, fun j hj => ?_⟩
      rw [List.getD_eq_getElem?_getD, List.getElem?_take, if_pos hj, ← List.getD_eq_getElem?_getD]
      exact hc j (by omega)⟩
    exact string_of_reads (P := Try.prog) (c := cb2) Try.underlying48 Try.underlying5 Try.underlying9 h'
  have hh1 : (u1 : Int) + 2 ≤ (cb2 : Int) := by omega
  have hh2 : (0 : Int) ≤ (u1 : Int) + 2 := by omega
  have htn : ((u1 : Int) + 2).toNat = u1 + 2 := by omega
  have hh3 : decide (cb2 = 0) = false := decide_eq_false (by omega)
  by_cases hx9 : X2.take (u1 + 2) = X1
  · have hst := (strs_eq hx9).1
    obtain ⟨hk1, hk2, hn9⟩ := hpre.out hlt hx9
    obtain ⟨S1, hS1⟩ : ∃ S, strOfNums X1 = S := ⟨_, rfl⟩
    obtain ⟨S2, hS2⟩ : ∃ S, strOfNums (X2.take (u1 + 2)) = S := ⟨_, rfl⟩
    have cvx := cv1.out
    rw [hS1] at hst cvx
    rw [hS2] at hst hcut
    have hn1 : decide ((n : Int) < (n' : Int)) = true := decide_eq_true (by omega)
    have hn2 : decide (n < n') = true := decide_eq_true hn9
    subst hk1 hk2
    replace cvx := Lib.hid cvx
    replace hcut := Lib.hid hcut
    clear hS1 hS2 hx9 hHeld
    refine wp_region_noPanic ?_
    refine wp_region_held_drew (S := fun w' => Below w6.heap.size w6 w') (by kernel_rfl) (bl_drew hH) (fun hHeld => ?_)
    refine wpAnyH_take (i := 0) (oi := { dst := some 71, op := Go.Op.move (Go.Operand.tmp 5), type := 48, pos := "law.go:105", after := #[], guard := none }) (v := ?_) rfl (by kernel_rfl) (by kernel_rfl) (by kernel_rfl) (fun _ _ _ h => h) (Or.inl ⟨by rfl, ?_⟩) (by assumption) ?_
    rotate_left 1
    · intro w' hSw
      first | (go_simp; done) | (go_simp; with_reducible rfl)
    try simp only [Act.put, List.getElem_toArray, List.getElem_cons_succ, List.getElem_cons_zero, List.setIfInBounds_toArray, List.set_cons_zero, List.set_cons_succ]
    refine wpAnyH_take (i := 1) (oi := { dst := some 72, op := Go.Op.call { callee := Go.Callee.builtin Go.Builtin.len, args := #[Go.Operand.tmp 71], argTypes := #[48] }, type := 3, pos := "law.go:105", after := #[{ on := 0, ground := Go.Ground.data }], guard := none }) (v := ?_) rfl (by kernel_rfl) (by kernel_rfl) (by kernel_rfl) (fun _ _ _ h => h) (Or.inl ⟨by rfl, ?_⟩) (by assumption) ?_
    rotate_left 1
    · intro w' hSw
      first | (go_simp; done) | (go_simp; with_reducible rfl)
    try simp only [Act.put, List.getElem_toArray, List.getElem_cons_succ, List.getElem_cons_zero, List.setIfInBounds_toArray, List.set_cons_zero, List.set_cons_succ]
    refine wpAnyH_take (i := 2) (oi := { dst := some 73, op := Go.Op.move (Go.Operand.tmp 7), type := 48, pos := "law.go:105", after := #[], guard := none }) (v := ?_) rfl (by kernel_rfl) (by kernel_rfl) (by kernel_rfl) (fun _ _ _ h => h) (Or.inl ⟨by rfl, ?_⟩) (by assumption) ?_
    rotate_left 1
    · intro w' hSw
      first | (go_simp; done) | (go_simp; with_reducible rfl)
    try simp only [Act.put, List.getElem_toArray, List.getElem_cons_succ, List.getElem_cons_zero, List.setIfInBounds_toArray, List.set_cons_zero, List.set_cons_succ]
    refine wpAnyH_take (i := 3) (oi := { dst := some 74, op := Go.Op.call { callee := Go.Callee.builtin Go.Builtin.len, args := #[Go.Operand.tmp 73], argTypes := #[48] }, type := 3, pos := "law.go:105", after := #[{ on := 2, ground := Go.Ground.data }], guard := none }) (v := ?_) rfl (by kernel_rfl) (by kernel_rfl) (by kernel_rfl) (fun _ _ _ h => h) (Or.inl ⟨by rfl, ?_⟩) (by assumption) ?_
    rotate_left 1
    · intro w' hSw
      first | (go_simp; done) | (go_simp; with_reducible rfl)
    try simp only [Act.put, List.getElem_toArray, List.getElem_cons_succ, List.getElem_cons_zero, List.setIfInBounds_toArray, List.set_cons_zero, List.set_cons_succ]
    refine wpAnyH_take (i := 4) (oi := { dst := some 75, op := Go.Op.binOp Go.BinOp.geq 3 (Go.Operand.tmp 72) (Go.Operand.tmp 74) 3, type := 4, pos := "law.go:105", after := #[{ on := 1, ground := Go.Ground.data }, { on := 3, ground := Go.Ground.data }], guard := none }) (v := ?_) rfl (by kernel_rfl) (by kernel_rfl) (by kernel_rfl) (fun _ _ _ h => h) (Or.inl ⟨by rfl, ?_⟩) (by assumption) ?_
    rotate_left 1
    · intro w' hSw
      first | (go_simp; done) | (go_simp; with_reducible rfl)
    try simp only [Act.put, List.getElem_toArray, List.getElem_cons_succ, List.getElem_cons_zero, List.setIfInBounds_toArray, List.set_cons_zero, List.set_cons_succ]
    refine wpAnyH_take (i := 5) (oi := { dst := some 76, op := Go.Op.move (Go.Operand.tmp 75), type := 4, pos := "law.go:105", after := #[{ on := 4, ground := Go.Ground.data }], guard := none }) (v := ?_) rfl (by kernel_rfl) (by kernel_rfl) (by kernel_rfl) (fun _ _ _ h => h) (Or.inl ⟨by rfl, ?_⟩) (by assumption) ?_
    rotate_left 1
    · intro w' hSw
      first | (go_simp; done) | (go_simp; with_reducible rfl)
    try simp only [Act.put, List.getElem_toArray, List.getElem_cons_succ, List.getElem_cons_zero, List.setIfInBounds_toArray, List.set_cons_zero, List.set_cons_succ]
    refine wpAnyH_take (i := 6) (oi := { dst := some 77, op := Go.Op.move (Go.Operand.tmp 7), type := 48, pos := "law.go:105", after := #[{ on := 5, ground := Go.Ground.guard }], guard := some (5, false) }) (v := ?_) rfl (by kernel_rfl) (by kernel_rfl) (by kernel_rfl) (fun _ _ _ h => h) (Or.inl ⟨by rfl, ?_⟩) (by assumption) ?_
    rotate_left 1
    · intro w' hSw
      first | (go_simp; done) | (go_simp; with_reducible rfl)
    try simp only [Act.put, List.getElem_toArray, List.getElem_cons_succ, List.getElem_cons_zero, List.setIfInBounds_toArray, List.set_cons_zero, List.set_cons_succ]
    refine wpAnyH_take (i := 7) (oi := { dst := some 78, op := Go.Op.move (Go.Operand.tmp 5), type := 48, pos := "law.go:105", after := #[{ on := 5, ground := Go.Ground.guard }], guard := some (5, false) }) (v := ?_) rfl (by kernel_rfl) (by kernel_rfl) (by kernel_rfl) (fun _ _ _ h => h) (Or.inl ⟨by rfl, ?_⟩) (by assumption) ?_
    rotate_left 1
    · intro w' hSw
      first | (go_simp; done) | (go_simp; with_reducible rfl)
    try simp only [Act.put, List.getElem_toArray, List.getElem_cons_succ, List.getElem_cons_zero, List.setIfInBounds_toArray, List.set_cons_zero, List.set_cons_succ]
    refine wpAnyH_take (i := 8) (oi := { dst := some 79, op := Go.Op.call { callee := Go.Callee.builtin Go.Builtin.len, args := #[Go.Operand.tmp 78], argTypes := #[48] }, type := 3, pos := "law.go:105", after := #[{ on := 7, ground := Go.Ground.data }, { on := 5, ground := Go.Ground.guard }], guard := some (5, false) }) (v := ?_) rfl (by kernel_rfl) (by kernel_rfl) (by kernel_rfl) (fun _ _ _ h => h) (Or.inl ⟨by rfl, ?_⟩) (by assumption) ?_
    rotate_left 1
    · intro w' hSw
      first | (go_simp; done) | (go_simp; with_reducible rfl)
    try simp only [Act.put, List.getElem_toArray, List.getElem_cons_succ, List.getElem_cons_zero, List.setIfInBounds_toArray, List.set_cons_zero, List.set_cons_succ]
    refine wpAnyH_take (i := 9) (oi := { dst := some 80, op := Go.Op.slice 48 (Go.Operand.tmp 77) none (some (Go.Operand.tmp 79)) none, type := 48, pos := "law.go:105", after := #[{ on := 6, ground := Go.Ground.data }, { on := 8, ground := Go.Ground.data }, { on := 5, ground := Go.Ground.guard }], guard := some (5, false) }) (v := ?_) rfl (by kernel_rfl) (by kernel_rfl) (by kernel_rfl) (fun _ _ _ h => h) (Or.inl ⟨by rfl, ?_⟩) (by assumption) ?_
    rotate_left 1
    · intro w' hSw
      first | (go_simp; done) | (go_simp; with_reducible rfl)
    try simp only [Act.put, List.getElem_toArray, List.getElem_cons_succ, List.getElem_cons_zero, List.setIfInBounds_toArray, List.set_cons_zero, List.set_cons_succ]
    refine wpAnyH_take (i := 10) (oi := { dst := some 81, op := Go.Op.convert 48 9 (Go.Operand.tmp 80), type := 9, pos := "law.go:105", after := #[{ on := 9, ground := Go.Ground.data }, { on := 5, ground := Go.Ground.guard }], guard := some (5, false) }) (v := ?_) rfl (by kernel_rfl) (by kernel_rfl) (by kernel_rfl) (fun _ _ _ h => h) (Or.inl ⟨by rfl, ?_⟩) (by assumption) ?_
    rotate_left 1
    · intro w' hSw
      have kk := hcut.out w' (hry.out.below hSw)
      first | (go_simp; done) | (go_simp; with_reducible rfl)
    try simp only [Act.put, List.getElem_toArray, List.getElem_cons_succ, List.getElem_cons_zero, List.setIfInBounds_toArray, List.set_cons_zero, List.set_cons_succ]
    refine wpAnyH_take (i := 11) (oi := { dst := some 82, op := Go.Op.move (Go.Operand.tmp 5), type := 48, pos := "law.go:105", after := #[{ on := 5, ground := Go.Ground.guard }], guard := some (5, false) }) (v := ?_) rfl (by kernel_rfl) (by kernel_rfl) (by kernel_rfl) (fun _ _ _ h => h) (Or.inl ⟨by rfl, ?_⟩) (by assumption) ?_
    rotate_left 1
    · intro w' hSw
      first | (go_simp; done) | (go_simp; with_reducible rfl)
    try simp only [Act.put, List.getElem_toArray, List.getElem_cons_succ, List.getElem_cons_zero, List.setIfInBounds_toArray, List.set_cons_zero, List.set_cons_succ]
    refine wpAnyH_take (i := 12) (oi := { dst := some 83, op := Go.Op.convert 48 9 (Go.Operand.tmp 82), type := 9, pos := "law.go:105", after := #[{ on := 11, ground := Go.Ground.data }, { on := 5, ground := Go.Ground.guard }], guard := some (5, false) }) (v := ?_) rfl (by kernel_rfl) (by kernel_rfl) (by kernel_rfl) (fun _ _ _ h => h) (Or.inl ⟨by rfl, ?_⟩) (by assumption) ?_
    rotate_left 1
    · intro w' hSw
      have kk := cvx.out w' (some a1) cb1 (hrx'.out.below hSw)
      first | (go_simp; done) | (go_simp; with_reducible rfl)
    try simp only [Act.put, List.getElem_toArray, List.getElem_cons_succ, List.getElem_cons_zero, List.setIfInBounds_toArray, List.set_cons_zero, List.set_cons_succ]
    refine wpAnyH_take (i := 13) (oi := { dst := some 84, op := Go.Op.binOp Go.BinOp.neq 9 (Go.Operand.tmp 81) (Go.Operand.tmp 83) 9, type := 4, pos := "law.go:105", after := #[{ on := 10, ground := Go.Ground.data }, { on := 12, ground := Go.Ground.data }, { on := 5, ground := Go.Ground.guard }], guard := some (5, false) }) (v := ?_) rfl (by kernel_rfl) (by kernel_rfl) (by kernel_rfl) (fun _ _ _ h => h) (Or.inl ⟨by rfl, ?_⟩) (by assumption) ?_
    rotate_left 1
    · intro w' hSw
      first | (go_simp; done) | (go_simp; with_reducible rfl)
    try simp only [Act.put, List.getElem_toArray, List.getElem_cons_succ, List.getElem_cons_zero, List.setIfInBounds_toArray, List.set_cons_zero, List.set_cons_succ]
    refine wpAnyH_take (i := 14) (oi := { dst := some 85, op := Go.Op.pick (Go.Operand.tmp 76) (Go.Operand.const (Go.Value.bool true)) (Go.Operand.tmp 84), type := 4, pos := "law.go:105", after := #[{ on := 5, ground := Go.Ground.data }, { on := 13, ground := Go.Ground.data }], guard := none }) (v := ?_) rfl (by kernel_rfl) (by kernel_rfl) (by kernel_rfl) (fun _ _ _ h => h) (Or.inl ⟨by rfl, ?_⟩) (by assumption) ?_
    rotate_left 1
    · intro w' hSw
      first | (go_simp; done) | (go_simp; with_reducible rfl)
    try simp only [Act.put, List.getElem_toArray, List.getElem_cons_succ, List.getElem_cons_zero, List.setIfInBounds_toArray, List.set_cons_zero, List.set_cons_succ]
    refine wpAnyH_done (by kernel_rfl) ?_ _
    refine NoPanic.normal ?_
    obtain ⟨z0, z1, z2, z3, z4, z5, zf0, zf1, zf2, zf3, zf4, zf5⟩ := cells6 hx6.out
    obtain ⟨t0, t1, t2, t3, t4, t5, tf0, tf1, tf2, tf3, tf4, tf5⟩ := cells6 hy6.out
    go_wp2
    go_ret
    exact ⟨rfl, bl_then hB6.out hHeld⟩
  · have hst := (strs_ne (fun x hx => hby2.out x (List.mem_of_mem_take hx)) hby1.out hx9).1
    obtain ⟨S1, hS1⟩ : ∃ S, strOfNums X1 = S := ⟨_, rfl⟩
    obtain ⟨S2, hS2⟩ : ∃ S, strOfNums (X2.take (u1 + 2)) = S := ⟨_, rfl⟩
    have cvx := cv1.out
    rw [hS1] at hst cvx
    rw [hS2] at hst hcut
    replace cvx := Lib.hid cvx
    replace hcut := Lib.hid hcut
    clear hS1 hS2 hx9 hHeld
    refine wp_region_noPanic ?_
    refine wp_region_held_drew (S := fun w' => Below w6.heap.size w6 w') (by kernel_rfl) (bl_drew hH) (fun hHeld => ?_)
    refine wpAnyH_take (i := 0) (oi := { dst := some 71, op := Go.Op.move (Go.Operand.tmp 5), type := 48, pos := "law.go:105", after := #[], guard := none }) (v := ?_) rfl (by kernel_rfl) (by kernel_rfl) (by kernel_rfl) (fun _ _ _ h => h) (Or.inl ⟨by rfl, ?_⟩) (by assumption) ?_
    rotate_left 1
    · intro w' hSw
      first | (go_simp; done) | (go_simp; with_reducible rfl)
    try simp only [Act.put, List.getElem_toArray, List.getElem_cons_succ, List.getElem_cons_zero, List.setIfInBounds_toArray, List.set_cons_zero, List.set_cons_succ]
    refine wpAnyH_take (i := 1) (oi := { dst := some 72, op := Go.Op.call { callee := Go.Callee.builtin Go.Builtin.len, args := #[Go.Operand.tmp 71], argTypes := #[48] }, type := 3, pos := "law.go:105", after := #[{ on := 0, ground := Go.Ground.data }], guard := none }) (v := ?_) rfl (by kernel_rfl) (by kernel_rfl) (by kernel_rfl) (fun _ _ _ h => h) (Or.inl ⟨by rfl, ?_⟩) (by assumption) ?_
    rotate_left 1
    · intro w' hSw
      first | (go_simp; done) | (go_simp; with_reducible rfl)
    try simp only [Act.put, List.getElem_toArray, List.getElem_cons_succ, List.getElem_cons_zero, List.setIfInBounds_toArray, List.set_cons_zero, List.set_cons_succ]
    refine wpAnyH_take (i := 2) (oi := { dst := some 73, op := Go.Op.move (Go.Operand.tmp 7), type := 48, pos := "law.go:105", after := #[], guard := none }) (v := ?_) rfl (by kernel_rfl) (by kernel_rfl) (by kernel_rfl) (fun _ _ _ h => h) (Or.inl ⟨by rfl, ?_⟩) (by assumption) ?_
    rotate_left 1
    · intro w' hSw
      first | (go_simp; done) | (go_simp; with_reducible rfl)
    try simp only [Act.put, List.getElem_toArray, List.getElem_cons_succ, List.getElem_cons_zero, List.setIfInBounds_toArray, List.set_cons_zero, List.set_cons_succ]
    refine wpAnyH_take (i := 3) (oi := { dst := some 74, op := Go.Op.call { callee := Go.Callee.builtin Go.Builtin.len, args := #[Go.Operand.tmp 73], argTypes := #[48] }, type := 3, pos := "law.go:105", after := #[{ on := 2, ground := Go.Ground.data }], guard := none }) (v := ?_) rfl (by kernel_rfl) (by kernel_rfl) (by kernel_rfl) (fun _ _ _ h => h) (Or.inl ⟨by rfl, ?_⟩) (by assumption) ?_
    rotate_left 1
    · intro w' hSw
      first | (go_simp; done) | (go_simp; with_reducible rfl)
    try simp only [Act.put, List.getElem_toArray, List.getElem_cons_succ, List.getElem_cons_zero, List.setIfInBounds_toArray, List.set_cons_zero, List.set_cons_succ]
    refine wpAnyH_take (i := 4) (oi := { dst := some 75, op := Go.Op.binOp Go.BinOp.geq 3 (Go.Operand.tmp 72) (Go.Operand.tmp 74) 3, type := 4, pos := "law.go:105", after := #[{ on := 1, ground := Go.Ground.data }, { on := 3, ground := Go.Ground.data }], guard := none }) (v := ?_) rfl (by kernel_rfl) (by kernel_rfl) (by kernel_rfl) (fun _ _ _ h => h) (Or.inl ⟨by rfl, ?_⟩) (by assumption) ?_
    rotate_left 1
    · intro w' hSw
      first | (go_simp; done) | (go_simp; with_reducible rfl)
    try simp only [Act.put, List.getElem_toArray, List.getElem_cons_succ, List.getElem_cons_zero, List.setIfInBounds_toArray, List.set_cons_zero, List.set_cons_succ]
    refine wpAnyH_take (i := 5) (oi := { dst := some 76, op := Go.Op.move (Go.Operand.tmp 75), type := 4, pos := "law.go:105", after := #[{ on := 4, ground := Go.Ground.data }], guard := none }) (v := ?_) rfl (by kernel_rfl) (by kernel_rfl) (by kernel_rfl) (fun _ _ _ h => h) (Or.inl ⟨by rfl, ?_⟩) (by assumption) ?_
    rotate_left 1
    · intro w' hSw
      first | (go_simp; done) | (go_simp; with_reducible rfl)
    try simp only [Act.put, List.getElem_toArray, List.getElem_cons_succ, List.getElem_cons_zero, List.setIfInBounds_toArray, List.set_cons_zero, List.set_cons_succ]
    refine wpAnyH_take (i := 6) (oi := { dst := some 77, op := Go.Op.move (Go.Operand.tmp 7), type := 48, pos := "law.go:105", after := #[{ on := 5, ground := Go.Ground.guard }], guard := some (5, false) }) (v := ?_) rfl (by kernel_rfl) (by kernel_rfl) (by kernel_rfl) (fun _ _ _ h => h) (Or.inl ⟨by rfl, ?_⟩) (by assumption) ?_
    rotate_left 1
    · intro w' hSw
      first | (go_simp; done) | (go_simp; with_reducible rfl)
    try simp only [Act.put, List.getElem_toArray, List.getElem_cons_succ, List.getElem_cons_zero, List.setIfInBounds_toArray, List.set_cons_zero, List.set_cons_succ]
    refine wpAnyH_take (i := 7) (oi := { dst := some 78, op := Go.Op.move (Go.Operand.tmp 5), type := 48, pos := "law.go:105", after := #[{ on := 5, ground := Go.Ground.guard }], guard := some (5, false) }) (v := ?_) rfl (by kernel_rfl) (by kernel_rfl) (by kernel_rfl) (fun _ _ _ h => h) (Or.inl ⟨by rfl, ?_⟩) (by assumption) ?_
    rotate_left 1
    · intro w' hSw
      first | (go_simp; done) | (go_simp; with_reducible rfl)
    try simp only [Act.put, List.getElem_toArray, List.getElem_cons_succ, List.getElem_cons_zero, List.setIfInBounds_toArray, List.set_cons_zero, List.set_cons_succ]
    refine wpAnyH_take (i := 8) (oi := { dst := some 79, op := Go.Op.call { callee := Go.Callee.builtin Go.Builtin.len, args := #[Go.Operand.tmp 78], argTypes := #[48] }, type := 3, pos := "law.go:105", after := #[{ on := 7, ground := Go.Ground.data }, { on := 5, ground := Go.Ground.guard }], guard := some (5, false) }) (v := ?_) rfl (by kernel_rfl) (by kernel_rfl) (by kernel_rfl) (fun _ _ _ h => h) (Or.inl ⟨by rfl, ?_⟩) (by assumption) ?_
    rotate_left 1
    · intro w' hSw
      first | (go_simp; done) | (go_simp; with_reducible rfl)
    try simp only [Act.put, List.getElem_toArray, List.getElem_cons_succ, List.getElem_cons_zero, List.setIfInBounds_toArray, List.set_cons_zero, List.set_cons_succ]
    refine wpAnyH_take (i := 9) (oi := { dst := some 80, op := Go.Op.slice 48 (Go.Operand.tmp 77) none (some (Go.Operand.tmp 79)) none, type := 48, pos := "law.go:105", after := #[{ on := 6, ground := Go.Ground.data }, { on := 8, ground := Go.Ground.data }, { on := 5, ground := Go.Ground.guard }], guard := some (5, false) }) (v := ?_) rfl (by kernel_rfl) (by kernel_rfl) (by kernel_rfl) (fun _ _ _ h => h) (Or.inl ⟨by rfl, ?_⟩) (by assumption) ?_
    rotate_left 1
    · intro w' hSw
      first | (go_simp; done) | (go_simp; with_reducible rfl)
    try simp only [Act.put, List.getElem_toArray, List.getElem_cons_succ, List.getElem_cons_zero, List.setIfInBounds_toArray, List.set_cons_zero, List.set_cons_succ]
    refine wpAnyH_take (i := 10) (oi := { dst := some 81, op := Go.Op.convert 48 9 (Go.Operand.tmp 80), type := 9, pos := "law.go:105", after := #[{ on := 9, ground := Go.Ground.data }, { on := 5, ground := Go.Ground.guard }], guard := some (5, false) }) (v := ?_) rfl (by kernel_rfl) (by kernel_rfl) (by kernel_rfl) (fun _ _ _ h => h) (Or.inl ⟨by rfl, ?_⟩) (by assumption) ?_
    rotate_left 1
    · intro w' hSw
      have kk := hcut.out w' (hry.out.below hSw)
      first | (go_simp; done) | (go_simp; with_reducible rfl)
    try simp only [Act.put, List.getElem_toArray, List.getElem_cons_succ, List.getElem_cons_zero, List.setIfInBounds_toArray, List.set_cons_zero, List.set_cons_succ]
    refine wpAnyH_take (i := 11) (oi := { dst := some 82, op := Go.Op.move (Go.Operand.tmp 5), type := 48, pos := "law.go:105", after := #[{ on := 5, ground := Go.Ground.guard }], guard := some (5, false) }) (v := ?_) rfl (by kernel_rfl) (by kernel_rfl) (by kernel_rfl) (fun _ _ _ h => h) (Or.inl ⟨by rfl, ?_⟩) (by assumption) ?_
    rotate_left 1
    · intro w' hSw
      first | (go_simp; done) | (go_simp; with_reducible rfl)
    try simp only [Act.put, List.getElem_toArray, List.getElem_cons_succ, List.getElem_cons_zero, List.setIfInBounds_toArray, List.set_cons_zero, List.set_cons_succ]
    refine wpAnyH_take (i := 12) (oi := { dst := some 83, op := Go.Op.convert 48 9 (Go.Operand.tmp 82), type := 9, pos := "law.go:105", after := #[{ on := 11, ground := Go.Ground.data }, { on := 5, ground := Go.Ground.guard }], guard := some (5, false) }) (v := ?_) rfl (by kernel_rfl) (by kernel_rfl) (by kernel_rfl) (fun _ _ _ h => h) (Or.inl ⟨by rfl, ?_⟩) (by assumption) ?_
    rotate_left 1
    · intro w' hSw
      have kk := cvx.out w' (some a1) cb1 (hrx'.out.below hSw)
      first | (go_simp; done) | (go_simp; with_reducible rfl)
    try simp only [Act.put, List.getElem_toArray, List.getElem_cons_succ, List.getElem_cons_zero, List.setIfInBounds_toArray, List.set_cons_zero, List.set_cons_succ]
    refine wpAnyH_take (i := 13) (oi := { dst := some 84, op := Go.Op.binOp Go.BinOp.neq 9 (Go.Operand.tmp 81) (Go.Operand.tmp 83) 9, type := 4, pos := "law.go:105", after := #[{ on := 10, ground := Go.Ground.data }, { on := 12, ground := Go.Ground.data }, { on := 5, ground := Go.Ground.guard }], guard := some (5, false) }) (v := ?_) rfl (by kernel_rfl) (by kernel_rfl) (by kernel_rfl) (fun _ _ _ h => h) (Or.inl ⟨by rfl, ?_⟩) (by assumption) ?_
    rotate_left 1
    · intro w' hSw
      first | (go_simp; done) | (go_simp; with_reducible rfl)
    try simp only [Act.put, List.getElem_toArray, List.getElem_cons_succ, List.getElem_cons_zero, List.setIfInBounds_toArray, List.set_cons_zero, List.set_cons_succ]
    refine wpAnyH_take (i := 14) (oi := { dst := some 85, op := Go.Op.pick (Go.Operand.tmp 76) (Go.Operand.const (Go.Value.bool true)) (Go.Operand.tmp 84), type := 4, pos := "law.go:105", after := #[{ on := 5, ground := Go.Ground.data }, { on := 13, ground := Go.Ground.data }], guard := none }) (v := ?_) rfl (by kernel_rfl) (by kernel_rfl) (by kernel_rfl) (fun _ _ _ h => h) (Or.inl ⟨by rfl, ?_⟩) (by assumption) ?_
    rotate_left 1
    · intro w' hSw
      first | (go_simp; done) | (go_simp; with_reducible rfl)
    try simp only [Act.put, List.getElem_toArray, List.getElem_cons_succ, List.getElem_cons_zero, List.setIfInBounds_toArray, List.set_cons_zero, List.set_cons_succ]
    refine wpAnyH_done (by kernel_rfl) ?_ _
    refine NoPanic.normal ?_
    go_wp2
    go_ret
    exact ⟨rfl, bl_then hB6.out hHeld⟩
end Go.Proofs.Ytfcekicjlgdmaaa
