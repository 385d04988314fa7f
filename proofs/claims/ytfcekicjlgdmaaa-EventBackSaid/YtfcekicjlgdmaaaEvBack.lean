/- The walk of EventBack. -/
import Derived.Test.YtfcekicjlgdmaaaEvH
import Derived.Test.YtfcekicjlgdmaaaEvReads
set_option linter.unusedVariables false
set_option linter.unusedSimpArgs false
set_option maxRecDepth 100000
namespace Go.Proofs.Ytfcekicjlgdmaaa
open Go.RowKit Go.Shelf Go.Proofs.YtfcekicjlgdmaaaW.PrintWords
attribute [local go_sem] max2_int min2_int max_two min_two
set_option maxHeartbeats 12800000 in
theorem eventBack_walk (k s : Int) (A1 : Option Addr) (n c1 : Nat) {w : World} (hf1 : IsFlat polLeaves w A1 n c1) (A2 : Option Addr) (m c2 : Nat) (zs : List Int) (hr1 : IsRow .i64 w A2 m c2 zs) (g p : Int) (A3 : Option Addr) (len3 cap3 : Nat) (zs3 : List Int) (hz3 : IsRow .u8 w A3 len3 cap3 zs3) :
    Calls Try.prog 11 #[.agg #[.int .i64 k, .int .i64 s, .slice A1 n c1, .slice A2 m c2, .int .u64 g, .int .u64 p], .slice A3 len3 cap3] w fun e w' => e = .returned (.bool true) ∧ Below w.heap.size w w' := by
  obtain ⟨ps, ds, hE⟩ := ev_at hf1 hr1
  obtain ⟨b, rfl, hrb, hml, hwl, hcl⟩ := ReadsInt.ofRowC hz3
  have hcm1 := IsRow.cap_le hz3
  have hb : ∀ x ∈ b, 0 ≤ x ∧ x ≤ 255 := fun x hx => bounds_u8 (hwl x hx)
  have hokA := hE.2.2.1.ok
  clear hf1 hr1 hz3 hwl
  have hx := bk_new w #[.int .i64 k, .int .i64 s, .slice A1 n c1, .slice A2 m c2, .int .u64 g, .int .u64 p] 53
  have hB := bl_alloc (Below.refl _ w) (.cells #[.int .i64 k, .int .i64 s, .slice A1 n c1, .slice A2 m c2, .int .u64 g, .int .u64 p] 53)
  have hg1 := fun W => great_any k s g p A1 A2 n m c1 c2 W
  replace hE := Lib.hid hE
  replace hx := Lib.hid hx
  replace hB := Lib.hid hB
  replace hrb := Lib.hid hrb
  by_cases q1 : 30 < n ∨ 30 < m
  · rw [decide_eq_true q1] at hg1
    replace hg1 := Lib.hid hg1
    clear q1 hb hokA
    go_enter Try.func11, Try.ntmps11
    go_wp2_with (first | (go_at_call 27; (with_reducible refine (ealive_any _).mono ?_); rintro e w0 ⟨rfl, hq0⟩; have hB0 := bl_then hB.out hq0; have hx0 := bk_below hq0 hx.out; obtain ⟨x0_0, x0_1, x0_2, x0_3, x0_4, x0_5, x0_f0, x0_f1, x0_f2, x0_f3, x0_f4, x0_f5⟩ := cells6 hx0) | (go_at_call 28; (with_reducible refine (hg1.out _).mono ?_); rintro e w1 ⟨rfl, hq1⟩; have hB1 := bl_then hB0 hq1; have hx1 := bk_below hq1 hx0; obtain ⟨x1_0, x1_1, x1_2, x1_3, x1_4, x1_5, x1_f0, x1_f1, x1_f2, x1_f3, x1_f4, x1_f5⟩ := cells6 hx1))
    go_ret
    exact ⟨rfl, hB1⟩
  rw [decide_eq_false q1] at hg1
  replace hg1 := Lib.hid hg1
  have hn30 : n ≤ 200 := by omega
  have hm30 : m ≤ 200 := by omega
  clear q1
  by_cases c9 : 1500 < b.length
  · have d1 : decide ((1500 : Int) < (b.length : Int)) = true := decide_eq_true (by omega)
    clear hb hokA
    go_enter Try.func11, Try.ntmps11
    go_wp2_with (first | (go_at_call 27; (with_reducible refine (ealive_any _).mono ?_); rintro e w0 ⟨rfl, hq0⟩; have hB0 := bl_then hB.out hq0; have hx0 := bk_below hq0 hx.out; obtain ⟨x0_0, x0_1, x0_2, x0_3, x0_4, x0_5, x0_f0, x0_f1, x0_f2, x0_f3, x0_f4, x0_f5⟩ := cells6 hx0) | (go_at_call 28; (with_reducible refine (hg1.out _).mono ?_); rintro e w1 ⟨rfl, hq1⟩; have hB1 := bl_then hB0 hq1; have hx1 := bk_below hq1 hx0; obtain ⟨x1_0, x1_1, x1_2, x1_3, x1_4, x1_5, x1_f0, x1_f1, x1_f2, x1_f3, x1_f4, x1_f5⟩ := cells6 hx1))
    go_ret
    exact ⟨rfl, hB1⟩
  have d1 : decide ((1500 : Int) < (b.length : Int)) = false := decide_eq_false (by omega)
  have hrt := fun W h => eright_at (k := k) (s := s) (g := g) (p := p) (A1 := A1) (A2 := A2) (c1 := c1) (c2 := c2) (n := n) (m := m) (ps := ps) (ds := ds) (w := W) h hn30 hm30
  have hbt := fun W h => ebytes_at (k := k) (s := s) (g := g) (p := p) (A1 := A1) (A2 := A2) (c1 := c1) (c2 := c2) (n := n) (m := m) (ps := ps) (ds := ds) (w := W) h hn30 hm30
  unfold MakesBytes at hbt
  have he1 := fun A c W (h : ReadsInt W .u8 A b.length b) (h1 : b.length ≤ c) (h2 : c ≤ 9223372036854775807) => eread_any A c b W h h1 h2 hb
  clear hb
  -- what stands at b
  by_cases hev : ∃ (k s g p : Int) (ps : List Pol) (ds : List Int), RightE k s g p ps ds ∧ OkAll ps ∧ b = encL (evNums k s g p ps ds)
  · obtain ⟨k', s', g', p', ps', ds', hR', hok', hbe⟩ := hev
    obtain ⟨hpl, hdl⟩ := right_len hR'
    have he2 := fun A c W h h1 h2 => (he1 A c W h h1 h2).mono fun e w' h => read_one h hR' hok' hbe
    have hb2 := fun A1' A2' c1' c2' W h => ebytes_at (k := k') (s := s') (g := g') (p := p') (A1 := A1') (A2 := A2') (c1 := c1') (c2 := c2') (n := ps'.length) (m := ds'.length) (ps := ps') (ds := ds') (w := W) h (by omega) (by omega)
    unfold MakesBytes at hb2
    rw [bytesV_yes hR', ← hbe] at hb2
    dsimp only at hb2
    have cv := fun W A cc h => cv8 W A cc b h
    obtain ⟨S, hS⟩ : ∃ S, strOfNums b = S := ⟨_, rfl⟩
    rw [hS] at cv
    clear hS
    replace cv := Lib.hid cv
    replace hb2 := Lib.hid hb2
    replace he2 := Lib.hid he2
    replace hok' := Lib.hid hok'
    clear he1 hR' hbe
    by_cases hR : RightE k s g p ps ds
    · have hl700 := evNums_bytes hR hokA
      have hX8 := encL_bytes (evNums k s g p ps ds)
      have hrd := fun A c W (h : ReadsInt W .u8 A (encL (evNums k s g p ps ds)).length (encL (evNums k s g p ps ds))) h1 h2 => (eread_any A c _ W h h1 h2 hX8).mono fun e w' h => read_one h hR hokA rfl
      obtain ⟨hpl1, hdl1⟩ := right_len hR
      rw [bytesV_yes hR] at hbt
      rw [rightE_yes hR] at hrt
      obtain ⟨Xa, hXa⟩ : ∃ X, encL (evNums k s g p ps ds) = X := ⟨_, rfl⟩
      rw [hXa] at hbt hrd hl700
      dsimp only at hbt
      have d7 : decide ((700 : Int) < (Xa.length : Int)) = false := decide_eq_false (by omega)
      replace hbt := Lib.hid hbt
      replace hrt := Lib.hid hrt
      replace hrd := Lib.hid hrd
      replace hokA := Lib.hid hokA
      clear hX8 hXa hl700 hR
      go_enter Try.func11, Try.ntmps11
      go_wp2_with (first | (go_at_call 27; (with_reducible refine (ealive_any _).mono ?_); rintro e w0 ⟨rfl, hq0⟩; have hB0 := bl_then hB.out hq0; have hx0 := bk_below hq0 hx.out; obtain ⟨x0_0, x0_1, x0_2, x0_3, x0_4, x0_5, x0_f0, x0_f1, x0_f2, x0_f3, x0_f4, x0_f5⟩ := cells6 hx0) | (go_at_call 28; (with_reducible refine (hg1.out _).mono ?_); rintro e w1 ⟨rfl, hq1⟩; have hB1 := bl_then hB0 hq1; have hx1 := bk_below hq1 hx0; obtain ⟨x1_0, x1_1, x1_2, x1_3, x1_4, x1_5, x1_f0, x1_f1, x1_f2, x1_f3, x1_f4, x1_f5⟩ := cells6 hx1) | (go_at_call 25; (with_reducible refine (hbt.out _ (hE.out.below hB1)).mono ?_); rintro e w2 ⟨v2, rfl, ho2, hq2⟩; have hB2 := bl_then hB1 hq2; have hx2 := bk_below hq2 hx1; obtain ⟨x2_0, x2_1, x2_2, x2_3, x2_4, x2_5, x2_f0, x2_f1, x2_f2, x2_f3, x2_f4, x2_f5⟩ := cells6 hx2; obtain ⟨Ab, cb, rfl, hrx⟩ := own_reads ho2; have hcb := own_le ho2; have hcbm := own_capm ho2) | (go_at_call 30; (with_reducible refine (hrt.out _ (hE.out.below hB2)).mono ?_); rintro e w3 ⟨rfl, hq3⟩; have hB3 := bl_then hB2 hq3; have hx3 := bk_below hq3 hx2; obtain ⟨x3_0, x3_1, x3_2, x3_3, x3_4, x3_5, x3_f0, x3_f1, x3_f2, x3_f3, x3_f4, x3_f5⟩ := cells6 hx3) | (go_at_call 26; (with_reducible refine (hrd.out Ab cb _ (hrx.below hq3) hcb hcbm).mono ?_); rintro e w4 ⟨Ax, Bx, cx, dx, rfl, ho4, hd4, hq4⟩; have hB4 := bl_then hB3 hq4; have hx4 := bk_alloc (bk_below hq4 hx3) (.cells #[.int .i64 k, .int .i64 s, .slice Ax ps.length cx, .slice Bx ds.length dx, .int .u64 g, .int .u64 p] 53); have hy4 := bk_new w4 #[.int .i64 k, .int .i64 s, .slice Ax ps.length cx, .slice Bx ds.length dx, .int .u64 g, .int .u64 p] 53; obtain ⟨x4_0, x4_1, x4_2, x4_3, x4_4, x4_5, x4_f0, x4_f1, x4_f2, x4_f3, x4_f4, x4_f5⟩ := cells6 hx4; obtain ⟨y4_0, y4_1, y4_2, y4_3, y4_4, y4_5, y4_f0, y4_f1, y4_f2, y4_f3, y4_f4, y4_f5⟩ := cells6 hy4; have E1 := hE.out.below (bl_alloc hB4 (.cells #[.int .i64 k, .int .i64 s, .slice Ax ps.length cx, .slice Bx ds.length dx, .int .u64 g, .int .u64 p] 53)); have E2 := ev_own (pw_own_below ho4 (bl_alloc (Below.refl _ _) (.cells #[.int .i64 k, .int .i64 s, .slice Ax ps.length cx, .slice Bx ds.length dx, .int .u64 g, .int .u64 p] 53))) (pw_own_below hd4 (bl_alloc (Below.refl _ _) (.cells #[.int .i64 k, .int .i64 s, .slice Ax ps.length cx, .slice Bx ds.length dx, .int .u64 g, .int .u64 p] 53))) hokA.out) | (go_at_call 32; (with_reducible refine (esame_at E1 E2 hn30 hm30).mono ?_); rw [same_self]; rintro e w5 ⟨rfl, hq5⟩; have hB5 := bl_then (bl_alloc hB4 (.cells #[.int .i64 k, .int .i64 s, .slice Ax ps.length cx, .slice Bx ds.length dx, .int .u64 g, .int .u64 p] 53)) hq5) | (go_at_call 26; (with_reducible refine (he2.out A3 cap3 _ (hrb.out.below hB5) hcl hcm1).mono ?_); rintro e w6 ⟨Ay, By, cy, dy, rfl, ho6, hd6, hq6⟩; have hB6 := bl_then hB5 hq6; have hy6 := bk_new w6 #[.int .i64 k', .int .i64 s', .slice Ay ps'.length cy, .slice By ds'.length dy, .int .u64 g', .int .u64 p'] 53; obtain ⟨y6_0, y6_1, y6_2, y6_3, y6_4, y6_5, y6_f0, y6_f1, y6_f2, y6_f3, y6_f4, y6_f5⟩ := cells6 hy6; have E3 := ev_own (pw_own_below ho6 (bl_alloc (Below.refl _ _) (.cells #[.int .i64 k', .int .i64 s', .slice Ay ps'.length cy, .slice By ds'.length dy, .int .u64 g', .int .u64 p'] 53))) (pw_own_below hd6 (bl_alloc (Below.refl _ _) (.cells #[.int .i64 k', .int .i64 s', .slice Ay ps'.length cy, .slice By ds'.length dy, .int .u64 g', .int .u64 p'] 53))) hok'.out) | (go_at_call 25; (with_reducible refine (hb2.out _ _ _ _ _ E3).mono ?_); rintro e w7 ⟨v7, rfl, ho7, hq7⟩; obtain ⟨Az, cz, rfl, hrz⟩ := own_reads ho7; have kk1 := cv.out w7 Az cz hrz; have kk2 := cv.out w7 A3 cap3 (hrb.out.below (bl_then (bl_alloc hB6 (.cells #[.int .i64 k', .int .i64 s', .slice Ay ps'.length cy, .slice By ds'.length dy, .int .u64 g', .int .u64 p'] 53)) hq7))))
      go_ret
      exact ⟨rfl, bl_then (bl_alloc hB6 _) hq7⟩
    · rw [bytesV_no hR] at hbt
      rw [rightE_no hR] at hrt
      dsimp only [List.length_nil] at hbt
      replace hbt := Lib.hid hbt
      replace hrt := Lib.hid hrt
      clear hR hokA
      go_enter Try.func11, Try.ntmps11
      go_wp2_with (first | (go_at_call 27; (with_reducible refine (ealive_any _).mono ?_); rintro e w0 ⟨rfl, hq0⟩; have hB0 := bl_then hB.out hq0; have hx0 := bk_below hq0 hx.out; obtain ⟨x0_0, x0_1, x0_2, x0_3, x0_4, x0_5, x0_f0, x0_f1, x0_f2, x0_f3, x0_f4, x0_f5⟩ := cells6 hx0) | (go_at_call 28; (with_reducible refine (hg1.out _).mono ?_); rintro e w1 ⟨rfl, hq1⟩; have hB1 := bl_then hB0 hq1; have hx1 := bk_below hq1 hx0; obtain ⟨x1_0, x1_1, x1_2, x1_3, x1_4, x1_5, x1_f0, x1_f1, x1_f2, x1_f3, x1_f4, x1_f5⟩ := cells6 hx1) | (go_at_call 25; (with_reducible refine (hbt.out _ (hE.out.below hB1)).mono ?_); rintro e w2 ⟨v2, rfl, ho2, hq2⟩; have hB2 := bl_then hB1 hq2; have hx2 := bk_below hq2 hx1; obtain ⟨x2_0, x2_1, x2_2, x2_3, x2_4, x2_5, x2_f0, x2_f1, x2_f2, x2_f3, x2_f4, x2_f5⟩ := cells6 hx2; obtain ⟨Ab, cb, rfl, hrx⟩ := own_reads ho2; have hcb := own_le ho2; have hcbm := own_capm ho2) | (go_at_call 30; (with_reducible refine (hrt.out _ (hE.out.below hB2)).mono ?_); rintro e w3 ⟨rfl, hq3⟩; have hB3 := bl_then hB2 hq3; have hx3 := bk_below hq3 hx2; obtain ⟨x3_0, x3_1, x3_2, x3_3, x3_4, x3_5, x3_f0, x3_f1, x3_f2, x3_f3, x3_f4, x3_f5⟩ := cells6 hx3) | (go_at_call 26; (with_reducible refine (he2.out A3 cap3 _ (hrb.out.below hB3) hcl hcm1).mono ?_); rintro e w6 ⟨Ay, By, cy, dy, rfl, ho6, hd6, hq6⟩; have hB6 := bl_then hB3 hq6; have hy6 := bk_new w6 #[.int .i64 k', .int .i64 s', .slice Ay ps'.length cy, .slice By ds'.length dy, .int .u64 g', .int .u64 p'] 53; obtain ⟨y6_0, y6_1, y6_2, y6_3, y6_4, y6_5, y6_f0, y6_f1, y6_f2, y6_f3, y6_f4, y6_f5⟩ := cells6 hy6; have E3 := ev_own (pw_own_below ho6 (bl_alloc (Below.refl _ _) (.cells #[.int .i64 k', .int .i64 s', .slice Ay ps'.length cy, .slice By ds'.length dy, .int .u64 g', .int .u64 p'] 53))) (pw_own_below hd6 (bl_alloc (Below.refl _ _) (.cells #[.int .i64 k', .int .i64 s', .slice Ay ps'.length cy, .slice By ds'.length dy, .int .u64 g', .int .u64 p'] 53))) hok'.out) | (go_at_call 25; (with_reducible refine (hb2.out _ _ _ _ _ E3).mono ?_); rintro e w7 ⟨v7, rfl, ho7, hq7⟩; obtain ⟨Az, cz, rfl, hrz⟩ := own_reads ho7; have kk1 := cv.out w7 Az cz hrz; have kk2 := cv.out w7 A3 cap3 (hrb.out.below (bl_then (bl_alloc hB6 (.cells #[.int .i64 k', .int .i64 s', .slice Ay ps'.length cy, .slice By ds'.length dy, .int .u64 g', .int .u64 p'] 53)) hq7))))
      go_ret
      exact ⟨rfl, bl_then (bl_alloc hB6 _) hq7⟩
  · have hno : NoBytes b := fun k s g p ps ds hR ho e => hev ⟨k, s, g, p, ps, ds, hR, ho, e⟩
    have he2 := fun A c W h h1 h2 => (he1 A c W h h1 h2).mono fun e w' h => read_none h hno
    replace he2 := Lib.hid he2
    clear he1 hev hno
    by_cases hR : RightE k s g p ps ds
    · have hl700 := evNums_bytes hR hokA
      have hX8 := encL_bytes (evNums k s g p ps ds)
      have hrd := fun A c W (h : ReadsInt W .u8 A (encL (evNums k s g p ps ds)).length (encL (evNums k s g p ps ds))) h1 h2 => (eread_any A c _ W h h1 h2 hX8).mono fun e w' h => read_one h hR hokA rfl
      obtain ⟨hpl1, hdl1⟩ := right_len hR
      rw [bytesV_yes hR] at hbt
      rw [rightE_yes hR] at hrt
      obtain ⟨Xa, hXa⟩ : ∃ X, encL (evNums k s g p ps ds) = X := ⟨_, rfl⟩
      rw [hXa] at hbt hrd hl700
      dsimp only at hbt
      have d7 : decide ((700 : Int) < (Xa.length : Int)) = false := decide_eq_false (by omega)
      replace hbt := Lib.hid hbt
      replace hrt := Lib.hid hrt
      replace hrd := Lib.hid hrd
      replace hokA := Lib.hid hokA
      clear hX8 hXa hl700 hR
      go_enter Try.func11, Try.ntmps11
      go_wp2_with (first | (go_at_call 27; (with_reducible refine (ealive_any _).mono ?_); rintro e w0 ⟨rfl, hq0⟩; have hB0 := bl_then hB.out hq0; have hx0 := bk_below hq0 hx.out; obtain ⟨x0_0, x0_1, x0_2, x0_3, x0_4, x0_5, x0_f0, x0_f1, x0_f2, x0_f3, x0_f4, x0_f5⟩ := cells6 hx0) | (go_at_call 28; (with_reducible refine (hg1.out _).mono ?_); rintro e w1 ⟨rfl, hq1⟩; have hB1 := bl_then hB0 hq1; have hx1 := bk_below hq1 hx0; obtain ⟨x1_0, x1_1, x1_2, x1_3, x1_4, x1_5, x1_f0, x1_f1, x1_f2, x1_f3, x1_f4, x1_f5⟩ := cells6 hx1) | (go_at_call 25; (with_reducible refine (hbt.out _ (hE.out.below hB1)).mono ?_); rintro e w2 ⟨v2, rfl, ho2, hq2⟩; have hB2 := bl_then hB1 hq2; have hx2 := bk_below hq2 hx1; obtain ⟨x2_0, x2_1, x2_2, x2_3, x2_4, x2_5, x2_f0, x2_f1, x2_f2, x2_f3, x2_f4, x2_f5⟩ := cells6 hx2; obtain ⟨Ab, cb, rfl, hrx⟩ := own_reads ho2; have hcb := own_le ho2; have hcbm := own_capm ho2) | (go_at_call 30; (with_reducible refine (hrt.out _ (hE.out.below hB2)).mono ?_); rintro e w3 ⟨rfl, hq3⟩; have hB3 := bl_then hB2 hq3; have hx3 := bk_below hq3 hx2; obtain ⟨x3_0, x3_1, x3_2, x3_3, x3_4, x3_5, x3_f0, x3_f1, x3_f2, x3_f3, x3_f4, x3_f5⟩ := cells6 hx3) | (go_at_call 26; (with_reducible refine (hrd.out Ab cb _ (hrx.below hq3) hcb hcbm).mono ?_); rintro e w4 ⟨Ax, Bx, cx, dx, rfl, ho4, hd4, hq4⟩; have hB4 := bl_then hB3 hq4; have hx4 := bk_alloc (bk_below hq4 hx3) (.cells #[.int .i64 k, .int .i64 s, .slice Ax ps.length cx, .slice Bx ds.length dx, .int .u64 g, .int .u64 p] 53); have hy4 := bk_new w4 #[.int .i64 k, .int .i64 s, .slice Ax ps.length cx, .slice Bx ds.length dx, .int .u64 g, .int .u64 p] 53; obtain ⟨x4_0, x4_1, x4_2, x4_3, x4_4, x4_5, x4_f0, x4_f1, x4_f2, x4_f3, x4_f4, x4_f5⟩ := cells6 hx4; obtain ⟨y4_0, y4_1, y4_2, y4_3, y4_4, y4_5, y4_f0, y4_f1, y4_f2, y4_f3, y4_f4, y4_f5⟩ := cells6 hy4; have E1 := hE.out.below (bl_alloc hB4 (.cells #[.int .i64 k, .int .i64 s, .slice Ax ps.length cx, .slice Bx ds.length dx, .int .u64 g, .int .u64 p] 53)); have E2 := ev_own (pw_own_below ho4 (bl_alloc (Below.refl _ _) (.cells #[.int .i64 k, .int .i64 s, .slice Ax ps.length cx, .slice Bx ds.length dx, .int .u64 g, .int .u64 p] 53))) (pw_own_below hd4 (bl_alloc (Below.refl _ _) (.cells #[.int .i64 k, .int .i64 s, .slice Ax ps.length cx, .slice Bx ds.length dx, .int .u64 g, .int .u64 p] 53))) hokA.out) | (go_at_call 32; (with_reducible refine (esame_at E1 E2 hn30 hm30).mono ?_); rw [same_self]; rintro e w5 ⟨rfl, hq5⟩; have hB5 := bl_then (bl_alloc hB4 (.cells #[.int .i64 k, .int .i64 s, .slice Ax ps.length cx, .slice Bx ds.length dx, .int .u64 g, .int .u64 p] 53)) hq5) | (go_at_call 26; (with_reducible refine (he2.out A3 cap3 _ (hrb.out.below hB5) hcl hcm1).mono ?_); rintro e w6 ⟨rfl, hq6⟩; have hB6 := bl_then hB5 hq6; have hy6 := bk_new w6 #[.int .i64 0, .int .i64 0, .slice none 0 0, .slice none 0 0, .int .u64 0, .int .u64 0] 53; obtain ⟨y6_0, y6_1, y6_2, y6_3, y6_4, y6_5, y6_f0, y6_f1, y6_f2, y6_f3, y6_f4, y6_f5⟩ := cells6 hy6) | (go_at_call 32; (with_reducible refine (esame_at (ev_none _) (ev_none _) (by omega) (by omega)).mono ?_); rw [same_self]; rintro e w7 ⟨rfl, hq7⟩))
      go_ret
      exact ⟨rfl, bl_then (bl_alloc hB6 _) hq7⟩
    · rw [bytesV_no hR] at hbt
      rw [rightE_no hR] at hrt
      dsimp only [List.length_nil] at hbt
      replace hbt := Lib.hid hbt
      replace hrt := Lib.hid hrt
      clear hR hokA
      go_enter Try.func11, Try.ntmps11
      go_wp2_with (first | (go_at_call 27; (with_reducible refine (ealive_any _).mono ?_); rintro e w0 ⟨rfl, hq0⟩; have hB0 := bl_then hB.out hq0; have hx0 := bk_below hq0 hx.out; obtain ⟨x0_0, x0_1, x0_2, x0_3, x0_4, x0_5, x0_f0, x0_f1, x0_f2, x0_f3, x0_f4, x0_f5⟩ := cells6 hx0) | (go_at_call 28; (with_reducible refine (hg1.out _).mono ?_); rintro e w1 ⟨rfl, hq1⟩; have hB1 := bl_then hB0 hq1; have hx1 := bk_below hq1 hx0; obtain ⟨x1_0, x1_1, x1_2, x1_3, x1_4, x1_5, x1_f0, x1_f1, x1_f2, x1_f3, x1_f4, x1_f5⟩ := cells6 hx1) | (go_at_call 25; (with_reducible refine (hbt.out _ (hE.out.below hB1)).mono ?_); rintro e w2 ⟨v2, rfl, ho2, hq2⟩; have hB2 := bl_then hB1 hq2; have hx2 := bk_below hq2 hx1; obtain ⟨x2_0, x2_1, x2_2, x2_3, x2_4, x2_5, x2_f0, x2_f1, x2_f2, x2_f3, x2_f4, x2_f5⟩ := cells6 hx2; obtain ⟨Ab, cb, rfl, hrx⟩ := own_reads ho2; have hcb := own_le ho2; have hcbm := own_capm ho2) | (go_at_call 30; (with_reducible refine (hrt.out _ (hE.out.below hB2)).mono ?_); rintro e w3 ⟨rfl, hq3⟩; have hB3 := bl_then hB2 hq3; have hx3 := bk_below hq3 hx2; obtain ⟨x3_0, x3_1, x3_2, x3_3, x3_4, x3_5, x3_f0, x3_f1, x3_f2, x3_f3, x3_f4, x3_f5⟩ := cells6 hx3) | (go_at_call 26; (with_reducible refine (he2.out A3 cap3 _ (hrb.out.below hB3) hcl hcm1).mono ?_); rintro e w6 ⟨rfl, hq6⟩; have hB6 := bl_then hB3 hq6; have hy6 := bk_new w6 #[.int .i64 0, .int .i64 0, .slice none 0 0, .slice none 0 0, .int .u64 0, .int .u64 0] 53; obtain ⟨y6_0, y6_1, y6_2, y6_3, y6_4, y6_5, y6_f0, y6_f1, y6_f2, y6_f3, y6_f4, y6_f5⟩ := cells6 hy6) | (go_at_call 32; (with_reducible refine (esame_at (ev_none _) (ev_none _) (by omega) (by omega)).mono ?_); rw [same_self]; rintro e w7 ⟨rfl, hq7⟩))
      go_ret
      exact ⟨rfl, bl_then (bl_alloc hB6 _) hq7⟩
end Go.Proofs.Ytfcekicjlgdmaaa
