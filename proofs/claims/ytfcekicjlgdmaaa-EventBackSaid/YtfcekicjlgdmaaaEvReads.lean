/- The walk of EventReads. -/
import Derived.Test.YtfcekicjlgdmaaaEvH
set_option linter.unusedVariables false
set_option linter.unusedSimpArgs false
set_option maxRecDepth 100000
namespace Go.Proofs.Ytfcekicjlgdmaaa
open Go.RowKit Go.Shelf Go.Proofs.YtfcekicjlgdmaaaW.PrintWords
attribute [local go_sem] max2_int min2_int max_two min_two
theorem right_len {k s g p : Int} {ps : List Pol} {ds : List Int} (h : RightE k s g p ps ds) : ps.length ≤ 8 ∧ ds.length ≤ 8 := by
  rcases h with ⟨_, _, _, _, h5, h6, _⟩ | ⟨_, _, _, _, rfl, rfl⟩ | ⟨_, _, _, _, rfl, rfl⟩
  · exact ⟨h5.1, (drops_mem h6).1⟩
  · simp
  · simp
theorem same_self (k s g p : Int) (ps : List Pol) (ds : List Int) : sameE k s g p k s g p ps ps ds ds = true := by unfold sameE; simp
set_option maxHeartbeats 6400000 in
theorem eventReads_walk (A1 : Option Addr) (len1 cap1 : Nat) (zs1 : List Int) {w : World} (hz1 : IsRow .u8 w A1 len1 cap1 zs1) :
    Calls Try.prog 10 #[.slice A1 len1 cap1] w fun e w' => e = .returned (.bool true) ∧ Below w.heap.size w w' := by
  obtain ⟨b, rfl, hrb, hml, hwl, hcl⟩ := ReadsInt.ofRowC hz1
  have hcm1 := IsRow.cap_le hz1
  have hb : ∀ x ∈ b, 0 ≤ x ∧ x ≤ 255 := fun x hx => bounds_u8 (hwl x hx)
  replace hrb := Lib.hid hrb
  clear hz1 hwl
  by_cases c1 : 1500 < b.length
  · have d1 : decide ((1500 : Int) < (b.length : Int)) = true := decide_eq_true (by omega)
    clear hb
    go_enter Try.func10, Try.ntmps10
    go_wp2_with (go_at_call 27; refine (ealive_any _).mono ?_; rintro e w1 ⟨rfl, hB1⟩)
    go_ret
    exact ⟨rfl, hB1⟩
  have d1 : decide ((1500 : Int) < (b.length : Int)) = false := decide_eq_false (by omega)
  have he1 := fun A c W (h : ReadsInt W .u8 A b.length b) (h1 : b.length ≤ c) (h2 : c ≤ 9223372036854775807) => eread_any A c b W h h1 h2 hb
  have he2 := fun A c W (h : ReadsInt W .u8 A b.length b) (h1 : b.length ≤ c) (h2 : c ≤ 9223372036854775807) => rread_any A c b W h h1 h2 hb
  clear hb
  by_cases hev : ∃ (k s g p : Int) (ps : List Pol) (ds : List Int), RightE k s g p ps ds ∧ OkAll ps ∧ b = encL (evNums k s g p ps ds)
  · obtain ⟨k, s, g, p, ps, ds, hR, hok, hbe⟩ := hev
    obtain ⟨hpl, hdl⟩ := right_len hR
    have he1' := fun A c W h h1 h2 => (he1 A c W h h1 h2).mono fun e w' h => read_one h hR hok hbe
    have he2' := fun A c W h h1 h2 => (he2 A c W h h1 h2).mono fun e w' h => read_one h hR hok hbe
    replace he1' := Lib.hid he1'
    replace he2' := Lib.hid he2'
    replace hok := Lib.hid hok
    clear he1 he2 hR hbe
    go_enter Try.func10, Try.ntmps10
    go_wp2_with (first | (go_at_call 27; refine (ealive_any _).mono ?_; rintro e w1 ⟨rfl, hB1⟩) | (at_builtin; refine print_append_row (w0 := w) w.heap.size rfl (.tmp 13) (.tmp 14) 48 5 .u8 1 rfl Try.underlying48 info_u8 (by decide) _ [] b A1 _ cap1 rfl rfl (empty_own w1 w.heap.size 5 .u8 hB1.size) (hrb.out.below (bl_alloc hB1 _)) (bl_alloc hB1 _) (bl_alloc hB1 _).size (by simp; omega) ?_; rw [List.nil_append]; intro v2 w2 ho2 hB2 hg2 hat2; obtain ⟨A3, c3, rfl, hr3⟩ := own_reads ho2; have hc3 := own_le ho2; have hcm3 := own_capm ho2) | (go_at_call 26; (with_reducible refine (he1'.out A3 c3 _ hr3 hc3 hcm3).mono ?_); rintro e w3 ⟨Ax, Bx, cx, dx, rfl, ho3, hd3, hq3⟩; have hB3 := bl_then hB2 hq3) | (go_at_call 34; (with_reducible refine (he2'.out A1 cap1 _ (hrb.out.below (bl_alloc hB3 _)) hcl hcm1).mono ?_); rintro e w4 ⟨Ay, By, cy, dy, rfl, ho4, hd4, hq4⟩; have hB4 := bl_then (bl_alloc hB3 (.cells #[.int .i64 k, .int .i64 s, .slice Ax ps.length cx, .slice Bx ds.length dx, .int .u64 g, .int .u64 p] 53)) hq4; have hx4 := bk_alloc (bk_below hq4 (bk_new w3 #[.int .i64 k, .int .i64 s, .slice Ax ps.length cx, .slice Bx ds.length dx, .int .u64 g, .int .u64 p] 53)) (.cells #[.int .i64 k, .int .i64 s, .slice Ay ps.length cy, .slice By ds.length dy, .int .u64 g, .int .u64 p] 53); have hy4 := bk_new w4 #[.int .i64 k, .int .i64 s, .slice Ay ps.length cy, .slice By ds.length dy, .int .u64 g, .int .u64 p] 53; obtain ⟨x0, x1, x2, x3, x4, x5, xf0, xf1, xf2, xf3, xf4, xf5⟩ := cells6 hx4; obtain ⟨y0, y1, y2, y3, y4, y5, yf0, yf1, yf2, yf3, yf4, yf5⟩ := cells6 hy4; have E1 := (ev_own (pw_own_below ho3 (bl_alloc (Below.refl _ _) (.cells #[.int .i64 k, .int .i64 s, .slice Ax ps.length cx, .slice Bx ds.length dx, .int .u64 g, .int .u64 p] 53))) (pw_own_below hd3 (bl_alloc (Below.refl _ _) (.cells #[.int .i64 k, .int .i64 s, .slice Ax ps.length cx, .slice Bx ds.length dx, .int .u64 g, .int .u64 p] 53))) hok.out).below (bl_alloc hq4 (.cells #[.int .i64 k, .int .i64 s, .slice Ay ps.length cy, .slice By ds.length dy, .int .u64 g, .int .u64 p] 53)); have E2 := ev_own (pw_own_below ho4 (bl_alloc (Below.refl _ _) (.cells #[.int .i64 k, .int .i64 s, .slice Ay ps.length cy, .slice By ds.length dy, .int .u64 g, .int .u64 p] 53))) (pw_own_below hd4 (bl_alloc (Below.refl _ _) (.cells #[.int .i64 k, .int .i64 s, .slice Ay ps.length cy, .slice By ds.length dy, .int .u64 g, .int .u64 p] 53))) hok.out) | (go_at_call 33; (with_reducible refine (resame_at E1 E2 (by omega) (by omega)).mono ?_); rw [same_self]; rintro e w5 ⟨rfl, hq5⟩))
    go_ret
    exact ⟨rfl, bl_then (bl_alloc hB4 _) hq5⟩
  · have hno : NoBytes b := fun k s g p ps ds hR ho e => hev ⟨k, s, g, p, ps, ds, hR, ho, e⟩
    have he1' := fun A c W h h1 h2 => (he1 A c W h h1 h2).mono fun e w' h => read_none h hno
    have he2' := fun A c W h h1 h2 => (he2 A c W h h1 h2).mono fun e w' h => read_none h hno
    replace he1' := Lib.hid he1'
    replace he2' := Lib.hid he2'
    clear he1 he2 hev hno
    go_enter Try.func10, Try.ntmps10
    go_wp2_with (first | (go_at_call 27; refine (ealive_any _).mono ?_; rintro e w1 ⟨rfl, hB1⟩) | (at_builtin; refine print_append_row (w0 := w) w.heap.size rfl (.tmp 13) (.tmp 14) 48 5 .u8 1 rfl Try.underlying48 info_u8 (by decide) _ [] b A1 _ cap1 rfl rfl (empty_own w1 w.heap.size 5 .u8 hB1.size) (hrb.out.below (bl_alloc hB1 _)) (bl_alloc hB1 _) (bl_alloc hB1 _).size (by simp; omega) ?_; rw [List.nil_append]; intro v2 w2 ho2 hB2 hg2 hat2; obtain ⟨A3, c3, rfl, hr3⟩ := own_reads ho2; have hc3 := own_le ho2; have hcm3 := own_capm ho2) | (go_at_call 26; (with_reducible refine (he1'.out A3 c3 _ hr3 hc3 hcm3).mono ?_); rintro e w3 ⟨rfl, hq3⟩; have hB3 := bl_then hB2 hq3) | (go_at_call 34; (with_reducible refine (he2'.out A1 cap1 _ (hrb.out.below (bl_alloc hB3 _)) hcl hcm1).mono ?_); rintro e w4 ⟨rfl, hq4⟩; have hB4 := bl_then (bl_alloc hB3 (.cells #[.int .i64 0, .int .i64 0, .slice none 0 0, .slice none 0 0, .int .u64 0, .int .u64 0] 53)) hq4; have hx4 := bk_alloc (bk_below hq4 (bk_new w3 #[.int .i64 0, .int .i64 0, .slice none 0 0, .slice none 0 0, .int .u64 0, .int .u64 0] 53)) (.cells #[.int .i64 0, .int .i64 0, .slice none 0 0, .slice none 0 0, .int .u64 0, .int .u64 0] 53); have hy4 := bk_new w4 #[.int .i64 0, .int .i64 0, .slice none 0 0, .slice none 0 0, .int .u64 0, .int .u64 0] 53; obtain ⟨x0, x1, x2, x3, x4, x5, xf0, xf1, xf2, xf3, xf4, xf5⟩ := cells6 hx4; obtain ⟨y0, y1, y2, y3, y4, y5, yf0, yf1, yf2, yf3, yf4, yf5⟩ := cells6 hy4) | (go_at_call 33; (with_reducible refine (resame_at (ev_none _) (ev_none _) (by omega) (by omega)).mono ?_); rw [same_self]; rintro e w5 ⟨rfl, hq5⟩))
    go_ret
    exact ⟨rfl, bl_then (bl_alloc hB4 _) hq5⟩
end Go.Proofs.Ytfcekicjlgdmaaa
