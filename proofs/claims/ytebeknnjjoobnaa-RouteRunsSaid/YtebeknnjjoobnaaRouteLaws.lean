/- The walks of layer 6's laws: RouteNames, RouteLongest. -/
import Derived.Test.YtebeknnjjoobnaaRoute2
set_option linter.unusedVariables false
set_option linter.unusedSimpArgs false
namespace Go.Proofs.Ytebeknnjjoobnaa
open Go.RowKit
attribute [local go_sem] max2_int min2_int max_two min_two
attribute [local go_sem ↓] eql_nt neq_nt eql_ad net_addr net_bits

theorem alive_r1 : setL [] (10, 0, 0, 0, 8) 1 = [((10, 0, 0, 0, 8), 1)] ∧ setE [] (10, 0, 0, 0, 8) 1 = 0 := by decide +kernel
theorem alive_r2 : setL [((10, 0, 0, 0, 8), 1)] (10, 1, 0, 0, 16) 2 = [((10, 0, 0, 0, 8), 1), ((10, 1, 0, 0, 16), 2)] ∧ setE [((10, 0, 0, 0, 8), 1)] (10, 1, 0, 0, 16) 2 = 0 := by decide +kernel
theorem alive_f1 : findL [((10, 0, 0, 0, 8), 1), ((10, 1, 0, 0, 16), 2)] 10 1 2 3 = some ((10, 1, 0, 0, 16), 2) := by decide +kernel
theorem alive_f2 : findL [((10, 0, 0, 0, 8), 1), ((10, 1, 0, 0, 16), 2)] 10 2 2 3 = some ((10, 0, 0, 0, 8), 1) := by decide +kernel
theorem alive_f3 : findL [((10, 0, 0, 0, 8), 1), ((10, 1, 0, 0, 16), 2)] 11 0 0 0 = none := by decide +kernel
theorem set_at {w : World} {g t : Nat} {l l' : Routes} {a b c d n who e : Int} (h : Tb w g t l) (hok : NtOk a b c d n) (hr : setL l (a, b, c, d, n) who = l' ∧ setE l (a, b, c, d, n) who = e) :
    Calls Try.prog 9 #[.pointer (some ⟨g, 0, none⟩), .agg #[.int .u8 a, .int .u8 b, .int .u8 c, .int .u8 d, .int .i64 n], .int .i64 who] w fun en w' => en = .returned (.int .i64 e) ∧ Tb w' g t l' ∧ Kept (· = t) w w' :=
  (tset_any h a b c d n who hok).mono fun en w' ⟨h1, h2, h3⟩ => ⟨by rw [h1, hr.2], by rw [← hr.1]; exact h2, h3⟩
theorem find_at {w : World} {g t : Nat} {l : Routes} {p q r s a b c d n who : Int} (h : Tb w g t l) (hp : AdOk p q r s) (hf : findL l p q r s = some ((a, b, c, d, n), who)) :
    Calls Try.prog 13 #[.pointer (some ⟨g, 0, none⟩), .agg #[.int .u8 p, .int .u8 q, .int .u8 r, .int .u8 s]] w fun en w' => en = .returned (.tuple #[.agg #[.int .u8 a, .int .u8 b, .int .u8 c, .int .u8 d, .int .i64 n, .int .i64 who], .bool true]) ∧ Below w.heap.size w w' :=
  (tfind_any h p q r s hp).mono fun en w' ⟨h1, h2⟩ => ⟨by rw [h1, hf]; rfl, h2⟩
theorem find_no {w : World} {g t : Nat} {l : Routes} {p q r s : Int} (h : Tb w g t l) (hp : AdOk p q r s) (hf : findL l p q r s = none) :
    Calls Try.prog 13 #[.pointer (some ⟨g, 0, none⟩), .agg #[.int .u8 p, .int .u8 q, .int .u8 r, .int .u8 s]] w fun en w' => en = .returned (.tuple #[.agg #[.int .u8 0, .int .u8 0, .int .u8 0, .int .u8 0, .int .i64 0, .int .i64 0], .bool false]) ∧ Below w.heap.size w w' :=
  (tfind_any h p q r s hp).mono fun en w' ⟨h1, h2⟩ => ⟨by rw [h1, hf]; rfl, h2⟩

set_option maxHeartbeats 1600000 in
theorem routeAlive_any (w : World) : Calls Try.prog 10 #[] w fun e w' => e = .returned (.bool true) ∧ Below w.heap.size w w' := by
  have ok1 : NtOk 10 0 0 0 8 := by unfold NtOk AdOk; omega
  have ok2 : NtOk 10 1 0 0 16 := by unfold NtOk AdOk; omega
  have ok3 : AdOk 10 1 2 3 := by unfold AdOk; omega
  have ok4 : AdOk 10 2 2 3 := by unfold AdOk; omega
  have ok5 : AdOk 11 0 0 0 := by unfold AdOk; omega
  go_enter Try.func10, Try.ntmps10
  go_wp2_with (fail)
  refine (tnew_any _).mono ?_; rintro e w1 ⟨g, t, rfl, k1, hg, ht, hB1⟩
  go_wp2_with (fail)
  refine (set_at k1 ok1 alive_r1).mono ?_; rintro e w2 ⟨rfl, k2, hK2⟩
  have hBa := Kept.bl hB1 hK2 (fun i e => e ▸ ht)
  go_wp2_with (fail)
  refine (set_at k2 ok2 alive_r2).mono ?_; rintro e w3 ⟨rfl, k3, hK3⟩
  have hBb := Kept.bl hBa hK3 (fun i e => e ▸ ht)
  clear hK2 hK3 k1 k2 hB1 hBa
  go_wp2_with (fail)
  refine (find_at k3 ok3 alive_f1).mono ?_; rintro e w4 ⟨rfl, hB4⟩
  have x4 := bk_new w4 #[.int .u8 10, .int .u8 1, .int .u8 0, .int .u8 0, .int .i64 16, .int .i64 2] 35
  have k4 := (k3.below hB4).alloc (.cells #[.int .u8 10, .int .u8 1, .int .u8 0, .int .u8 0, .int .i64 16, .int .i64 2] 35)
  go_wp2_with (fail)
  refine (find_at k4 ok4 alive_f2).mono ?_; rintro e w5 ⟨rfl, hB5⟩
  have x5 := bk_new w5 #[.int .u8 10, .int .u8 0, .int .u8 0, .int .u8 0, .int .i64 8, .int .i64 1] 35
  have y5 := bk_alloc (bk_below hB5 x4) (.cells #[.int .u8 10, .int .u8 0, .int .u8 0, .int .u8 0, .int .i64 8, .int .i64 1] 35)
  have k5 := (k4.below hB5).alloc (.cells #[.int .u8 10, .int .u8 0, .int .u8 0, .int .u8 0, .int .i64 8, .int .i64 1] 35)
  go_wp2_with (fail)
  refine (find_no k5 ok5 alive_f3).mono ?_; rintro e w6 ⟨rfl, hB6⟩
  have x6 := bk_alloc (bk_below hB6 x5) (.cells #[.int .u8 0, .int .u8 0, .int .u8 0, .int .u8 0, .int .i64 0, .int .i64 0] 35)
  have y6 := bk_alloc (bk_below hB6 y5) (.cells #[.int .u8 0, .int .u8 0, .int .u8 0, .int .u8 0, .int .i64 0, .int .i64 0] 35)
  have k6 := (k5.below hB6).alloc (.cells #[.int .u8 0, .int .u8 0, .int .u8 0, .int .u8 0, .int .i64 0, .int .i64 0] 35)
  have hBc := bl_alloc (bl_then (bl_alloc (bl_then (bl_alloc (bl_then hBb hB4) (.cells #[.int .u8 10, .int .u8 1, .int .u8 0, .int .u8 0, .int .i64 16, .int .i64 2] 35)) hB5) (.cells #[.int .u8 10, .int .u8 0, .int .u8 0, .int .u8 0, .int .i64 8, .int .i64 1] 35)) hB6) (.cells #[.int .u8 0, .int .u8 0, .int .u8 0, .int .u8 0, .int .i64 0, .int .i64 0] 35)
  obtain ⟨_, _, _, _, _, x65, _⟩ := hold6 x6
  obtain ⟨_, _, _, _, _, y65, _⟩ := hold6 y6
  replace k6 := Lib.hid k6
  clear x6 y6 x5 y5 x4 k3 k4 k5
  go_wp2_with (go_at_call 11; (with_reducible refine (tlen_any k6.out).mono ?_); rintro e w' ⟨rfl, rfl⟩)
  go_ret
  exact ⟨rfl, hBc⟩
end Go.Proofs.Ytebeknnjjoobnaa
