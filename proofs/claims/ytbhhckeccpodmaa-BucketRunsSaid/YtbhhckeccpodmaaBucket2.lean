/- Contracts of layer 17's bucket: Wait, Set; the laws' example; BucketEnds. -/
import Derived.Test.YtbhhckeccpodmaaBucket
set_option linter.unusedVariables false
set_option linter.unusedSimpArgs false
namespace Go.Proofs.Ytbhhckeccpodmaa
open Go.RowKit
attribute [local go_sem] max2_int min2_int max_two min_two

theorem bwait_yes {g : Nat} {r h l : Int} {w : World} (k : Bt w g r h l) (n : Int) (c : n ≤ l) :
    Calls Try.prog 25 #[.pointer (some ⟨g, 0, none⟩), .int .u64 n] w fun e w' => e = .returned (.tuple #[.int .u64 0, .bool true]) ∧ w = w' := by
  have hc : decide (n ≤ l) = true := decide_eq_true c
  go_enter Try.func25, Try.ntmps25
  go_wp2_with (go_at_call 34; (with_reducible refine (bhas_any k n).mono ?_); rintro e w' ⟨rfl, rfl⟩)
  go_ret2
  exact ⟨rfl, rfl⟩

theorem bwait_never {g : Nat} {r h l : Int} {w : World} (k : Bt w g r h l) (n : Int) (c : ¬ n ≤ l) (b : h < n ∨ r = 0) :
    Calls Try.prog 25 #[.pointer (some ⟨g, 0, none⟩), .int .u64 n] w fun e w' => e = .returned (.tuple #[.int .u64 0, .bool false]) ∧ w = w' := by
  obtain ⟨c0, c1, c2, f0, f1, f2⟩ := bt_cells k
  have hc : decide (n ≤ l) = false := decide_eq_false c
  by_cases b1 : h < n
  · have hb : decide (h < n) = true := decide_eq_true b1
    go_enter Try.func25, Try.ntmps25
    go_wp2_with (go_at_call 34; (with_reducible refine (bhas_any k n).mono ?_); rintro e w' ⟨rfl, rfl⟩)
    go_ret2
    exact ⟨rfl, rfl⟩
  · have hb : decide (h < n) = false := decide_eq_false b1
    obtain rfl : r = 0 := by omega
    go_enter Try.func25, Try.ntmps25
    go_wp2_with (go_at_call 34; (with_reducible refine (bhas_any k n).mono ?_); rintro e w' ⟨rfl, rfl⟩)
    go_ret2
    exact ⟨rfl, rfl⟩

theorem bwait_some {g : Nat} {r h l : Int} {w : World} (k : Bt w g r h l) (n : Int) (hr : 0 < r) (hr' : r ≤ 18446744073709551615) (hl : 0 ≤ l) (hn' : n ≤ 18446744073709551615) (c : ¬ n ≤ l) (b : ¬ h < n) :
    Calls Try.prog 25 #[.pointer (some ⟨g, 0, none⟩), .int .u64 n] w fun e w' => e = .returned (.tuple #[.int .u64 ((n - l - 1) / r + 1), .bool true]) ∧ w = w' := by
  obtain ⟨c0, c1, c2, f0, f1, f2⟩ := bt_cells k
  have hc : decide (n ≤ l) = false := decide_eq_false c
  have hb : decide (h < n) = false := decide_eq_false b
  have hr0 : decide (r = 0) = false := decide_eq_false (by omega)
  have hr1 : ¬ r = 0 := by omega
  have hq1 : 0 ≤ (n - l - 1) / r := Int.ediv_nonneg (by omega) (by omega)
  have hq2 : (n - l - 1) / r ≤ n - l - 1 := Int.ediv_le_self _ (by omega)
  go_enter Try.func25, Try.ntmps25
  go_wp2_with (go_at_call 34; (with_reducible refine (bhas_any k n).mono ?_); rintro e w' ⟨rfl, rfl⟩)
  go_ret2
  exact ⟨rfl, rfl⟩

/-- How many ticks a wait tells, and whether it ever ends. -/
def waitN (r h l n : Int) : Int := if n ≤ l then 0 else if h < n ∨ r = 0 then 0 else (n - l - 1) / r + 1
def waitB (r h l n : Int) : Bool := if n ≤ l then true else if h < n ∨ r = 0 then false else true
theorem bwait_any {g : Nat} {r h l : Int} {w : World} (k : Bt w g r h l) (n : Int) (hr : 0 ≤ r) (hr' : r ≤ 18446744073709551615) (hl : 0 ≤ l) (hn' : n ≤ 18446744073709551615) :
    Calls Try.prog 25 #[.pointer (some ⟨g, 0, none⟩), .int .u64 n] w fun e w' => e = .returned (.tuple #[.int .u64 (waitN r h l n), .bool (waitB r h l n)]) ∧ w = w' := by
  unfold waitN waitB
  by_cases c : n ≤ l
  · rw [if_pos c, if_pos c]; exact bwait_yes k n c
  · rw [if_neg c, if_neg c]
    by_cases b : h < n ∨ r = 0
    · rw [if_pos b, if_pos b]; exact bwait_never k n c b
    · rw [if_neg b, if_neg b]; exact bwait_some k n (by omega) hr' hl hn' c (by omega)

/-- Of what was there only block g may have turned. -/
def Turn (g : Nat) (w w' : World) : Prop := Below g w w' ∧ ∀ k, k ≠ g → k < w.heap.size → w'.heap[k]? = w.heap[k]?
theorem Turn.refl (g : Nat) (w : World) : Turn g w w := ⟨Below.refl _ _, fun _ _ _ => rfl⟩
theorem Turn.drew {g : Nat} {w w' : World} (h : Turn g w w') : Turn g w w'.drew := ⟨h.1.drew, h.2⟩
theorem Turn.set {g : Nat} {w w' : World} (h : Turn g w w') (i : Nat) (u : Value) : Turn g w (w'.setCell ⟨g, i, none⟩ u) :=
  ⟨h.1.setCell (Nat.le_refl _) u, fun k hk hs => (Below.heap_setCell w' ⟨g, i, none⟩ u k hk).trans (h.2 k hk hs)⟩
theorem Turn.bl {g : Nat} {w w1 w2 : World} (h : Below w.heap.size w w1) (hg : w.heap.size ≤ g) (k : Turn g w1 w2) : Below w.heap.size w w2 := h.trans (k.1.mono hg)
theorem bt_turn {g g' : Nat} {r h l : Int} {w w' : World} (k : Bt w g r h l) (hne : g ≠ g') (t : Turn g' w w') : Bt w' g r h l := (t.2 g hne (bk_lt k)).trans k
theorem bt_below {g : Nat} {r h l : Int} {w w' : World} (k : Bt w g r h l) (t : Below w.heap.size w w') : Bt w' g r h l := bk_below t k

theorem bnew_at (r h : Int) (w : World) : Calls Try.prog 24 #[.int .u64 r, .int .u64 h] w fun e w' => ∃ g, e = .returned (.pointer (some ⟨g, 0, none⟩)) ∧ Bt w' g r h h ∧ w.heap.size = g ∧ Below w.heap.size w w' :=
  (bnew_any r h w).mono fun e w' k => ⟨w.heap.size, k.1, by rw [k.2]; exact bk_new _ _ _, rfl, by rw [k.2]; exact bl_alloc (Below.refl _ _) _⟩

/-- Take, either way. -/
def takeL (l n : Int) : Int := if n ≤ l then l - n else l
theorem btake_at {g : Nat} {r h l : Int} {w : World} (k : Bt w g r h l) (n : Int) (hl' : l ≤ 18446744073709551615) (hn : 0 ≤ n) :
    Calls Try.prog 26 #[.pointer (some ⟨g, 0, none⟩), .int .u64 n] w fun e w' => e = .returned (.bool (decide (n ≤ l))) ∧ Bt w' g r h (takeL l n) ∧ Turn g w w' := by
  unfold takeL
  by_cases c : n ≤ l
  · rw [if_pos c, decide_eq_true c]; exact (btake_yes k n hl' hn c).mono fun e w' h => ⟨h.1, by rw [h.2]; exact bt_level k _, by rw [h.2]; exact (Turn.refl _ _).set _ _⟩
  · rw [if_neg c, decide_eq_false c]; exact (btake_no k n c).mono fun e w' h => ⟨h.1, by rw [← h.2]; exact k, by rw [← h.2]; exact Turn.refl _ _⟩
theorem btick_at {g : Nat} {r h l : Int} {w : World} (k : Bt w g r h l) (n : Int) (hr : 0 ≤ r) (hr' : r ≤ 18446744073709551615) (hh : 0 ≤ h) (hh' : h ≤ 18446744073709551615) (hl : 0 ≤ l) (hl' : l ≤ 18446744073709551615) (hn : 0 ≤ n) (hn' : n ≤ 18446744073709551615) :
    Calls Try.prog 27 #[.pointer (some ⟨g, 0, none⟩), .int .u64 n] w fun e w' => e = .returned (.tuple #[]) ∧ Bt w' g r h (satRefill l r n h) ∧ Turn g w w' :=
  (btick_any k n hr hr' hh hh' hl hl' hn hn').mono fun e w' p => ⟨p.1, by rw [p.2]; exact bt_level (bk_drew k : Bt _ g r h l) _, by rw [p.2]; exact (Turn.refl _ _).drew.set _ _⟩

theorem bucketAlive_any (w : World) : Calls Try.prog 28 #[] w fun e w' => e = .returned (.bool true) ∧ Below w.heap.size w w' := by
  have hs : satRefill 2 3 3 10 = 10 := by decide
  have ht1 : takeL 10 8 = 2 := by decide
  have ht2 : takeL 2 3 = 2 := by decide
  have hd1 : decide ((8 : Int) ≤ 10) = true := by decide
  have hd2 : decide ((3 : Int) ≤ 2) = false := by decide
  have hw1 : waitN 3 10 2 9 = 3 := by decide
  have hw2 : waitB 3 10 2 9 = true := by decide
  go_enter Try.func28, Try.ntmps28
  go_wp2_with (fail)
  refine (bnew_at 3 10 _).mono ?_; rintro e w1 ⟨g, rfl, k0, hg, hB0⟩
  go_wp2_with (fail)
  refine (btake_at k0 8 (by decide) (by decide)).mono ?_; rw [hd1, ht1]; rintro e w2 ⟨rfl, k1, t1⟩
  go_wp2_with (fail)
  refine (btake_at k1 3 (by decide) (by decide)).mono ?_; rw [hd2, ht2]; rintro e w3 ⟨rfl, k2, t2⟩
  go_wp2_with (fail)
  refine (blevel_any k2).mono ?_; rintro e w1 ⟨rfl, rfl⟩
  go_wp2_with (fail)
  refine (bwait_any k2 9 (by decide) (by decide) (by decide) (by decide)).mono ?_; rw [hw1, hw2]; rintro e w1 ⟨rfl, rfl⟩
  go_wp2_with (fail)
  refine (btick_at k2 3 (by decide) (by decide) (by decide) (by decide) (by decide) (by decide) (by decide) (by decide)).mono ?_; rw [hs]; rintro e w4 ⟨rfl, k3, t3⟩
  go_wp2_with (fail)
  refine (blevel_any k3).mono ?_; rintro e w1 ⟨rfl, rfl⟩
  go_wp2
  go_ret
  exact ⟨rfl, Turn.bl (Turn.bl (Turn.bl hB0 (by omega) t1) (by omega) t2) (by omega) t3⟩

theorem bucketEnds_walk (w : World) : Calls Try.prog 8 #[] w fun e w' => e = .returned (.bool true) ∧ Below w.heap.size w w' := by
  have hs : satRefill 0 18446744073709551615 18446744073709551615 18446744073709551615 = 18446744073709551615 := by decide
  have ht1 : takeL 18446744073709551615 18446744073709551615 = 0 := by decide
  have hd1 : decide ((18446744073709551615 : Int) ≤ 18446744073709551615) = true := by decide
  have hw1 : waitN 0 5 5 6 = 0 := by decide
  have hw2 : waitB 0 5 5 6 = false := by decide
  have hw3 : waitN 0 5 5 5 = 0 := by decide
  have hw4 : waitB 0 5 5 5 = true := by decide
  go_enter Try.func8, Try.ntmps8
  go_wp2_with (fail)
  refine (bnew_at 0 5 _).mono ?_; rintro e w1 ⟨g, rfl, k0, hg, hB0⟩
  go_wp2_with (fail)
  refine (bwait_any k0 6 (by decide) (by decide) (by decide) (by decide)).mono ?_; rw [hw1, hw2]; rintro e w1 ⟨rfl, rfl⟩
  go_wp2_with (fail)
  refine (bwait_any k0 5 (by decide) (by decide) (by decide) (by decide)).mono ?_; rw [hw3, hw4]; rintro e w1 ⟨rfl, rfl⟩
  go_wp2_with (fail)
  refine (bnew_at 18446744073709551615 18446744073709551615 _).mono ?_; rintro e w2 ⟨g2, rfl, k1, hg1, hB1⟩
  have hB2 := bl_then hB0 hB1
  have hg2 : w.heap.size ≤ g2 := by have := hB0.size; omega
  go_wp2_with (fail)
  refine (btake_at k1 18446744073709551615 (by decide) (by decide)).mono ?_; rw [hd1, ht1]; rintro e w3 ⟨rfl, k2, t1⟩
  go_wp2_with (fail)
  refine (btick_at k2 18446744073709551615 (by decide) (by decide) (by decide) (by decide) (by decide) (by decide) (by decide) (by decide)).mono ?_; rw [hs]; rintro e w4 ⟨rfl, k3, t3⟩
  go_wp2_with (fail)
  refine (bucketAlive_any _).mono ?_; rintro e w5 ⟨rfl, hB5⟩
  have k4 := bt_below k3 hB5
  go_wp2_with (fail)
  refine (blevel_any k4).mono ?_; rintro e w1 ⟨rfl, rfl⟩
  go_wp2
  go_ret
  exact ⟨rfl, bl_then (Turn.bl (Turn.bl hB2 hg2 t1) hg2 t3) hB5⟩
end Go.Proofs.Ytbhhckeccpodmaa
