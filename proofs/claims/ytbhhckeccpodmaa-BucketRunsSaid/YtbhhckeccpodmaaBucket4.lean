/- BucketMore. -/
import Derived.Test.YtbhhckeccpodmaaBucket3
import Derived.Test.YtbhhckeccpodmaaFlat
import Derived.LoopTactic
import Derived.Deep.RegionHeld3
set_option linter.unusedVariables false
set_option linter.unusedSimpArgs false
namespace Go.Proofs.Ytbhhckeccpodmaa
open Go.RowKit
attribute [local go_sem] max2_int min2_int max_two min_two

/-- An Act's cells: Kind, N, M. -/
abbrev actLeaves : List Leaf := [.i .i64, .i .u64, .i .u64]
theorem fits_i {k : IntKind} {ks : List Leaf} {vs : List Value} (h : Fits (.i k :: ks) vs) : ∃ n us, vs = .int k n :: us ∧ (Lit.int k n).wf = true ∧ Fits ks us := by
  match vs, h with
  | _ :: us, ⟨⟨n, rfl, hw⟩, h2⟩ => exact ⟨n, us, rfl, hw, h2⟩
theorem fits_nil {vs : List Value} (h : Fits [] vs) : vs = [] := by
  match vs, h with
  | [], _ => rfl
theorem cell_lt {w : World} {a : Addr} {v : Value} (h : w.cell? a = some v) : a.block < w.heap.size := by
  rcases Nat.lt_or_ge a.block w.heap.size with k | k
  · exact k
  · exfalso
    unfold World.cell? at h
    rw [Array.getElem?_eq_none k] at h
    simp at h
theorem add_block (x : Addr) (k : Nat) : (x.add k).block = x.block := by unfold Addr.add; split <;> rfl
theorem add_pos (x : Addr) {k : Nat} (h : k ≠ 0) : x.add k = ⟨x.block, x.off + k, none⟩ := by unfold Addr.add; rw [if_neg h]
theorem act_at {w : World} {A : Option Addr} {len cap : Nat} (h : IsFlat actLeaves w A len cap) {i : Nat} (hi : i < len) :
    ∃ x k n m, A = some x ∧ x.block < w.heap.size ∧ (-9223372036854775808 ≤ k ∧ k ≤ 9223372036854775807) ∧ (0 ≤ n ∧ n ≤ 18446744073709551615) ∧ (0 ≤ m ∧ m ≤ 18446744073709551615) ∧
      w.cell? (x.add (i * 3)) = some (.int .i64 k) ∧ w.cell? ⟨(x.add (i * 3)).block, (x.add (i * 3)).off + 1, none⟩ = some (.int .u64 n) ∧ w.cell? ⟨(x.add (i * 3)).block, (x.add (i * 3)).off + 2, none⟩ = some (.int .u64 m) := by
  rcases h with ⟨_, rfl, _⟩ | ⟨x, rfl, hl, hm, hx⟩
  · omega
  · obtain ⟨vs, hf, hc⟩ := hx i hi
    obtain ⟨k, us, rfl, wk, hf⟩ := fits_i hf
    obtain ⟨n, us, rfl, wn, hf⟩ := fits_i hf
    obtain ⟨m, us, rfl, wm, hf⟩ := fits_i hf
    obtain rfl := fits_nil hf
    have c0 := hc 0 (by decide)
    have c1 := hc 1 (by decide)
    have c2 := hc 2 (by decide)
    simp only [List.length_cons, List.length_nil, Nat.zero_add, Nat.add_zero, List.getElem?_cons_zero, List.getElem?_cons_succ] at c0 c1 c2
    rw [← addr_add, add_pos _ (by decide)] at c1 c2
    have hb := cell_lt c0
    rw [add_block] at hb
    exact ⟨x, k, n, m, rfl, hb, bounds_i64 wk, bounds_u64 wn, bounds_u64 wm, c0, c1, c2⟩
theorem cell_far {w w1 : World} {x : Addr} {v : Value} (hB : Below w.heap.size w w1) (h : w.cell? x = some v) : w1.cell? x = some v := by
  rw [hB.cell (cell_lt h)]; exact h

theorem held2 {w : World} {g : Nat} {a b : Value} {t : TypeId} (h : Bk w g #[a, b] t) : w.cell? ⟨g, 0, none⟩ = some a ∧ w.cell? ⟨g, 1, none⟩ = some b := ⟨(bk_cell h 0).trans rfl, (bk_cell h 1).trans rfl⟩
theorem held3 {w : World} {g : Nat} {a b c : Value} {t : TypeId} (h : Bk w g #[a, b, c] t) : w.cell? ⟨g, 0, none⟩ = some a ∧ w.cell? ⟨g, 1, none⟩ = some b ∧ w.cell? ⟨g, 2, none⟩ = some c := ⟨(bk_cell h 0).trans rfl, (bk_cell h 1).trans rfl, (bk_cell h 2).trans rfl⟩
theorem bk_turn {w w' : World} {g g' : Nat} {cs : Array Value} {t : TypeId} (h : Bk w g cs t) (hne : g ≠ g') (k : Turn g' w w') : Bk w' g cs t := (k.2 g hne (bk_lt h)).trans h
theorem refill_mono {la lb r t h k : Int} (h0 : 0 ≤ la) (hab : la ≤ lb) (hr : 0 ≤ r) (ht : 0 ≤ t) (hhk : h ≤ k) (hk : k ≤ 18446744073709551615) : satRefill la r t h ≤ satRefill lb r t k := by
  have hp := Int.mul_nonneg hr ht
  rw [refill_eq h0 hr ht (by omega), refill_eq (by omega) hr ht hk]
  generalize r * t = p at *
  repeat' split
  all_goals omega

set_option maxHeartbeats 1600000 in
theorem bucketMore_walk (r : Int) (hr : 0 ≤ r ∧ r ≤ 18446744073709551615) (b0 : Int) (hb0 : 0 ≤ b0 ∧ b0 ≤ 18446744073709551615) (b1 : Int) (hb1 : 0 ≤ b1 ∧ b1 ≤ 18446744073709551615) (A : Option Addr) (len cap : Nat) {w : World} (hz : IsFlat actLeaves w A len cap) :
    Calls Try.prog 11 #[.int .u64 r, .agg #[.int .u64 b0, .int .u64 b1], .slice A len cap] w fun e w' => e = .returned (.bool true) ∧ Below w.heap.size w w' := by
  by_cases hl : (100 : Int) < len
  · have hl2 : decide ((100 : Int) < len) = true := decide_eq_true hl
    go_enter Try.func11, Try.ntmps11
    go_wp2_with ((go_at_call 28; (with_reducible refine (bucketAlive_any _).mono ?_); rintro e w0 ⟨rfl, hB0⟩; obtain ⟨hc0, hf0⟩ := bl_cells hB0))
    go_ret
    exact ⟨rfl, bl_then (bl_alloc (Below.refl _ w) _) hB0⟩
  have hl2 : decide ((100 : Int) < len) = false := decide_eq_false hl
  by_cases hb : b1 < b0
  · have hb2 : decide (b1 < b0) = true := decide_eq_true hb
    go_enter Try.func11, Try.ntmps11
    go_wp2_with ((go_at_call 28; (with_reducible refine (bucketAlive_any _).mono ?_); rintro e w0 ⟨rfl, hB0⟩; obtain ⟨hc0, hf0⟩ := bl_cells hB0))
    go_ret
    exact ⟨rfl, bl_then (bl_alloc (Below.refl _ w) _) hB0⟩
  have hb2 : decide (b1 < b0) = false := decide_eq_false hb
  go_enter Try.func11, Try.ntmps11
  go_wp2_with ((go_at_call 28; (with_reducible refine (bucketAlive_any _).mono ?_); rintro e w0 ⟨rfl, hB0⟩; obtain ⟨hc0, hf0⟩ := bl_cells hB0))
  have q0 := bk_below hB0 (bk_new w #[.int .u64 b0, .int .u64 b1] 55)
  go_region_held3 (fun w' => w'.cell? ⟨w.heap.size, 0, none⟩ = some (.int .u64 b0) ∧ w'.cell? ⟨w.heap.size, 1, none⟩ = some (.int .u64 b1))
    (first | go_keep | exact held2 (bk_below hB1 (bk_drew q0)) | exact held2 (bk_below hB2 (bk_below hB1 (bk_drew q0))))
    (first | (go_at_call 24; (with_reducible refine (bnew_at r b0 _).mono ?_); rintro e w1 ⟨g1, rfl, k1, hg1, hB1⟩) | (go_at_call 24; (with_reducible refine (bnew_at r b1 _).mono ?_); rintro e w2 ⟨g2, rfl, k2, hg2, hB2⟩))
  have p1 := bt_below k1 hB2
  have hBa := bl_then (bl_then (bl_drew (bl_then (bl_alloc (Below.refl _ w) _) hB0)) hB1) hB2
  have hw1 : w.heap.size ≤ g1 := by have := (bl_then (bl_alloc (Below.refl _ w) _) hB0).size; rw [← hg1]; exact this
  have hlt : g1 < g2 := by rw [← hg2]; exact bk_lt k1
  have hne : g1 ≠ g2 := by omega
  have hw2 : w.heap.size ≤ g2 := by omega
  clear hB0 hc0 hf0 q0 k1 hB1 hg1 hB2 hg2
  go_wp2
  go_loopw [33] (fun v wr => ∃ (i : Nat) (la lb : Int), v = .int .i64 i ∧ i ≤ len ∧ Bt wr g1 r b0 la ∧ Bt wr g2 r b1 lb ∧ 0 ≤ la ∧ la ≤ b0 ∧ la ≤ lb ∧ lb ≤ b1 ∧ Below w.heap.size w wr) (fun v _ => len - (intOf v).toNat)
  case atStart => exact ⟨0, b0, b1, rfl, Nat.zero_le _, p1, k2, by omega, by omega, by omega, by omega, hBa⟩
  case round =>
    obtain ⟨i, la, lb, rfl, hi, q1, q2, h0, h1, h2, h3, hB⟩ := hrel
    by_cases hil : i < len
    · obtain ⟨x, k, n, m, rfl, hx, hk, hn, hm, x0, x1, x2⟩ := act_at hz hil
      have e0 := cell_far hB x0
      have e1 := cell_far hB x1
      have e2 := cell_far hB x2
      have hil2 : decide ((i : Int) < len) = true := decide_eq_true (by omega)
      have hlv := bk_new wr #[.int .i64 k, .int .u64 n, .int .u64 m] 47
      have hv1 : wr.heap.size ≠ g1 := by have := bk_lt q1; omega
      have hv2 : wr.heap.size ≠ g2 := by have := bk_lt q2; omega
      have q1' := bk_alloc q1 (.cells #[.int .i64 k, .int .u64 n, .int .u64 m] 47)
      have q2' := bk_alloc q2 (.cells #[.int .i64 k, .int .u64 n, .int .u64 m] 47)
      have hB' := bl_alloc hB (.cells #[.int .i64 k, .int .u64 n, .int .u64 m] 47)
      by_cases c0 : k = 0
      · have kk0 : (k == 0) = true := by simp [c0]
        clear c0
        have ha := refill_bd (t := n) (h := b0) h0 hr.1 hn.1 hb0.1 hb0.2
        have hb' := refill_bd (l := lb) (t := n) (h := b1) (by omega) hr.1 hn.1 hb1.1 hb1.2
        have hmn := refill_mono h0 h2 hr.1 hn.1 hb hb1.2
        obtain ⟨sa, hsa⟩ : ∃ s, satRefill la r n b0 = s := ⟨_, rfl⟩
        obtain ⟨sb, hsb⟩ : ∃ s, satRefill lb r n b1 = s := ⟨_, rfl⟩
        rw [hsa] at ha hmn
        rw [hsb] at hb' hmn
        have hd : decide (sb < sa) = false := decide_eq_false (by omega)
        replace hsa := Lib.hid hsa
        replace hsb := Lib.hid hsb
        go_wp2_with (fail)
        refine (btick_at q1' n hr.1 hr.2 hb0.1 hb0.2 h0 (by omega) hn.1 hn.2).mono ?_; rw [hsa.out]; rintro e wa ⟨rfl, r1, t1⟩
        have r2 := bt_turn q2' hne.symm t1
        obtain ⟨d0, d1, d2⟩ := held3 (bk_turn hlv hv1 t1)
        have hBa' := Turn.bl hB' hw1 t1
        clear t1
        go_wp2_with (fail)
        refine (btick_at r2 n hr.1 hr.2 hb1.1 hb1.2 (by omega) (by omega) hn.1 hn.2).mono ?_; rw [hsb.out]; rintro e wb ⟨rfl, s2, t2⟩
        have s1 := bt_turn r1 hne t2
        have hBb' := Turn.bl hBa' hw2 t2
        clear t2 d0 d1 d2
        go_wp2_with (fail)
        refine (blevel_any s1).mono ?_; rintro e w' ⟨rfl, rfl⟩
        go_wp2_with (fail)
        refine (blevel_any s2).mono ?_; rintro e w' ⟨rfl, rfl⟩
        go_wp2
        exact ⟨⟨i + 1, sa, sb, rfl, by omega, s1, s2, by omega, by omega, hmn, by omega, hBb'⟩, by simp [intOf]; omega⟩
      · have kk0 : (k == 0) = false := by simp [c0]
        by_cases c1 : k = 1
        · have kk1 : (k == 1) = true := by simp [c1]
          clear c1
          by_cases c2 : n ≤ la
          · have hd1 : decide (n ≤ la) = true := decide_eq_true c2
            have hd2 : decide (n ≤ lb) = true := decide_eq_true (by omega)
            have hd3 : decide (lb - n < la - n) = false := decide_eq_false (by omega)
            have ht1 : takeL la n = la - n := by unfold takeL; rw [if_pos c2]
            have ht2 : takeL lb n = lb - n := by unfold takeL; rw [if_pos (by omega)]
            obtain ⟨d0, d1, d2⟩ := held3 hlv
            replace ht1 := Lib.hid ht1
            replace ht2 := Lib.hid ht2
            go_wp2_with (fail)
            refine (bhas_any q1' n).mono ?_; rw [hd1]; rintro e w' ⟨rfl, rfl⟩
            go_wp2_with (fail)
            refine (bhas_any q2' n).mono ?_; rw [hd2]; rintro e w' ⟨rfl, rfl⟩
            go_wp2_with (fail)
            refine (btake_at q1' n (by omega) hn.1).mono ?_; rw [hd1, ht1.out]; rintro e wa ⟨rfl, r1, t1⟩
            have r2 := bt_turn q2' hne.symm t1
            obtain ⟨f0, f1, f2⟩ := held3 (bk_turn hlv hv1 t1)
            have hBa' := Turn.bl hB' hw1 t1
            clear t1
            go_wp2_with (fail)
            refine (btake_at r2 n (by omega) hn.1).mono ?_; rw [hd2, ht2.out]; rintro e wb ⟨rfl, s2, t2⟩
            have s1 := bt_turn r1 hne t2
            have hBb' := Turn.bl hBa' hw2 t2
            clear t2 d0 d1 d2 f0 f1 f2
            go_wp2_with (fail)
            refine (blevel_any s1).mono ?_; rintro e w' ⟨rfl, rfl⟩
            go_wp2_with (fail)
            refine (blevel_any s2).mono ?_; rintro e w' ⟨rfl, rfl⟩
            go_wp2
            exact ⟨⟨i + 1, la - n, lb - n, rfl, by omega, s1, s2, by omega, by omega, by omega, by omega, hBb'⟩, by simp [intOf]; omega⟩
          · have hd1 : decide (n ≤ la) = false := decide_eq_false c2
            go_wp2_with (fail)
            refine (bhas_any q1' n).mono ?_; rw [hd1]; rintro e w' ⟨rfl, rfl⟩
            go_wp2
            go_ret
            exact ⟨rfl, hB'⟩
        · have kk1 : (k == 1) = false := by simp [c1]
          have hd3 : decide (lb < la) = false := decide_eq_false (by omega)
          go_wp2_with (fail)
          refine (blevel_any q1').mono ?_; rintro e w' ⟨rfl, rfl⟩
          go_wp2_with (fail)
          refine (blevel_any q2').mono ?_; rintro e w' ⟨rfl, rfl⟩
          go_wp2
          exact ⟨⟨i + 1, la, lb, rfl, by omega, q1', q2', h0, h1, h2, h3, hB'⟩, by simp [intOf]; omega⟩
    · have hil2 : decide ((i : Int) < len) = false := decide_eq_false (by omega)
      go_wp2
      go_ret
      exact ⟨rfl, hB⟩
end Go.Proofs.Ytbhhckeccpodmaa
