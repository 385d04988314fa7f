/- Contracts of the reference's bucket (layer 17): New, Tick, Take, Wait; and the program's Set. -/
import Derived.Test.YtbhhckeccpodmaaBucket4
import Derived.Test.YtbhhckeccpodmaaRefs
set_option linter.unusedVariables false
set_option linter.unusedSimpArgs false
namespace Go.Proofs.Ytbhhckeccpodmaa
open Go.RowKit
attribute [local go_sem] max2_int min2_int max_two min_two


theorem held3f {w : World} {g : Nat} {a b c : Value} {t : TypeId} (h : Bk w g #[a, b, c] t) : w.cell? ⟨g, 0, none⟩ = some a ∧ w.cell? ⟨g, 1, none⟩ = some b ∧ w.cell? ⟨g, 2, none⟩ = some c ∧ w.frozen? ⟨g, 0, none⟩ = false ∧ w.frozen? ⟨g, 1, none⟩ = false ∧ w.frozen? ⟨g, 2, none⟩ = false := ⟨(bk_cell h 0).trans rfl, (bk_cell h 1).trans rfl, (bk_cell h 2).trans rfl, bk_frozen h 0, bk_frozen h 1, bk_frozen h 2⟩
theorem res_cell3 {w : World} {g : Nat} {a b c : Value} {t : TypeId} (h : Bk w g #[a, b, c] t) (tmps : Array Value) (h4 : tmps[4]?.getD undef = .pointer (some ⟨g, 0, none⟩)) :
    (results Try.f36 tmps).run Try.prog w = .ok (.agg #[a, b, c]) w := by
  obtain ⟨p0, p1, p2⟩ := held3 h
  simp [results, Try.results36, go_sem, h4, p0, p1, p2]
theorem rnew17_any (r h : Int) (w : World) : Calls Try.prog 35 #[.int .u64 r, .int .u64 h] w fun e w' => e = .returned ((Value.agg #[.int .u64 r, .int .u64 h, .int .u64 h])) ∧ Below w.heap.size w w' := by
  go_enter Try.func35, Try.ntmps35
  go_wp2
  refine bodyPost_ret (v := (Value.agg #[.int .u64 r, .int .u64 h, .int .u64 h])) (by simp [results, Try.results35, go_sem]) rfl ⟨rfl, ?_⟩
  repeat (with_reducible first | exact Below.refl _ _ | apply bl_alloc | apply bl_drewN | apply bl_drew)

theorem rtick17_any (r h l n : Int) (w : World) (hr : 0 ≤ r ∧ r ≤ 18446744073709551615) (hh : 0 ≤ h ∧ h ≤ 18446744073709551615) (hl : 0 ≤ l ∧ l ≤ 18446744073709551615) (hn : 0 ≤ n ∧ n ≤ 18446744073709551615) :
    Calls Try.prog 36 #[(Value.agg #[.int .u64 r, .int .u64 h, .int .u64 l]), .int .u64 n] w fun e w' => e = .returned ((Value.agg #[.int .u64 r, .int .u64 h, .int .u64 (satRefill l r n h)])) ∧ Below w.heap.size w w' := by
  go_enter Try.func36, Try.ntmps36
  go_wp2_with ((go_at_call 47; (with_reducible refine (rrefill_any l r n h _ hl.1 hl.2 hr.1 hr.2 hn.1 hn.2 hh.1 hh.2).mono ?_); rintro e w1 ⟨rfl, hB1⟩; have ka := bk_below hB1 (bk_alloc (bk_new w #[.int .u64 r, .int .u64 h, .int .u64 l] 58) (.cells #[.int .u64 0, .int .u64 0, .int .u64 0] 58)); have kz := bk_below hB1 (bk_new (w.alloc (.cells #[.int .u64 r, .int .u64 h, .int .u64 l] 58)) #[.int .u64 0, .int .u64 0, .int .u64 0] 58); rw [World.size_alloc] at kz; obtain ⟨a0, a1, a2, g0, g1, g2⟩ := held3f ka; obtain ⟨b0, b1, b2, i0, i1, i2⟩ := held3f kz))
  have fz : Bk ((((w1.setCell ⟨w.heap.size, 2, none⟩ (.int .u64 (satRefill l r n h))).setCell ⟨w.heap.size + 1, 0, none⟩ (.int .u64 r)).setCell ⟨w.heap.size + 1, 1, none⟩ (.int .u64 h)).setCell ⟨w.heap.size + 1, 2, none⟩ (.int .u64 (satRefill l r n h))) (w.heap.size + 1) #[.int .u64 r, .int .u64 h, .int .u64 (satRefill l r n h)] 58 := bk_put (bk_put (bk_put (bk_far kz (by dsimp only; omega) _) rfl) rfl) rfl
  have fB : Below w.heap.size w ((((w1.setCell ⟨w.heap.size, 2, none⟩ (.int .u64 (satRefill l r n h))).setCell ⟨w.heap.size + 1, 0, none⟩ (.int .u64 r)).setCell ⟨w.heap.size + 1, 1, none⟩ (.int .u64 h)).setCell ⟨w.heap.size + 1, 2, none⟩ (.int .u64 (satRefill l r n h))) := bl_set (bl_set (bl_set (bl_set (bl_then (bl_alloc (bl_alloc (Below.refl _ _) _) _) hB1) (by dsimp only; omega) _) (by dsimp only; omega) _) (by dsimp only; omega) _) (by dsimp only; omega) _
  exact bodyPost_ret (res_cell3 fz _ rfl) rfl ⟨rfl, fB⟩
theorem rtake17_yes (r h l n : Int) (w : World) (hl : 0 ≤ l ∧ l ≤ 18446744073709551615) (hn : 0 ≤ n) (c : n ≤ l) :
    Calls Try.prog 37 #[(Value.agg #[.int .u64 r, .int .u64 h, .int .u64 l]), .int .u64 n] w fun e w' => e = .returned (.tuple #[(Value.agg #[.int .u64 r, .int .u64 h, .int .u64 (l - n)]), .bool true]) ∧ Below w.heap.size w w' := by
  have hd : decide (l < n) = false := decide_eq_false (by omega)
  go_enter Try.func37, Try.ntmps37
  go_wp2
  refine bodyPost_ret (v := .tuple #[(Value.agg #[.int .u64 r, .int .u64 h, .int .u64 (l - n)]), .bool true]) (by simp [results, Try.results37, go_sem]) rfl ⟨rfl, ?_⟩
  repeat (with_reducible first | exact Below.refl _ _ | apply bl_alloc | apply bl_drewN | apply bl_drew)
theorem rtake17_no (r h l n : Int) (w : World) (c : ¬ n ≤ l) :
    Calls Try.prog 37 #[(Value.agg #[.int .u64 r, .int .u64 h, .int .u64 l]), .int .u64 n] w fun e w' => e = .returned (.tuple #[(Value.agg #[.int .u64 r, .int .u64 h, .int .u64 l]), .bool false]) ∧ Below w.heap.size w w' := by
  have hd : decide (l < n) = true := decide_eq_true (by omega)
  go_enter Try.func37, Try.ntmps37
  go_wp2
  refine bodyPost_ret (v := .tuple #[(Value.agg #[.int .u64 r, .int .u64 h, .int .u64 l]), .bool false]) (by simp [results, Try.results37, go_sem]) rfl ⟨rfl, ?_⟩
  repeat (with_reducible first | exact Below.refl _ _ | apply bl_alloc | apply bl_drewN | apply bl_drew)

theorem bset_any {g : Nat} {r h l : Int} {w : World} (k : Bt w g r h l) (r2 h2 : Int) :
    Calls Try.prog 38 #[.pointer (some ⟨g, 0, none⟩), .int .u64 r2, .int .u64 h2] w fun e w' => e = .returned (.tuple #[]) ∧ Bt w' g r2 h2 h2 ∧ Turn g w w' := by
  have hg := bk_lt k
  obtain ⟨c0, c1, c2, f0, f1, f2⟩ := bt_cells k
  go_enter Try.func38, Try.ntmps38
  go_wp2_with (fail)
  refine (bnew_at r2 h2 _).mono ?_; rintro e w1 ⟨g2, rfl, k2, hg2, hB1⟩
  have k1 := bt_below k hB1
  obtain ⟨c0, c1, c2, f0, f1, f2⟩ := bt_cells k1
  obtain ⟨e0, e1, e2, _, _, _⟩ := bt_cells k2
  go_wp2
  have tw : Turn g w w1 := ⟨hB1.mono (Nat.le_of_lt hg), fun k _ hs => hB1.block k hs⟩
  exact bodyPost_end (v := .tuple #[]) (by simp [results, Try.results38, go_sem]) rfl ⟨rfl, bk_put (bk_put (bk_put k1 rfl) rfl) rfl, ((tw.set _ _).set _ _).set _ _⟩

theorem refill_tmono {l r t t' h : Int} (h0 : 0 ≤ l) (hr : 0 ≤ r) (ht : 0 ≤ t) (htt : t ≤ t') (hh' : h ≤ 18446744073709551615) : satRefill l r t h ≤ satRefill l r t' h := by
  have hp : r * t ≤ r * t' := Int.mul_le_mul_of_nonneg_left htt hr
  rw [refill_eq h0 hr ht hh', refill_eq h0 hr (by omega) hh']
  generalize r * t = p at *
  generalize r * t' = q at *
  repeat' split
  all_goals omega
theorem wait_unique {r h l n t : Int} (hr : 0 ≤ r) (hl : 0 ≤ l) (hlh : l ≤ h) (hh' : h ≤ 18446744073709551615) (hn : n ≤ 18446744073709551615) (ht : 0 ≤ t) (b : waitB r h l n = true) (h1 : n ≤ satRefill l r t h) (h2 : t = 0 ∨ satRefill l r (t - 1) h < n) : t = waitN r h l n := by
  have hN := waitN_bd (h := h) (n := n) hr hl hn
  have k1 := wait_there (n := n) hr hl hlh hh' b
  rcases Int.lt_trichotomy t (waitN r h l n) with c | c | c
  · exfalso
    have k2 := wait_not (n := n) hr hl hlh hh' (by omega)
    have k3 := refill_tmono (t := t) (t' := waitN r h l n - 1) hl hr ht (by omega) hh'
    omega
  · exact c
  · exfalso
    rcases h2 with h2 | h2
    · omega
    · have k3 := refill_tmono (t := waitN r h l n) (t' := t - 1) hl hr hN.1 (by omega) hh'
      omega

set_option maxHeartbeats 800000 in
theorem rwait17_any (r h l n : Int) (w : World) (hr : 0 ≤ r ∧ r ≤ 18446744073709551615) (hh : 0 ≤ h ∧ h ≤ 18446744073709551615) (hl : 0 ≤ l ∧ l ≤ h) (hn : 0 ≤ n ∧ n ≤ 18446744073709551615) :
    Calls Try.prog 39 #[(Value.agg #[.int .u64 r, .int .u64 h, .int .u64 l]), .int .u64 n] w fun e w' => e = .returned (.tuple #[.int .u64 (waitN r h l n), .bool (waitB r h l n)]) ∧ Below w.heap.size w w' := by
  have hN := waitN_bd (h := h) (n := n) hr.1 hl.1 hn.2
  have kb := bk_new w #[.int .u64 r, .int .u64 h, .int .u64 l] 58
  have hfl : ∀ (a b c : Int) (W : World), (Instr.field 58 (.agg #[.int .u64 a, .int .u64 b, .int .u64 c]) 2).run Try.prog W = .ok (.int .u64 c) W := fun _ _ _ _ => by kernel_rfl
  cases hwB : waitB r h l n with
  | false =>
    have e : waitN r h l n = 0 := by
      unfold waitB at hwB
      unfold waitN
      repeat' split at hwB
      all_goals first | (simp at hwB; done) | skip
      rename_i c d
      rw [if_neg c, if_pos d]
    rw [e]
    have hd : decide (satRefill l r 18446744073709551615 h < n) = true := decide_eq_true (by have := wait_never (n := n) (t := 18446744073709551615) hr.1 hl.1 hl.2 hh.2 (by decide) hwB; omega)
    clear e hwB hN
    go_enter Try.func39, Try.ntmps39
    go_wp2_with (fail)
    refine (rtick17_any r h l 18446744073709551615 _ hr hh ⟨hl.1, by omega⟩ ⟨by omega, by omega⟩).mono ?_; rintro e w1 ⟨rfl, hB1⟩
    go_wp2
    go_ret2
    exact ⟨rfl, bl_then (bl_alloc (Below.refl _ _) _) hB1⟩
  | true =>
    have hM : n ≤ satRefill l r 18446744073709551615 h := Int.le_trans (wait_there (n := n) hr.1 hl.1 hl.2 hh.2 hwB) (refill_tmono hl.1 hr.1 hN.1 hN.2 hh.2)
    have hd : decide (satRefill l r 18446744073709551615 h < n) = false := decide_eq_false (by omega)
    have hu := fun t h1 h2 h3 => wait_unique (n := n) (t := t) hr.1 hl.1 hl.2 hh.2 hn.2 h1 hwB h2 h3
    replace hu := Lib.hid hu
    clear hwB hN
    go_enter Try.func39, Try.ntmps39
    go_wp2_with (fail)
    refine (rtick17_any r h l 18446744073709551615 _ hr hh ⟨hl.1, by omega⟩ ⟨by omega, by omega⟩).mono ?_; rintro e w1 ⟨rfl, hB1⟩
    go_wp2
    go_loopw [6, 7] (fun v6 v7 wr => ∃ lo hi : Int, v6 = .int .u64 lo ∧ v7 = .int .u64 hi ∧ 0 ≤ lo ∧ lo ≤ hi ∧ hi ≤ 18446744073709551615 ∧ n ≤ satRefill l r hi h ∧ (lo = 0 ∨ satRefill l r (lo - 1) h < n) ∧ Bk wr w.heap.size #[.int .u64 r, .int .u64 h, .int .u64 l] 58 ∧ Below w.heap.size w wr) (fun v6 v7 _ => (intOf v7 - intOf v6).toNat)
    case atStart => exact ⟨0, 18446744073709551615, rfl, rfl, by decide, by decide, by decide, hM, .inl rfl, bk_below hB1 kb, bl_then (bl_alloc (Below.refl _ _) _) hB1⟩
    case round =>
      obtain ⟨lo, hi, rfl, rfl, q0, q1, q2, q3, q4, kc, hB⟩ := hrel
      replace q4 := Lib.hid q4
      obtain ⟨c0, c1, c2⟩ := held3 kc
      by_cases hlt : lo < hi
      · have hd1 : decide (lo < hi) = true := decide_eq_true hlt
        have hmid : 0 ≤ lo + (hi - lo) / 2 ∧ lo + (hi - lo) / 2 < hi ∧ lo ≤ lo + (hi - lo) / 2 := by omega
        by_cases hc : n ≤ satRefill l r (lo + (hi - lo) / 2) h
        · have hd2 : decide (n ≤ satRefill l r (lo + (hi - lo) / 2) h) = true := decide_eq_true hc
          go_wp2_with ((go_at_call 36; (with_reducible refine (rtick17_any r h l (lo + (hi - lo) / 2) _ hr hh ⟨hl.1, by omega⟩ (by omega)).mono ?_); rintro e w1 ⟨rfl, hB2⟩))
          exact ⟨⟨lo, lo + (hi - lo) / 2, rfl, rfl, q0, by omega, by omega, hc, q4.out, bk_below hB2 kc, bl_then hB hB2⟩, by simp only [intOf]; omega⟩
        · have hd2 : decide (n ≤ satRefill l r (lo + (hi - lo) / 2) h) = false := decide_eq_false hc
          go_wp2_with ((go_at_call 36; (with_reducible refine (rtick17_any r h l (lo + (hi - lo) / 2) _ hr hh ⟨hl.1, by omega⟩ (by omega)).mono ?_); rintro e w1 ⟨rfl, hB2⟩))
          exact ⟨⟨lo + (hi - lo) / 2 + 1, hi, rfl, rfl, by omega, by omega, q2, q3, .inr (by rw [Int.add_sub_cancel]; omega), bk_below hB2 kc, bl_then hB hB2⟩, by simp only [intOf]; omega⟩
      · have hd1 : decide (lo < hi) = false := decide_eq_false hlt
        have he : lo = waitN r h l n := hu.out lo q0 (by rw [show lo = hi by omega]; exact q3) q4.out
        clear q4 hu
        replace he := Lib.hid he
        go_wp2
        go_ret2
        exact ⟨ret_ub he.out rfl, hB⟩
end Go.Proofs.Ytbhhckeccpodmaa
