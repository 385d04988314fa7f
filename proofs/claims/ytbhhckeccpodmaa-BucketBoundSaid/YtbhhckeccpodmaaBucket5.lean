/- BucketBound. -/
import Derived.Test.YtbhhckeccpodmaaBucket4
import Derived.Test.YtbhhckeccpodmaaRefs
import Derived.Deep.RegionLaw
import Derived.Deep.RegionWith
import Derived.Deep.CutRange
set_option linter.unusedVariables false
set_option linter.unusedSimpArgs false
namespace Go.Proofs.Ytbhhckeccpodmaa
open Go.RowKit
attribute [local go_sem] max2_int min2_int max_two min_two

theorem held4' {w : World} {g : Nat} {a b c d : Value} {t : TypeId} (h : Bk w g #[a, b, c, d] t) :
    w.cell? ⟨g, 0, none⟩ = some a ∧ w.cell? ⟨g, 1, none⟩ = some b ∧ w.cell? ⟨g, 2, none⟩ = some c ∧ w.cell? ⟨g, 3, none⟩ = some d ∧ w.frozen? ⟨g, 0, none⟩ = false ∧ w.frozen? ⟨g, 1, none⟩ = false ∧ w.frozen? ⟨g, 2, none⟩ = false ∧ w.frozen? ⟨g, 3, none⟩ = false :=
  ⟨(bk_cell h 0).trans rfl, (bk_cell h 1).trans rfl, (bk_cell h 2).trans rfl, (bk_cell h 3).trans rfl, bk_frozen h 0, bk_frozen h 1, bk_frozen h 2, bk_frozen h 3⟩
theorem held5 {w : World} {g g2 : Nat} {u v z a b c d : Value} {t t2 : TypeId} (h : Bk w g #[u, v, z] t) (h2 : Bk w g2 #[a, b, c, d] t2) :
    w.cell? ⟨g, 1, none⟩ = some v ∧ w.cell? ⟨g2, 0, none⟩ = some a ∧ w.cell? ⟨g2, 1, none⟩ = some b ∧ w.cell? ⟨g2, 2, none⟩ = some c ∧ w.cell? ⟨g2, 3, none⟩ = some d :=
  ⟨(bk_cell h 1).trans rfl, (bk_cell h2 0).trans rfl, (bk_cell h2 1).trans rfl, (bk_cell h2 2).trans rfl, (bk_cell h2 3).trans rfl⟩
theorem held8 {w : World} {g g2 : Nat} {a b c d a' b' c' d' : Value} {t t2 : TypeId} (h : Bk w g #[a, b, c, d] t) (h2 : Bk w g2 #[a', b', c', d'] t2) :
    w.cell? ⟨g, 0, none⟩ = some a ∧ w.cell? ⟨g, 1, none⟩ = some b ∧ w.cell? ⟨g, 2, none⟩ = some c ∧ w.cell? ⟨g, 3, none⟩ = some d ∧ w.cell? ⟨g2, 0, none⟩ = some a' ∧ w.cell? ⟨g2, 1, none⟩ = some b' ∧ w.cell? ⟨g2, 2, none⟩ = some c' ∧ w.cell? ⟨g2, 3, none⟩ = some d' :=
  ⟨(bk_cell h 0).trans rfl, (bk_cell h 1).trans rfl, (bk_cell h 2).trans rfl, (bk_cell h 3).trans rfl, (bk_cell h2 0).trans rfl, (bk_cell h2 1).trans rfl, (bk_cell h2 2).trans rfl, (bk_cell h2 3).trans rfl⟩
theorem refill_up {l r t h : Int} (hl : 0 ≤ l) (hr : 0 ≤ r) (ht : 0 ≤ t) (hh' : h ≤ 18446744073709551615) : satRefill l r t h ≤ l + r * t := by
  rw [refill_eq hl hr ht hh']
  generalize r * t = p at *
  split <;> omega
/-- A number that lies in a block: four limbs. -/
def Wd (w : World) (g : Nat) (n : Int) : Prop := ∃ a b c d : Int, W4 n = .agg #[.int .u64 a, .int .u64 b, .int .u64 c, .int .u64 d] ∧ Bk w g #[.int .u64 a, .int .u64 b, .int .u64 c, .int .u64 d] 45

set_option maxHeartbeats 1600000 in
theorem bucketBound_walk (r : Int) (hr : 0 ≤ r ∧ r ≤ 18446744073709551615) (h : Int) (hh : 0 ≤ h ∧ h ≤ 18446744073709551615) (A : Option Addr) (len cap : Nat) {w : World} (hz : IsFlat actLeaves w A len cap) :
    Calls Try.prog 9 #[.int .u64 r, .int .u64 h, .slice A len cap] w fun e w' => e = .returned (.bool true) ∧ Below w.heap.size w w' := by
  by_cases hl : (100 : Int) < len
  · have hl2 : decide ((100 : Int) < len) = true := decide_eq_true hl
    go_enter Try.func9, Try.ntmps9
    go_wp2_with ((go_at_call 28; (with_reducible refine (bucketAlive_any _).mono ?_); rintro e w0 ⟨rfl, hB0⟩))
    go_ret
    exact ⟨rfl, hB0⟩
  have hl2 : decide ((100 : Int) < len) = false := decide_eq_false hl
  go_enter Try.func9, Try.ntmps9
  go_wp2_with ((go_at_call 28; (with_reducible refine (bucketAlive_any _).mono ?_); rintro e w0 ⟨rfl, hB0⟩))
  refine (bnew_at r h _).mono ?_; rintro e w1 ⟨g, rfl, k1, hg, hB1⟩
  have hBa := bl_then hB0 hB1
  have hgw : w.heap.size ≤ g := by rw [← hg]; exact hB0.size
  have hgT : g < w1.heap.size := bk_lt k1
  go_wp2_with (fail)
  go_loopw [24] (fun v wr => ∃ (i : Nat) (l T K : Int), v = .int .i64 i ∧ i ≤ len ∧ Bt wr g r h l ∧ Wd wr w1.heap.size T ∧ Wd wr (w1.heap.size + 1) K ∧ 0 ≤ l ∧ l ≤ h ∧ 0 ≤ T ∧ 0 ≤ K ∧ K ≤ i * 79228162514264337593543950336 ∧ T + l ≤ K + h ∧ Below w.heap.size w wr) (fun v _ => len - (intOf v).toNat)
  case atStart =>
    refine ⟨0, h, 0, 0, rfl, Nat.zero_le _, bk_alloc (bk_alloc k1 _) _, ⟨0, 0, 0, 0, W4_zero, bk_alloc (bk_at rfl) _⟩, ⟨0, 0, 0, 0, W4_zero, bk_at (by simp)⟩, hh.1, by omega, by omega, by omega, by omega, by omega, bl_alloc (bl_alloc hBa _) _⟩
  case round =>
    obtain ⟨i, l, T, K, rfl, hi, q1, ⟨ta, tb, tc, td, hT, qT⟩, ⟨ka, kb, kc, kd, hK, qK⟩, h0, h1, h2, h3, h4, h5, hB⟩ := hrel
    replace hT := Lib.hid hT
    replace hK := Lib.hid hK
    by_cases hil : i < len
    · obtain ⟨x, k, n, m, rfl, hx, hk, hn, hm, x0, x1, x2⟩ := act_at hz hil
      have e0 := cell_far hB x0
      have e1 := cell_far hB x1
      have e2 := cell_far hB x2
      have hil2 : decide ((i : Int) < len) = true := decide_eq_true (by omega)
      have hlv := bk_new wr #[.int .i64 k, .int .u64 n, .int .u64 m] 47
      have hv0 := bk_lt qK
      have hv1 : wr.heap.size ≠ g := by omega
      have q1' := bk_alloc q1 (.cells #[.int .i64 k, .int .u64 n, .int .u64 m] 47)
      have qT' := bk_alloc qT (.cells #[.int .i64 k, .int .u64 n, .int .u64 m] 47)
      have qK' := bk_alloc qK (.cells #[.int .i64 k, .int .u64 n, .int .u64 m] 47)
      have hB' := bl_alloc hB (.cells #[.int .i64 k, .int .u64 n, .int .u64 m] 47)
      go_upto_if 30 with fail
      go_cut [] from 29 to 80 (fun wx => ∃ l' K' : Int, Bt wx g r h l' ∧ Bk wx w1.heap.size #[.int .u64 ta, .int .u64 tb, .int .u64 tc, .int .u64 td] 45 ∧ Wd wx (w1.heap.size + 1) K' ∧ Bk wx wr.heap.size #[.int .i64 k, .int .u64 n, .int .u64 m] 47 ∧ 0 ≤ l' ∧ l' ≤ h ∧ T + l' ≤ K' + h ∧ (k = 0 → K' = K + r * n) ∧ (k ≠ 0 → K' = K) ∧ Below w.heap.size w wx)
      case first =>
        by_cases c0 : k = 0
        · have kk0 : (k == 0) = true := by simp [c0]
          have ha := refill_bd (t := n) (h := h) h0 hr.1 hn.1 hh.1 hh.2
          have hu := refill_up (t := n) (h := h) h0 hr.1 hn.1 hh.2
          have hpr := Int.mul_nonneg hr.1 hn.1
          obtain ⟨sa, hsa⟩ : ∃ s, satRefill l r n h = s := ⟨_, rfl⟩
          rw [hsa] at ha hu
          replace hsa := Lib.hid hsa
          obtain ⟨na, nb, nc, nd, hN⟩ := W4_open (K + r * n)
          replace hN := Lib.hid hN
          replace c0 := Lib.hid c0
          go_wp2_with (fail)
          refine (btick_at q1' n hr.1 hr.2 hh.1 hh.2 h0 (by omega) hn.1 hn.2).mono ?_; rw [hsa.out]; rintro e wa ⟨rfl, r1, t1⟩
          have rT := bk_turn qT' (by omega) t1
          have rK := bk_turn qK' (by omega) t1
          have rv := bk_turn hlv hv1 t1
          have hBb := Turn.bl hB' hgw t1
          clear t1
          obtain ⟨d0, d1, d2⟩ := held3 rv
          go_wp2_with (fail)
          clear d0 d1 d2 e0 e1 e2
          obtain ⟨d1, y0, y1, y2, y3⟩ := held5 rv rK
          go_region_with (first | (go_at_call 31; (with_reducible refine (times_any r n _ hr.1 hr.2 hn.1 hn.2).mono ?_); rintro e wb ⟨rfl, hB2⟩; obtain ⟨d1', y0', y1', y2', y3'⟩ := held5 (bk_below hB2 (bk_drew rv)) (bk_below hB2 (bk_drew rK))) | (go_at_call 30; (with_reducible refine (plus_at K (r * n) _ _ hK.out rfl _).mono ?_); rintro e wc ⟨rfl, hB3⟩; rw [hN.out]; obtain ⟨u0, u1, u2, u3, v0, v1, v2, v3⟩ := held4' (bk_below hB3 (bk_below hB2 (bk_drew rK)))))
          all_goals (go_wp2_with (fail); go_meet)
          all_goals
            refine ⟨sa, K + r * n, ?_, ?_, ⟨na, nb, nc, nd, hN.out, ?_⟩, ?_, ha.1, ha.2, by omega, fun _ => rfl, fun h => absurd c0.out h, ?_⟩
            · exact bk_far (bk_far (bk_far (bk_far (bk_below hB3 (bk_below hB2 (bk_drew r1))) (by dsimp only; omega) _) (by dsimp only; omega) _) (by dsimp only; omega) _) (by dsimp only; omega) _
            · exact bk_far (bk_far (bk_far (bk_far (bk_below hB3 (bk_below hB2 (bk_drew rT))) (by dsimp only; omega) _) (by dsimp only; omega) _) (by dsimp only; omega) _) (by dsimp only; omega) _
            · exact bk_put (bk_put (bk_put (bk_put (bk_below hB3 (bk_below hB2 (bk_drew rK))) rfl) rfl) rfl) rfl
            · exact bk_far (bk_far (bk_far (bk_far (bk_below hB3 (bk_below hB2 (bk_drew rv))) (by dsimp only; omega) _) (by dsimp only; omega) _) (by dsimp only; omega) _) (by dsimp only; omega) _
            · exact bl_set (bl_set (bl_set (bl_set (bl_then (bl_then (bl_drew hBb) hB2) hB3) (by dsimp only; omega) _) (by dsimp only; omega) _) (by dsimp only; omega) _) (by dsimp only; omega) _
        · have kk0 : (k == 0) = false := by simp [c0]
          go_wp2_with (fail)
          go_meet
          exact ⟨l, K, q1', qT', ⟨ka, kb, kc, kd, hK.out, qK'⟩, hlv, h0, h1, h5, fun h => absurd h c0, fun _ => rfl, hB'⟩
      case rest =>
        obtain ⟨l1, K1, p1, pT, ⟨a1, a2, a3, a4, hK1, pK⟩, pv, m0, m1, m5, mA, mB, hBc⟩ := hcut
        replace hK1 := Lib.hid hK1
        replace mA := Lib.hid mA
        replace mB := Lib.hid mB
        clear q1 qT qK e0 e1 e2 hlv q1' qT' qK' hB' h0 h1 h5 hB
        go_upto_region 13 with fail
        go_cut [49] from 41 to 80 (fun v wx => ∃ (b : Bool) (l2 : Int), v = .bool b ∧ Bt wx g r h l2 ∧ Bk wx w1.heap.size #[.int .u64 ta, .int .u64 tb, .int .u64 tc, .int .u64 td] 45 ∧ Bk wx (w1.heap.size + 1) #[.int .u64 a1, .int .u64 a2, .int .u64 a3, .int .u64 a4] 45 ∧ Bk wx wr.heap.size #[.int .i64 k, .int .u64 n, .int .u64 m] 47 ∧ 0 ≤ l2 ∧ l2 ≤ h ∧ (b = true → l2 = l1 - n) ∧ (b = false → l2 = l1) ∧ Below w.heap.size w wx)
        case first =>
          obtain ⟨d0, d1, d2⟩ := held3 pv
          by_cases c1 : k = 1
          · have kk1 : (k == 1) = true := by simp [c1]
            clear c1
            by_cases c2 : n ≤ l1
            · have hd1 : decide (n ≤ l1) = true := decide_eq_true c2
              have ht1 : takeL l1 n = l1 - n := by unfold takeL; rw [if_pos c2]
              replace ht1 := Lib.hid ht1
              go_wp2_with (fail)
              refine (btake_at p1 n (by omega) hn.1).mono ?_; rw [hd1, ht1.out]; rintro e wa ⟨rfl, r1, t1⟩
              have rT := bk_turn pT (by omega) t1
              have rK := bk_turn pK (by omega) t1
              have rv := bk_turn pv hv1 t1
              have hBb := Turn.bl hBc hgw t1
              clear t1 d0 d1 d2
              go_wp2_with (fail)
              go_meet
              exact ⟨true, l1 - n, rfl, r1, rT, rK, rv, by omega, by omega, fun _ => rfl, (fun h => by cases h), hBb⟩
            · have hd1 : decide (n ≤ l1) = false := decide_eq_false c2
              have ht1 : takeL l1 n = l1 := by unfold takeL; rw [if_neg c2]
              replace ht1 := Lib.hid ht1
              go_wp2_with (fail)
              refine (btake_at p1 n (by omega) hn.1).mono ?_; rw [hd1, ht1.out]; rintro e wa ⟨rfl, r1, t1⟩
              have rT := bk_turn pT (by omega) t1
              have rK := bk_turn pK (by omega) t1
              have rv := bk_turn pv hv1 t1
              have hBb := Turn.bl hBc hgw t1
              clear t1 d0 d1 d2
              go_wp2_with (fail)
              go_meet
              exact ⟨false, l1, rfl, r1, rT, rK, rv, m0, m1, (fun h => by cases h), fun _ => rfl, hBb⟩
          · have kk1 : (k == 1) = false := by simp [c1]
            go_wp2_with (fail)
            go_meet
            exact ⟨false, l1, rfl, p1, pT, pK, pv, m0, m1, (fun h => by cases h), fun _ => rfl, hBc⟩
        case rest =>
          clear p1 pT pK pv hBc
          obtain ⟨b, l2, rfl, p1, pT, pK, pv, o0, o1, oA, oB, hBc⟩ := hcut
          replace oA := Lib.hid oA
          replace oB := Lib.hid oB
          go_upto_if 49 with fail
          go_cut [] from 41 to 80 (fun wx => ∃ T2 : Int, Bt wx g r h l2 ∧ Wd wx w1.heap.size T2 ∧ Bk wx (w1.heap.size + 1) #[.int .u64 a1, .int .u64 a2, .int .u64 a3, .int .u64 a4] 45 ∧ Bk wx wr.heap.size #[.int .i64 k, .int .u64 n, .int .u64 m] 47 ∧ 0 ≤ T2 ∧ T2 + l2 ≤ K1 + h ∧ Below w.heap.size w wx)
          case first =>
            cases b with
            | false =>
              have o2 := oB.out rfl
              go_wp2_with (fail)
              go_meet
              exact ⟨T, p1, ⟨ta, tb, tc, td, hT.out, pT⟩, pK, pv, h2, by omega, hBc⟩
            | true =>
              have o2 := oA.out rfl
              obtain ⟨na, nb, nc, nd, hN⟩ := W4_open (T + n)
              replace hN := Lib.hid hN
              obtain ⟨d1, y0, y1, y2, y3⟩ := held5 pv pT
              go_wp2_with (fail)
              go_region_with (first | (go_at_call 32; (with_reducible refine (of_any n _ hn.1 hn.2).mono ?_); rintro e wb ⟨rfl, hB2⟩; obtain ⟨d1', y0', y1', y2', y3'⟩ := held5 (bk_below hB2 (bk_drew pv)) (bk_below hB2 (bk_drew pT))) | (go_at_call 30; (with_reducible refine (plus_at T n _ _ hT.out rfl _).mono ?_); rintro e wc ⟨rfl, hB3⟩; rw [hN.out]; obtain ⟨u0, u1, u2, u3, v0, v1, v2, v3⟩ := held4' (bk_below hB3 (bk_below hB2 (bk_drew pT)))))
              all_goals (go_wp2_with (fail); go_meet)
              all_goals
                refine ⟨T + n, ?_, ⟨na, nb, nc, nd, hN.out, ?_⟩, ?_, ?_, by omega, by omega, ?_⟩
                · exact bk_far (bk_far (bk_far (bk_far (bk_below hB3 (bk_below hB2 (bk_drew p1))) (by dsimp only; omega) _) (by dsimp only; omega) _) (by dsimp only; omega) _) (by dsimp only; omega) _
                · exact bk_put (bk_put (bk_put (bk_put (bk_below hB3 (bk_below hB2 (bk_drew pT))) rfl) rfl) rfl) rfl
                · exact bk_far (bk_far (bk_far (bk_far (bk_below hB3 (bk_below hB2 (bk_drew pK))) (by dsimp only; omega) _) (by dsimp only; omega) _) (by dsimp only; omega) _) (by dsimp only; omega) _
                · exact bk_far (bk_far (bk_far (bk_far (bk_below hB3 (bk_below hB2 (bk_drew pv))) (by dsimp only; omega) _) (by dsimp only; omega) _) (by dsimp only; omega) _) (by dsimp only; omega) _
                · exact bl_set (bl_set (bl_set (bl_set (bl_then (bl_then (bl_drew hBc) hB2) hB3) (by dsimp only; omega) _) (by dsimp only; omega) _) (by dsimp only; omega) _) (by dsimp only; omega) _
          case rest =>
            clear p1 pT pK pv hBc oA oB
            obtain ⟨T2, p1, ⟨s1, s2, s3, s4, hT2, pT⟩, pK, pv, n0, n1, hBc⟩ := hcut
            replace hT2 := Lib.hid hT2
            obtain ⟨d0, d1, d2⟩ := held3 pv
            have hpr := Int.mul_nonneg hr.1 hn.1
            by_cases cA : k = 0 ∧ 281474976710656 < r
            · have kk0 : (k == 0) = true := by simp [cA.1]
              have hr3 : decide (281474976710656 < r) = true := decide_eq_true cA.2
              clear cA
              go_wp2_with (fail)
              go_ret
              exact ⟨rfl, hBc⟩
            by_cases cB : 281474976710656 < n
            · have hn3 : decide (281474976710656 < n) = true := decide_eq_true cB
              by_cases c0 : k = 0
              · have kk0 : (k == 0) = true := by simp [c0]
                have hr3 : decide (281474976710656 < r) = false := decide_eq_false fun h => cA ⟨c0, h⟩
                clear c0 cA
                go_wp2_with (fail)
                go_ret
                exact ⟨rfl, hBc⟩
              · have kk0 : (k == 0) = false := by simp [c0]
                clear cA
                go_wp2_with (fail)
                go_ret
                exact ⟨rfl, hBc⟩
            have hn3 : decide (281474976710656 < n) = false := decide_eq_false cB
            have hK2 : 0 ≤ K1 ∧ K1 ≤ ((i : Int) + 1) * 79228162514264337593543950336 := by
              by_cases c0 : k = 0
              · have := mA.out c0
                have hrn : r * n ≤ 281474976710656 * 281474976710656 := Int.mul_le_mul (by omega) (by omega) hn.1 (by decide)
                omega
              · have := mB.out c0
                omega
            have hcm : cmpU T2 (K1 + h) ≤ 0 := by
              unfold cmpU
              split
              · decide
              · split
                · omega
                · decide
            have hd4 : decide (0 < cmpU T2 (K1 + h)) = false := decide_eq_false (by omega)
            have hd5 : decide (h < l2) = false := decide_eq_false (by omega)
            by_cases c0 : k = 0
            · have kk0 : (k == 0) = true := by simp [c0]
              have hr3 : decide (281474976710656 < r) = false := decide_eq_false fun h => cA ⟨c0, h⟩
              clear c0 cA
              go_wp2_with (fail)
              obtain ⟨y0, y1, y2, y3, _, _, _, _⟩ := held4' pT
              obtain ⟨z0, z1, z2, z3, _, _, _, _⟩ := held4' pK
              clear d0 d1 d2
              go_region_held3 (fun w' => w'.cell? ⟨w1.heap.size, 0, none⟩ = some (.int .u64 s1) ∧ w'.cell? ⟨w1.heap.size, 1, none⟩ = some (.int .u64 s2) ∧ w'.cell? ⟨w1.heap.size, 2, none⟩ = some (.int .u64 s3) ∧ w'.cell? ⟨w1.heap.size, 3, none⟩ = some (.int .u64 s4) ∧ w'.cell? ⟨w1.heap.size + 1, 0, none⟩ = some (.int .u64 a1) ∧ w'.cell? ⟨w1.heap.size + 1, 1, none⟩ = some (.int .u64 a2) ∧ w'.cell? ⟨w1.heap.size + 1, 2, none⟩ = some (.int .u64 a3) ∧ w'.cell? ⟨w1.heap.size + 1, 3, none⟩ = some (.int .u64 a4))
                (first | exact held8 (bk_below hB4 (bk_below hB3 (bk_below hB2 (bk_drew pT)))) (bk_below hB4 (bk_below hB3 (bk_below hB2 (bk_drew pK)))) | exact held8 (bk_below hB3 (bk_below hB2 (bk_drew pT))) (bk_below hB3 (bk_below hB2 (bk_drew pK))) | exact held8 (bk_below hB2 (bk_drew pT)) (bk_below hB2 (bk_drew pK)) | go_keep)
                (first | (go_at_call 32; (with_reducible refine (of_any h _ hh.1 hh.2).mono ?_); rintro e wb ⟨rfl, hB2⟩) | (go_at_call 30; (with_reducible refine (plus_at K1 h _ _ hK1.out rfl _).mono ?_); rintro e wd ⟨rfl, hB3⟩) | (go_at_call 33; (with_reducible refine (less_at T2 (K1 + h) _ _ hT2.out rfl _ (by omega) (by omega) (by omega) (by omega)).mono ?_); rintro e wf ⟨rfl, hB4⟩) | (go_at_call 29; have hLv := bt_below (bt_below (bt_below (bk_drew p1 : Bt _ g r h l2) hB2) hB3) hB4; (with_reducible refine (blevel_any hLv).mono ?_); rintro e w' ⟨rfl, rfl⟩))
              go_wp2
              exact ⟨⟨i + 1, l2, T2, K1, rfl, by omega, hLv, ⟨s1, s2, s3, s4, hT2.out, bk_below hB4 (bk_below hB3 (bk_below hB2 (bk_drew pT)))⟩, ⟨a1, a2, a3, a4, hK1.out, bk_below hB4 (bk_below hB3 (bk_below hB2 (bk_drew pK)))⟩, o0, o1, n0, hK2.1, by have := hK2.2; push_cast; omega, n1, bl_then (bl_then (bl_then (bl_drew hBc) hB2) hB3) hB4⟩, by simp [intOf]; omega⟩
            · have kk0 : (k == 0) = false := by simp [c0]
              clear c0 cA
              go_wp2_with (fail)
              obtain ⟨y0, y1, y2, y3, _, _, _, _⟩ := held4' pT
              obtain ⟨z0, z1, z2, z3, _, _, _, _⟩ := held4' pK
              clear d0 d1 d2
              go_region_held3 (fun w' => w'.cell? ⟨w1.heap.size, 0, none⟩ = some (.int .u64 s1) ∧ w'.cell? ⟨w1.heap.size, 1, none⟩ = some (.int .u64 s2) ∧ w'.cell? ⟨w1.heap.size, 2, none⟩ = some (.int .u64 s3) ∧ w'.cell? ⟨w1.heap.size, 3, none⟩ = some (.int .u64 s4) ∧ w'.cell? ⟨w1.heap.size + 1, 0, none⟩ = some (.int .u64 a1) ∧ w'.cell? ⟨w1.heap.size + 1, 1, none⟩ = some (.int .u64 a2) ∧ w'.cell? ⟨w1.heap.size + 1, 2, none⟩ = some (.int .u64 a3) ∧ w'.cell? ⟨w1.heap.size + 1, 3, none⟩ = some (.int .u64 a4))
                (first | exact held8 (bk_below hB4 (bk_below hB3 (bk_below hB2 (bk_drew pT)))) (bk_below hB4 (bk_below hB3 (bk_below hB2 (bk_drew pK)))) | exact held8 (bk_below hB3 (bk_below hB2 (bk_drew pT))) (bk_below hB3 (bk_below hB2 (bk_drew pK))) | exact held8 (bk_below hB2 (bk_drew pT)) (bk_below hB2 (bk_drew pK)) | go_keep)
                (first | (go_at_call 32; (with_reducible refine (of_any h _ hh.1 hh.2).mono ?_); rintro e wb ⟨rfl, hB2⟩) | (go_at_call 30; (with_reducible refine (plus_at K1 h _ _ hK1.out rfl _).mono ?_); rintro e wd ⟨rfl, hB3⟩) | (go_at_call 33; (with_reducible refine (less_at T2 (K1 + h) _ _ hT2.out rfl _ (by omega) (by omega) (by omega) (by omega)).mono ?_); rintro e wf ⟨rfl, hB4⟩) | (go_at_call 29; have hLv := bt_below (bt_below (bt_below (bk_drew p1 : Bt _ g r h l2) hB2) hB3) hB4; (with_reducible refine (blevel_any hLv).mono ?_); rintro e w' ⟨rfl, rfl⟩))
              go_wp2
              exact ⟨⟨i + 1, l2, T2, K1, rfl, by omega, hLv, ⟨s1, s2, s3, s4, hT2.out, bk_below hB4 (bk_below hB3 (bk_below hB2 (bk_drew pT)))⟩, ⟨a1, a2, a3, a4, hK1.out, bk_below hB4 (bk_below hB3 (bk_below hB2 (bk_drew pK)))⟩, o0, o1, n0, hK2.1, by have := hK2.2; push_cast; omega, n1, bl_then (bl_then (bl_then (bl_drew hBc) hB2) hB3) hB4⟩, by simp [intOf]; omega⟩
    · have hil2 : decide ((i : Int) < len) = false := decide_eq_false (by omega)
      go_wp2
      go_ret
      exact ⟨rfl, hB⟩
end Go.Proofs.Ytbhhckeccpodmaa
