/- BucketRuns. -/
import Derived.Test.YtbhhckeccpodmaaBucket6
import Derived.LoopTactic
set_option linter.unusedVariables false
set_option linter.unusedSimpArgs false
namespace Go.Proofs.Ytbhhckeccpodmaa
open Go.RowKit
attribute [local go_sem] max2_int min2_int max_two min_two

theorem blevel_dr {g : Nat} {r h l : Int} {w : World} (k : Bt w g r h l) (n : Nat) : Calls Try.prog 29 #[.pointer (some ⟨g, 0, none⟩)] (w.drewN n) fun e w' => e = .returned (.int .u64 l) ∧ w.drewN n = w' :=
  blevel_any (bk_drewN k n : Bt _ g r h l)
set_option maxRecDepth 100000 in
set_option maxHeartbeats 6400000 in
theorem bucketRuns_walk (r : Int) (hr : 0 ≤ r ∧ r ≤ 18446744073709551615) (h : Int) (hh : 0 ≤ h ∧ h ≤ 18446744073709551615) (A : Option Addr) (len cap : Nat) {w : World} (hz : IsFlat actLeaves w A len cap) :
    Calls Try.prog 12 #[.int .u64 r, .int .u64 h, .slice A len cap] w fun e w' => e = .returned (.bool true) ∧ Below w.heap.size w w' := by
  by_cases hl : (100 : Int) < len
  · have hl2 : decide ((100 : Int) < len) = true := decide_eq_true hl
    go_enter Try.func12, Try.ntmps12
    go_wp2_with ((go_at_call 28; (with_reducible refine (bucketAlive_any _).mono ?_); rintro e w0 ⟨rfl, hB0⟩))
    go_ret
    exact ⟨rfl, hB0⟩
  have hl2 : decide ((100 : Int) < len) = false := decide_eq_false hl
  go_enter Try.func12, Try.ntmps12
  go_wp2_with ((go_at_call 28; (with_reducible refine (bucketAlive_any _).mono ?_); rintro e w0 ⟨rfl, hB0⟩))
  refine (bnew_at r h _).mono ?_; rintro e w1 ⟨g, rfl, k1, hg, hB1⟩
  have hBa := bl_then hB0 hB1
  have hgw : w.heap.size ≤ g := by rw [← hg]; exact hB0.size
  have hgT : g < w1.heap.size := bk_lt k1
  go_wp2_with (fail)
  refine (rnew17_any r h _).mono ?_; rintro e w2 ⟨rfl, hB2⟩
  have k2 := bt_below k1 hB2
  have hBb := bl_then hBa hB2
  have hgS : g < w2.heap.size := bk_lt k2
  go_wp2_with (fail)
  go_loopw [31] (fun v wr => ∃ (i : Nat) (R H L : Int), v = .int .i64 i ∧ i ≤ len ∧ Bt wr g R H L ∧ Bk wr w2.heap.size #[.int .u64 R, .int .u64 H, .int .u64 L] 58 ∧ (0 ≤ R ∧ R ≤ 18446744073709551615) ∧ (0 ≤ H ∧ H ≤ 18446744073709551615) ∧ (0 ≤ L ∧ L ≤ H) ∧ Below w.heap.size w wr) (fun v _ => len - (intOf v).toNat)
  case atStart =>
    exact ⟨0, r, h, h, rfl, Nat.zero_le _, bk_alloc k2 _, bk_at rfl, hr, hh, ⟨hh.1, Int.le_refl _⟩, bl_alloc hBb _⟩
  case round =>
    obtain ⟨i, R, H, L, rfl, hi, q1, qS, hR, hH, hL, hB⟩ := hrel
    by_cases hil : i < len
    · obtain ⟨x, k, n, m, rfl, hx, hk, hn, hm, x0, x1, x2⟩ := act_at hz hil
      have e0 := cell_far hB x0
      have e1 := cell_far hB x1
      have e2 := cell_far hB x2
      have hil2 : decide ((i : Int) < len) = true := decide_eq_true (by omega)
      have hlv := bk_new wr #[.int .i64 k, .int .u64 n, .int .u64 m] 47
      have hv0 := bk_lt qS
      have hv1 : wr.heap.size ≠ g := by omega
      have hLm : L ≤ 18446744073709551615 := by omega
      have q1' := bk_alloc q1 (.cells #[.int .i64 k, .int .u64 n, .int .u64 m] 47)
      have qS' := bk_alloc qS (.cells #[.int .i64 k, .int .u64 n, .int .u64 m] 47)
      have hB' := bl_alloc hB (.cells #[.int .i64 k, .int .u64 n, .int .u64 m] 47)
      by_cases c0 : k = 0
      · have kk0 : (k == 0) = true := by simp [c0]
        have kk1 : (k == 1) = false := by simp [c0]
        have kk2 : (k == 2) = false := by simp [c0]
        clear c0
        have hs := refill_bd (t := n) (h := H) hL.1 hR.1 hn.1 hH.1 hH.2
        obtain ⟨S, hS⟩ : ∃ S, satRefill L R n H = S := ⟨_, rfl⟩
        rw [hS] at hs
        replace hS := Lib.hid hS
        go_wp2_with (fail)
        refine (btick_at q1' n hR.1 hR.2 hH.1 hH.2 hL.1 hLm hn.1 hn.2).mono ?_; rw [hS.out]; rintro e wa ⟨rfl, r1, t1⟩
        have rS := bk_turn qS' (by omega) t1
        have rv := bk_turn hlv hv1 t1
        have hBc := Turn.bl hB' hgw t1
        clear t1 e0 e1 e2
        obtain ⟨d0, d1, d2⟩ := held3 rv
        obtain ⟨y0, y1, y2⟩ := held3 rS
        go_wp2_with (fail)
        refine (rtick17_any R H L n _ hR hH ⟨hL.1, hLm⟩ hn).mono ?_; rw [hS.out]; rintro e wb ⟨rfl, hB5⟩
        clear d0 d1 d2 y0 y1 y2
        have sb := bt_below r1 hB5
        have sS := bk_below hB5 rS
        have sv := bk_below hB5 rv
        have hBd := bl_then hBc hB5
        obtain ⟨z0, z1, z2, v0, v1, v2⟩ := held3f sS
        have fb : Bt (((wb.setCell ⟨w2.heap.size, 0, none⟩ (.int .u64 R)).setCell ⟨w2.heap.size, 1, none⟩ (.int .u64 H)).setCell ⟨w2.heap.size, 2, none⟩ (.int .u64 S)) g R H S := bt_far (bt_far (bt_far sb (by omega) _ _) (by omega) _ _) (by omega) _ _
        have fS : Bk (((wb.setCell ⟨w2.heap.size, 0, none⟩ (.int .u64 R)).setCell ⟨w2.heap.size, 1, none⟩ (.int .u64 H)).setCell ⟨w2.heap.size, 2, none⟩ (.int .u64 S)) w2.heap.size #[.int .u64 R, .int .u64 H, .int .u64 S] 58 := bk_put (bk_put (bk_put sS rfl) rfl) rfl
        have fv : Bk (((wb.setCell ⟨w2.heap.size, 0, none⟩ (.int .u64 R)).setCell ⟨w2.heap.size, 1, none⟩ (.int .u64 H)).setCell ⟨w2.heap.size, 2, none⟩ (.int .u64 S)) wr.heap.size #[.int .i64 k, .int .u64 n, .int .u64 m] 47 := bk_far (bk_far (bk_far sv (by dsimp only; omega) _) (by dsimp only; omega) _) (by dsimp only; omega) _
        have hBf : Below w.heap.size w (((wb.setCell ⟨w2.heap.size, 0, none⟩ (.int .u64 R)).setCell ⟨w2.heap.size, 1, none⟩ (.int .u64 H)).setCell ⟨w2.heap.size, 2, none⟩ (.int .u64 S)) := bl_set (bl_set (bl_set hBd (by dsimp only; omega) _) (by dsimp only; omega) _) (by dsimp only; omega) _
        obtain ⟨d0, d1, d2⟩ := held3 fv
        obtain ⟨x0, x1, x2⟩ := held3 sv
        have hne1 : wr.heap.size ≠ w2.heap.size := by omega
        have hne2 : w2.heap.size ≠ wr.heap.size := by omega
        go_wp2_with (fail)
        refine (bwait_any fb m hR.1 hR.2 hs.1 hm.2).mono ?_; rintro e w' ⟨rfl, rfl⟩
        obtain ⟨y0, y1, y2⟩ := held3 fS
        go_wp2_with (fail)
        refine (rwait17_any R H S m _ hR hH hs hm).mono ?_; rintro e wz ⟨rfl, hBz⟩
        generalize waitN R H S m = WN
        generalize waitB R H S m = WB
        have zb := bt_below fb hBz
        have zs := bk_below hBz fS
        have hBe := bl_then hBf hBz
        clear d0 d1 d2 y0 y1 y2 x0 x1 x2 z0 z1 z2 v0 v1 v2
        obtain ⟨y0, y1, y2⟩ := held3 zs
        go_wp2_with (fail)
        go_quiet ((go_at_call 29; (with_reducible refine (blevel_dr zb _).mono ?_); exact fun _ _ k => ⟨k.1, _, k.2.symm⟩))
        go_wp2
        exact ⟨⟨i + 1, R, H, S, rfl, by omega, bk_drewN zb _, bk_drewN zs _, hR, hH, hs, bl_drewN hBe _⟩, by simp [intOf]; omega⟩
      · have kk0 : (k == 0) = false := by simp [c0]
        clear c0
        by_cases c1 : k = 1
        · have kk1 : (k == 1) = true := by simp [c1]
          clear c1
          by_cases c2 : n ≤ L
          · skip
            have hd1 : decide (n ≤ L) = true := decide_eq_true c2
            have ht1 : takeL L n = (L - n) := by unfold takeL; rw [if_pos c2]
            replace ht1 := Lib.hid ht1
            obtain ⟨d0, d1, d2⟩ := held3 hlv
            obtain ⟨y0, y1, y2⟩ := held3 qS'
            go_wp2_with (fail)
            refine (bhas_any q1' n).mono ?_; rw [hd1]; rintro e w' ⟨rfl, rfl⟩
            go_wp2_with (fail)
            refine (rtake17_yes R H L n _ ⟨hL.1, hLm⟩ hn.1 c2).mono ?_; rintro e wb ⟨rfl, hB5⟩
            clear d0 d1 d2 y0 y1 y2 e0 e1 e2
            have sb := bk_alloc (bt_below q1' hB5) (.cells #[.int .u64 R, .int .u64 H, .int .u64 (L - n)] 58)
            have sS := bk_alloc (bk_below hB5 qS') (.cells #[.int .u64 R, .int .u64 H, .int .u64 (L - n)] 58)
            have sv := bk_alloc (bk_below hB5 hlv) (.cells #[.int .u64 R, .int .u64 H, .int .u64 (L - n)] 58)
            have hBd := bl_alloc (bl_then hB' hB5) (.cells #[.int .u64 R, .int .u64 H, .int .u64 (L - n)] 58)
            obtain ⟨z0, z1, z2, v0, v1, v2⟩ := held3f (bk_below hB5 qS')
            obtain ⟨zz0, zz1, zz2, vv0, vv1, vv2⟩ := held3f sS
            have fb0 : Bt ((((wb.alloc (.cells #[.int .u64 R, .int .u64 H, .int .u64 (L - n)] 58)).setCell ⟨w2.heap.size, 0, none⟩ (.int .u64 R)).setCell ⟨w2.heap.size, 1, none⟩ (.int .u64 H)).setCell ⟨w2.heap.size, 2, none⟩ (.int .u64 (L - n))) g R H L := bt_far (bt_far (bt_far sb (by omega) _ _) (by omega) _ _) (by omega) _ _
            have fS0 : Bk ((((wb.alloc (.cells #[.int .u64 R, .int .u64 H, .int .u64 (L - n)] 58)).setCell ⟨w2.heap.size, 0, none⟩ (.int .u64 R)).setCell ⟨w2.heap.size, 1, none⟩ (.int .u64 H)).setCell ⟨w2.heap.size, 2, none⟩ (.int .u64 (L - n))) w2.heap.size #[.int .u64 R, .int .u64 H, .int .u64 (L - n)] 58 := bk_put (bk_put (bk_put sS rfl) rfl) rfl
            have fv0 : Bk ((((wb.alloc (.cells #[.int .u64 R, .int .u64 H, .int .u64 (L - n)] 58)).setCell ⟨w2.heap.size, 0, none⟩ (.int .u64 R)).setCell ⟨w2.heap.size, 1, none⟩ (.int .u64 H)).setCell ⟨w2.heap.size, 2, none⟩ (.int .u64 (L - n))) wr.heap.size #[.int .i64 k, .int .u64 n, .int .u64 m] 47 := bk_far (bk_far (bk_far sv (by dsimp only; omega) _) (by dsimp only; omega) _) (by dsimp only; omega) _
            have hBf0 : Below w.heap.size w ((((wb.alloc (.cells #[.int .u64 R, .int .u64 H, .int .u64 (L - n)] 58)).setCell ⟨w2.heap.size, 0, none⟩ (.int .u64 R)).setCell ⟨w2.heap.size, 1, none⟩ (.int .u64 H)).setCell ⟨w2.heap.size, 2, none⟩ (.int .u64 (L - n))) := bl_set (bl_set (bl_set hBd (by dsimp only; omega) _) (by dsimp only; omega) _) (by dsimp only; omega) _
            obtain ⟨d0, d1, d2⟩ := held3 fv0
            obtain ⟨x0, x1, x2⟩ := held3 (bk_below hB5 hlv)
            have hne1 : wr.heap.size ≠ w2.heap.size := by omega
            have hne2 : w2.heap.size ≠ wr.heap.size := by omega
            go_wp2_with (fail)
            with_reducible refine (btake_at fb0 n hLm hn.1).mono ?_; rw [hd1, ht1.out]; rintro e wc ⟨rfl, fb, t1⟩
            have fS := bk_turn fS0 (by omega) t1
            have fv := bk_turn fv0 hv1 t1
            have hBf := Turn.bl hBf0 hgw t1
            clear t1 d0 d1 d2 x0 x1 x2 z0 z1 z2 v0 v1 v2 hne1 hne2 zz0 zz1 zz2 vv0 vv1 vv2
            have hLn : 0 ≤ L - n ∧ L - n ≤ H := ⟨by omega, by omega⟩
            obtain ⟨d0, d1, d2⟩ := held3 fv
            obtain ⟨x0, x1, x2⟩ := held3 fv
            have hne1 : wr.heap.size ≠ w2.heap.size := by omega
            have hne2 : w2.heap.size ≠ wr.heap.size := by omega
            go_wp2_with (fail)
            refine (bwait_any fb m hR.1 hR.2 hLn.1 hm.2).mono ?_; rintro e w' ⟨rfl, rfl⟩
            obtain ⟨y0, y1, y2⟩ := held3 fS
            go_wp2_with (fail)
            refine (rwait17_any R H (L - n) m _ hR hH hLn hm).mono ?_; rintro e wz ⟨rfl, hBz⟩
            generalize waitN R H (L - n) m = WN
            generalize waitB R H (L - n) m = WB
            have zb := bt_below fb hBz
            have zs := bk_below hBz fS
            have hBe := bl_then hBf hBz
            clear d0 d1 d2 y0 y1 y2 x0 x1 x2
            obtain ⟨y0, y1, y2⟩ := held3 zs
            go_wp2_with (fail)
            go_quiet ((go_at_call 29; (with_reducible refine (blevel_dr zb _).mono ?_); exact fun _ _ k => ⟨k.1, _, k.2.symm⟩))
            go_wp2
            exact ⟨⟨i + 1, R, H, (L - n), rfl, by omega, bk_drewN zb _, bk_drewN zs _, hR, hH, hLn, bl_drewN hBe _⟩, by simp [intOf]; omega⟩
          · skip
            have hd1 : decide (n ≤ L) = false := decide_eq_false (by omega)
            have ht1 : takeL L n = L := by unfold takeL; rw [if_neg c2]
            replace ht1 := Lib.hid ht1
            obtain ⟨d0, d1, d2⟩ := held3 hlv
            obtain ⟨y0, y1, y2⟩ := held3 qS'
            go_wp2_with (fail)
            refine (bhas_any q1' n).mono ?_; rw [hd1]; rintro e w' ⟨rfl, rfl⟩
            go_wp2_with (fail)
            refine (rtake17_no R H L n _ (by omega)).mono ?_; rintro e wb ⟨rfl, hB5⟩
            clear d0 d1 d2 y0 y1 y2 e0 e1 e2
            have sb := bk_alloc (bt_below q1' hB5) (.cells #[.int .u64 R, .int .u64 H, .int .u64 L] 58)
            have sS := bk_alloc (bk_below hB5 qS') (.cells #[.int .u64 R, .int .u64 H, .int .u64 L] 58)
            have sv := bk_alloc (bk_below hB5 hlv) (.cells #[.int .u64 R, .int .u64 H, .int .u64 L] 58)
            have hBd := bl_alloc (bl_then hB' hB5) (.cells #[.int .u64 R, .int .u64 H, .int .u64 L] 58)
            obtain ⟨z0, z1, z2, v0, v1, v2⟩ := held3f (bk_below hB5 qS')
            obtain ⟨zz0, zz1, zz2, vv0, vv1, vv2⟩ := held3f sS
            have fb0 : Bt ((((wb.alloc (.cells #[.int .u64 R, .int .u64 H, .int .u64 L] 58)).setCell ⟨w2.heap.size, 0, none⟩ (.int .u64 R)).setCell ⟨w2.heap.size, 1, none⟩ (.int .u64 H)).setCell ⟨w2.heap.size, 2, none⟩ (.int .u64 L)) g R H L := bt_far (bt_far (bt_far sb (by omega) _ _) (by omega) _ _) (by omega) _ _
            have fS0 : Bk ((((wb.alloc (.cells #[.int .u64 R, .int .u64 H, .int .u64 L] 58)).setCell ⟨w2.heap.size, 0, none⟩ (.int .u64 R)).setCell ⟨w2.heap.size, 1, none⟩ (.int .u64 H)).setCell ⟨w2.heap.size, 2, none⟩ (.int .u64 L)) w2.heap.size #[.int .u64 R, .int .u64 H, .int .u64 L] 58 := bk_put (bk_put (bk_put sS rfl) rfl) rfl
            have fv0 : Bk ((((wb.alloc (.cells #[.int .u64 R, .int .u64 H, .int .u64 L] 58)).setCell ⟨w2.heap.size, 0, none⟩ (.int .u64 R)).setCell ⟨w2.heap.size, 1, none⟩ (.int .u64 H)).setCell ⟨w2.heap.size, 2, none⟩ (.int .u64 L)) wr.heap.size #[.int .i64 k, .int .u64 n, .int .u64 m] 47 := bk_far (bk_far (bk_far sv (by dsimp only; omega) _) (by dsimp only; omega) _) (by dsimp only; omega) _
            have hBf0 : Below w.heap.size w ((((wb.alloc (.cells #[.int .u64 R, .int .u64 H, .int .u64 L] 58)).setCell ⟨w2.heap.size, 0, none⟩ (.int .u64 R)).setCell ⟨w2.heap.size, 1, none⟩ (.int .u64 H)).setCell ⟨w2.heap.size, 2, none⟩ (.int .u64 L)) := bl_set (bl_set (bl_set hBd (by dsimp only; omega) _) (by dsimp only; omega) _) (by dsimp only; omega) _
            obtain ⟨d0, d1, d2⟩ := held3 fv0
            obtain ⟨x0, x1, x2⟩ := held3 (bk_below hB5 hlv)
            have hne1 : wr.heap.size ≠ w2.heap.size := by omega
            have hne2 : w2.heap.size ≠ wr.heap.size := by omega
            go_wp2_with (fail)
            with_reducible refine (btake_at fb0 n hLm hn.1).mono ?_; rw [hd1, ht1.out]; rintro e wc ⟨rfl, fb, t1⟩
            have fS := bk_turn fS0 (by omega) t1
            have fv := bk_turn fv0 hv1 t1
            have hBf := Turn.bl hBf0 hgw t1
            clear t1 d0 d1 d2 x0 x1 x2 z0 z1 z2 v0 v1 v2 hne1 hne2 zz0 zz1 zz2 vv0 vv1 vv2
            obtain ⟨d0, d1, d2⟩ := held3 fv
            obtain ⟨x0, x1, x2⟩ := held3 fv
            have hne1 : wr.heap.size ≠ w2.heap.size := by omega
            have hne2 : w2.heap.size ≠ wr.heap.size := by omega
            go_wp2_with (fail)
            refine (bwait_any fb m hR.1 hR.2 hL.1 hm.2).mono ?_; rintro e w' ⟨rfl, rfl⟩
            obtain ⟨y0, y1, y2⟩ := held3 fS
            go_wp2_with (fail)
            refine (rwait17_any R H L m _ hR hH hL hm).mono ?_; rintro e wz ⟨rfl, hBz⟩
            generalize waitN R H L m = WN
            generalize waitB R H L m = WB
            have zb := bt_below fb hBz
            have zs := bk_below hBz fS
            have hBe := bl_then hBf hBz
            clear d0 d1 d2 y0 y1 y2 x0 x1 x2
            obtain ⟨y0, y1, y2⟩ := held3 zs
            go_wp2_with (fail)
            go_quiet ((go_at_call 29; (with_reducible refine (blevel_dr zb _).mono ?_); exact fun _ _ k => ⟨k.1, _, k.2.symm⟩))
            go_wp2
            exact ⟨⟨i + 1, R, H, L, rfl, by omega, bk_drewN zb _, bk_drewN zs _, hR, hH, hL, bl_drewN hBe _⟩, by simp [intOf]; omega⟩
        have kk1 : (k == 1) = false := by simp [c1]
        by_cases c3 : k = 2
        · skip
          have kk2 : (k == 2) = true := by simp [c3]
          clear c3
          obtain ⟨d0, d1, d2⟩ := held3 hlv
          go_wp2_with (fail)
          refine (bset_any q1' n m).mono ?_; rintro e wa ⟨rfl, r1, t1⟩
          have rS := bk_turn qS' (by omega) t1
          have rv := bk_turn hlv hv1 t1
          have hBc := Turn.bl hB' hgw t1
          clear t1 e0 e1 e2 d0 d1 d2
          obtain ⟨d0, d1, d2⟩ := held3 rv
          go_wp2_with (fail)
          refine (rnew17_any n m _).mono ?_; rintro e wb ⟨rfl, hB5⟩
          clear d0 d1 d2
          have sb := bt_below r1 hB5
          have sS := bk_below hB5 rS
          have sv := bk_below hB5 rv
          have hBd := bl_then hBc hB5
          obtain ⟨z0, z1, z2, v0, v1, v2⟩ := held3f sS
          have fb : Bt (((wb.setCell ⟨w2.heap.size, 0, none⟩ (.int .u64 n)).setCell ⟨w2.heap.size, 1, none⟩ (.int .u64 m)).setCell ⟨w2.heap.size, 2, none⟩ (.int .u64 m)) g n m m := bt_far (bt_far (bt_far sb (by omega) _ _) (by omega) _ _) (by omega) _ _
          have fS : Bk (((wb.setCell ⟨w2.heap.size, 0, none⟩ (.int .u64 n)).setCell ⟨w2.heap.size, 1, none⟩ (.int .u64 m)).setCell ⟨w2.heap.size, 2, none⟩ (.int .u64 m)) w2.heap.size #[.int .u64 n, .int .u64 m, .int .u64 m] 58 := bk_put (bk_put (bk_put sS rfl) rfl) rfl
          have fv : Bk (((wb.setCell ⟨w2.heap.size, 0, none⟩ (.int .u64 n)).setCell ⟨w2.heap.size, 1, none⟩ (.int .u64 m)).setCell ⟨w2.heap.size, 2, none⟩ (.int .u64 m)) wr.heap.size #[.int .i64 k, .int .u64 n, .int .u64 m] 47 := bk_far (bk_far (bk_far sv (by dsimp only; omega) _) (by dsimp only; omega) _) (by dsimp only; omega) _
          have hBf : Below w.heap.size w (((wb.setCell ⟨w2.heap.size, 0, none⟩ (.int .u64 n)).setCell ⟨w2.heap.size, 1, none⟩ (.int .u64 m)).setCell ⟨w2.heap.size, 2, none⟩ (.int .u64 m)) := bl_set (bl_set (bl_set hBd (by dsimp only; omega) _) (by dsimp only; omega) _) (by dsimp only; omega) _
          have hmm : 0 ≤ m ∧ m ≤ m := ⟨hm.1, Int.le_refl _⟩
          obtain ⟨d0, d1, d2⟩ := held3 fv
          obtain ⟨x0, x1, x2⟩ := held3 sv
          have hne1 : wr.heap.size ≠ w2.heap.size := by omega
          have hne2 : w2.heap.size ≠ wr.heap.size := by omega
          go_wp2_with (fail)
          refine (bwait_any fb m hn.1 hn.2 hmm.1 hm.2).mono ?_; rintro e w' ⟨rfl, rfl⟩
          obtain ⟨y0, y1, y2⟩ := held3 fS
          go_wp2_with (fail)
          refine (rwait17_any n m m m _ hn hm hmm hm).mono ?_; rintro e wz ⟨rfl, hBz⟩
          generalize waitN n m m m = WN
          generalize waitB n m m m = WB
          have zb := bt_below fb hBz
          have zs := bk_below hBz fS
          have hBe := bl_then hBf hBz
          clear d0 d1 d2 y0 y1 y2 x0 x1 x2 z0 z1 z2 v0 v1 v2
          obtain ⟨y0, y1, y2⟩ := held3 zs
          go_wp2_with (fail)
          go_quiet ((go_at_call 29; (with_reducible refine (blevel_dr zb _).mono ?_); exact fun _ _ k => ⟨k.1, _, k.2.symm⟩))
          go_wp2
          exact ⟨⟨i + 1, n, m, m, rfl, by omega, bk_drewN zb _, bk_drewN zs _, hn, hm, hmm, bl_drewN hBe _⟩, by simp [intOf]; omega⟩
        · have kk2 : (k == 2) = false := by simp [c3]
          obtain ⟨d0, d1, d2⟩ := held3 hlv
          obtain ⟨x0, x1, x2⟩ := held3 hlv
          have hne1 : wr.heap.size ≠ w2.heap.size := by omega
          have hne2 : w2.heap.size ≠ wr.heap.size := by omega
          go_wp2_with (fail)
          refine (bwait_any q1' m hR.1 hR.2 hL.1 hm.2).mono ?_; rintro e w' ⟨rfl, rfl⟩
          obtain ⟨y0, y1, y2⟩ := held3 qS'
          go_wp2_with (fail)
          refine (rwait17_any R H L m _ hR hH hL hm).mono ?_; rintro e wz ⟨rfl, hBz⟩
          generalize waitN R H L m = WN
          generalize waitB R H L m = WB
          have zb := bt_below q1' hBz
          have zs := bk_below hBz qS'
          have hBe := bl_then hB' hBz
          clear d0 d1 d2 y0 y1 y2 x0 x1 x2
          obtain ⟨y0, y1, y2⟩ := held3 zs
          go_wp2_with (fail)
          go_quiet ((go_at_call 29; (with_reducible refine (blevel_dr zb _).mono ?_); exact fun _ _ k => ⟨k.1, _, k.2.symm⟩))
          go_wp2
          exact ⟨⟨i + 1, R, H, L, rfl, by omega, bk_drewN zb _, bk_drewN zs _, hR, hH, hL, bl_drewN hBe _⟩, by simp [intOf]; omega⟩
    · have hil2 : decide ((i : Int) < len) = false := decide_eq_false (by omega)
      go_wp2
      go_ret
      exact ⟨rfl, hB⟩
end Go.Proofs.Ytbhhckeccpodmaa
