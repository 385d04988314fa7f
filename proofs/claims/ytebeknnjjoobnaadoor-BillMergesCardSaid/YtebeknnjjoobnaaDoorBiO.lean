/- Contract: the sums of rows (bill.Total). -/
import Derived.Test.YtebeknnjjoobnaaDoorBiN
set_option linter.unusedVariables false
set_option linter.unusedSimpArgs false
set_option maxRecDepth 100000
namespace Go.Proofs.YtebeknnjjoobnaaDoor
open Go.RowKit Go.Sort Go.Lib Go.Shelf Go.Proofs
attribute [local go_sem] max2_int min2_int max_two min_two
attribute [local go_sem ↓] eql_rw neq_rw

/-- All rows' sums. -/
def totA (rows : List Rw) : Bv := rows.foldl (fun v x => addV v x.2) zeroV
theorem totA_snoc (rows : List Rw) (x : Rw) : totA (rows ++ [x]) = addV (totA rows) x.2 := by unfold totA; rw [List.foldl_append]; rfl
theorem totA_ok {rows : List Rw} : (∀ x ∈ rows, RwOk x) → BvOk (totA rows) := by
  refine rev_ind (p := fun rows => (∀ x ∈ rows, RwOk x) → BvOk (totA rows)) (fun _ => zeroV_ok) (fun l x ih h => ?_) rows
  rw [totA_snoc]
  exact addV_ok (ih fun y hy => h y (by simp [hy])) (h x (by simp)).2
theorem bk_far6 {w : World} {g h : Nat} {cs : Array Value} {t : TypeId} {a b c d e f : Value} (k : Bk w g cs t) (hne : g ≠ h) : Bk ((((((w.setCell ⟨h, 0, none⟩ a).setCell ⟨h, 1, none⟩ b).setCell ⟨h, 2, none⟩ c).setCell ⟨h, 3, none⟩ d).setCell ⟨h, 4, none⟩ e).setCell ⟨h, 5, none⟩ f) g cs t :=
  bk_far (bk_far (bk_far (bk_far (bk_far (bk_far k hne _) hne _) hne _) hne _) hne _) hne _
set_option maxHeartbeats 3200000 in
theorem total_any (A : Option Addr) (rows : List Rw) (cap : Nat) (w : World) (hA : RwAt w A rows) (hro : ∀ x ∈ rows, RwOk x) (hl : rows.length ≤ 1000) :
    Calls Tryd.prog 17 #[.slice A rows.length cap] w fun e w' => e = .returned (.agg #[.int .i64 0, .int .u64 0, .int .u64 (totA rows).1, .int .u64 (totA rows).2.1, .int .u64 (totA rows).2.2.1, .int .u64 (totA rows).2.2.2]) ∧ Below w.heap.size w w' := by
  have hb0 := bk_alloc (bk_new w #[.int .i64 0, .int .u64 0, .int .u64 0, .int .u64 0, .int .u64 0, .int .u64 0] 32) (.cells #[.int .i64 0, .int .u64 0, .int .u64 0, .int .u64 0, .int .u64 0, .int .u64 0] 32)
  have hb1 := bk_at (w := w.alloc (.cells #[.int .i64 0, .int .u64 0, .int .u64 0, .int .u64 0, .int .u64 0, .int .u64 0] 32)) (g := w.heap.size + 1) (cs := #[.int .i64 0, .int .u64 0, .int .u64 0, .int .u64 0, .int .u64 0, .int .u64 0]) (t := 32) (by simp)
  have hB0 := bl_alloc (bl_alloc (Below.refl _ w) (.cells #[.int .i64 0, .int .u64 0, .int .u64 0, .int .u64 0, .int .u64 0, .int .u64 0] 32)) (.cells #[.int .i64 0, .int .u64 0, .int .u64 0, .int .u64 0, .int .u64 0, .int .u64 0] 32)
  obtain ⟨N, hN⟩ : ∃ N, rows.length = N := ⟨_, rfl⟩
  rw [hN] at hl ⊢
  obtain ⟨T, hT⟩ : ∃ T, totA rows = T := ⟨_, rfl⟩
  rw [hT]
  replace hN := Lib.hid hN
  replace hT := Lib.hid hT
  replace hro := Lib.hid hro
  replace hb0 := Lib.hid hb0
  replace hb1 := Lib.hid hb1
  replace hB0 := Lib.hid hB0
  replace hA := Lib.hid hA
  go_enter Tryd.func17, Tryd.ntmps17
  go_wp2_with (fail)
  go_loopw [8] (fun v wr => ∃ i : Nat, v = .int .i64 i ∧ i ≤ N ∧ Bk wr w.heap.size #[.int .i64 0, .int .u64 0, .int .u64 0, .int .u64 0, .int .u64 0, .int .u64 0] 32 ∧ Bk wr (w.heap.size + 1) #[.int .i64 0, .int .u64 0, .int .u64 (totA (rows.take i)).1, .int .u64 (totA (rows.take i)).2.1, .int .u64 (totA (rows.take i)).2.2.1, .int .u64 (totA (rows.take i)).2.2.2] 32 ∧ Below w.heap.size w wr) (fun v _ => N - (intOf v).toNat)
  case atStart => exact ⟨0, rfl, Nat.zero_le _, hb0.out, hb1.out, hB0.out⟩
  case round =>
    obtain ⟨i, rfl, hi, hx0, hx1, hBr⟩ := hrel
    by_cases hil : i < N
    · have hil2 : decide ((i : Int) < (N : Int)) = true := decide_eq_true (by omega)
      obtain ⟨ad, hAd, hrow⟩ := (hA.out.below hBr) i (by rw [hN.out]; exact hil)
      subst hAd
      have hxo := hro.out (rows.getD i zeroRw) (getD_mem rows i zeroRw (by rw [hN.out]; exact hil))
      have hstep : addV (totA (rows.take i)) (rows.getD i zeroRw).2 = totA (rows.take (i + 1)) := by rw [take_snoc rows i (by rw [hN.out]; exact hil), totA_snoc]
      have hLo := totA_ok (rows := rows.take i) (fun y hy => hro.out y (List.mem_of_mem_take hy))
      obtain ⟨x, hx⟩ : ∃ x, rows.getD i zeroRw = x := ⟨_, rfl⟩
      rw [hx] at hxo hrow hstep
      obtain ⟨c0, c1, c2, c3, c4, c5⟩ := rw_cellsAt hrow
      obtain ⟨V, hV⟩ : ∃ V, totA (rows.take i) = V := ⟨_, rfl⟩
      obtain ⟨V2, hV2⟩ : ∃ V, totA (rows.take (i + 1)) = V := ⟨_, rfl⟩
      rw [hV] at hx1 hstep hLo
      rw [hV2] at hstep
      have k1 := fun W => badd_any ((0, 0), V) x hLo hxo.2 W
      simp only [hstep] at k1
      have hx2 := bk_alloc hx0 (.cells #[.int .i64 x.1.1, .int .u64 x.1.2, .int .u64 x.2.1, .int .u64 x.2.2.1, .int .u64 x.2.2.2.1, .int .u64 x.2.2.2.2] 32)
      have hx3 := bk_alloc hx1 (.cells #[.int .i64 x.1.1, .int .u64 x.1.2, .int .u64 x.2.1, .int .u64 x.2.2.1, .int .u64 x.2.2.2.1, .int .u64 x.2.2.2.2] 32)
      have hx4 := bk_new wr #[.int .i64 x.1.1, .int .u64 x.1.2, .int .u64 x.2.1, .int .u64 x.2.2.1, .int .u64 x.2.2.2.1, .int .u64 x.2.2.2.2] 32
      have hBa := bl_alloc hBr (.cells #[.int .i64 x.1.1, .int .u64 x.1.2, .int .u64 x.2.1, .int .u64 x.2.2.1, .int .u64 x.2.2.2.1, .int .u64 x.2.2.2.2] 32)
      obtain ⟨y0, y1, y2, y3, y4, y5, _⟩ := hold6 hx3
      obtain ⟨z0, z1, z2, z3, z4, z5, _⟩ := hold6 hx4
      clear hx hV hstep hLo hrow hx0 hx1 hx4 hBr
      replace k1 := Lib.hid k1
      replace hx2 := Lib.hid hx2
      replace hx3 := Lib.hid hx3
      replace hBa := Lib.hid hBa
      replace hV2 := Lib.hid hV2
      go_wp2_with (fail)
      refine (k1.out _).mono ?_; rintro e w3 ⟨rfl, hB4⟩
      have hb5 := bk_below hB4 hx3.out
      have hb6 := bk_below hB4 hx2.out
      obtain ⟨u0, u1, u2, u3, u4, u5, v0, v1, v2, v3, v4, v5⟩ := hold6 hb5
      have hB5 := bl_then hBa.out hB4
      replace hb5 := Lib.hid hb5
      replace hb6 := Lib.hid hb6
      replace hB5 := Lib.hid hB5
      clear y0 y1 y2 y3 y4 y5 z0 z1 z2 z3 z4 z5 c0 c1 c2 c3 c4 c5
      go_wp2
      refine ⟨⟨i + 1, by first | rfl | (congr 1; omega), by omega, bk_far6 hb6.out (by omega), by rw [hV2.out]; exact bk_set6 hb5.out, bl_set6 hB5.out (by omega)⟩, by simp [intOf]; omega⟩
    · have hil2 : decide ((i : Int) < (N : Int)) = false := decide_eq_false (by omega)
      obtain rfl : i = N := by omega
      rw [show rows.take i = rows by rw [← hN.out]; exact List.take_length, hT.out] at hx1
      obtain ⟨y0, y1, y2, y3, y4, y5, _⟩ := hold6 hx1
      obtain ⟨u0, u1, u2, u3, u4, u5, v0, v1, v2, v3, v4, v5⟩ := hold6 hx0
      replace hBr := Lib.hid hBr
      go_wp2
      exact ⟨rfl, _, end_rw rfl _ rfl (bk_set6 hx0), rfl, bl_set6 hBr.out (Nat.le_refl _)⟩
end Go.Proofs.YtebeknnjjoobnaaDoor
