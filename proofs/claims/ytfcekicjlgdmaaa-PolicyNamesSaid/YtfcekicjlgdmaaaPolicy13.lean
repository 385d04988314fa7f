/- The walk of PolicyNames. -/
import Derived.Test.YtfcekicjlgdmaaaPolicy12
set_option linter.unusedVariables false
set_option linter.unusedSimpArgs false
set_option maxRecDepth 100000
namespace Go.Proofs.Ytfcekicjlgdmaaa
open Go.RowKit Go.Proofs.YtfcekicjlgdmaaaW.PrintWords
attribute [local go_sem] max2_int min2_int max_two min_two
attribute [local go_sem ↓] eql_nt neq_nt eql_ad net_addr net_bits eql_pol neq_pol

theorem rows_lit (W : World) (ps : List Pol) (hok : OkAll ps) (hl : ps.length ≤ 1000) : PolsAt (W.alloc (.cells (rows ps).toArray 28)) (some ⟨W.heap.size, 0, none⟩) ps := fun i hi => by
  refine ⟨hok i hi, _, rfl, fun j hj => ?_⟩
  rw [polRow_len] at hj
  rw [addr_add, Addr.add_lit, Nat.zero_add, cell_of_row _ W.heap.size _ _ 28 (0, 0) (heap_alloc_new W _), ← rows_at ps i hi j hj]
  simp
def badP : Pol := (3, (10, 3, 0, 0, 16), 5, 3000, 0, 0, 9000, 1499, 1500)
theorem badP_ok : PolOk badP := by unfold PolOk NtOkT NtOk AdOk InI64 InU64 badP; dsimp only; omega
theorem bad_right : rightP badP = false := by kernel_rfl
theorem okAll_one {x : Pol} (h : PolOk x) : OkAll [x] := fun i hi => by
  obtain rfl : i = 0 := by simpa using hi
  exact h
theorem okAll_two {x y : Pol} (h : PolOk x) (h' : PolOk y) : OkAll [x, y] := fun i hi => by
  have : i < 2 := hi
  rcases (by omega : i = 0 ∨ i = 1) with rfl | rfl
  · exact h
  · exact h'
theorem pols_bad : polsV [badP] = 111 := by
  refine polsV_at (i := 0) (by simp) (fun h => ?_)
  have := h.1
  rw [show ([badP] : List Pol).getD 0 zeroP = badP from rfl, bad_right] at this
  cases this
theorem pols_ord : polsV [oneP 1, oneP 2] = 0 := by
  refine polsV_yes ⟨by simp, fun i hi => ?_⟩
  have : i < 2 := hi
  rcases (by omega : i = 0 ∨ i = 1) with rfl | rfl
  · exact ⟨right_one, fun k hk => absurd hk (by omega)⟩
  · refine ⟨right_two, fun k hk => ?_⟩
    obtain rfl : k = 0 := by omega
    exact ⟨by show (1 : Int) < 2; omega, by decide⟩
theorem pols_rev : polsV [oneP 2, oneP 1] = 111 := by
  refine polsV_at (i := 1) (by simp) (fun h => ?_)
  have := (h.2 0 (by omega)).1
  have h2 : (2 : Int) < 1 := this
  omega
set_option maxHeartbeats 1600000 in
theorem policyNames_walk (w : World) : Calls Try.prog 5 #[] w fun e w' => e = .returned (.bool true) ∧ Below w.heap.size w w' := by
  have hr := fun w => pright_any badP badP_ok w
  rw [bad_right] at hr
  unfold badP at hr
  dsimp only at hr
  have k1 : PolOk (oneP 1) := oneP_ok (by omega)
  have k2 : PolOk (oneP 2) := oneP_ok (by omega)
  have h1 : ∀ W : World, Calls Try.prog 23 #[.slice (some ⟨W.heap.size, 0, none⟩) 1 1] (W.alloc (.cells #[.int .i64 3, .int .u8 10, .int .u8 3, .int .u8 0, .int .u8 0, .int .i64 16, .int .u64 5, .int .u64 3000, .int .u64 0, .int .u64 0, .int .u64 9000, .int .u64 1499, .int .u64 1500] 28)) fun e w' => e = .returned (.int .i64 111) ∧ Below (W.alloc (.cells #[.int .i64 3, .int .u8 10, .int .u8 3, .int .u8 0, .int .u8 0, .int .i64 16, .int .u64 5, .int .u64 3000, .int .u64 0, .int .u64 0, .int .u64 9000, .int .u64 1499, .int .u64 1500] 28)).heap.size (W.alloc (.cells #[.int .i64 3, .int .u8 10, .int .u8 3, .int .u8 0, .int .u8 0, .int .i64 16, .int .u64 5, .int .u64 3000, .int .u64 0, .int .u64 0, .int .u64 9000, .int .u64 1499, .int .u64 1500] 28)) w' := fun W => by
    have := pall_any (some ⟨W.heap.size, 0, none⟩) 1 [badP] _ (rows_lit W [badP] (okAll_one badP_ok) (by simp)) (by simp) (by omega)
    rw [pols_bad] at this
    exact this
  have h2 : ∀ W : World, Calls Try.prog 23 #[.slice (some ⟨W.heap.size, 0, none⟩) 2 2] (W.alloc (.cells #[.int .i64 1, .int .u8 10, .int .u8 1, .int .u8 0, .int .u8 0, .int .i64 16, .int .u64 5, .int .u64 3000, .int .u64 0, .int .u64 0, .int .u64 9000, .int .u64 1500, .int .u64 1500, .int .i64 2, .int .u8 10, .int .u8 2, .int .u8 0, .int .u8 0, .int .i64 16, .int .u64 5, .int .u64 3000, .int .u64 0, .int .u64 0, .int .u64 9000, .int .u64 1500, .int .u64 1500] 28)) fun e w' => e = .returned (.int .i64 0) ∧ Below (W.alloc (.cells #[.int .i64 1, .int .u8 10, .int .u8 1, .int .u8 0, .int .u8 0, .int .i64 16, .int .u64 5, .int .u64 3000, .int .u64 0, .int .u64 0, .int .u64 9000, .int .u64 1500, .int .u64 1500, .int .i64 2, .int .u8 10, .int .u8 2, .int .u8 0, .int .u8 0, .int .i64 16, .int .u64 5, .int .u64 3000, .int .u64 0, .int .u64 0, .int .u64 9000, .int .u64 1500, .int .u64 1500] 28)).heap.size (W.alloc (.cells #[.int .i64 1, .int .u8 10, .int .u8 1, .int .u8 0, .int .u8 0, .int .i64 16, .int .u64 5, .int .u64 3000, .int .u64 0, .int .u64 0, .int .u64 9000, .int .u64 1500, .int .u64 1500, .int .i64 2, .int .u8 10, .int .u8 2, .int .u8 0, .int .u8 0, .int .i64 16, .int .u64 5, .int .u64 3000, .int .u64 0, .int .u64 0, .int .u64 9000, .int .u64 1500, .int .u64 1500] 28)) w' := fun W => by
    have := pall_any (some ⟨W.heap.size, 0, none⟩) 2 [oneP 1, oneP 2] _ (rows_lit W [oneP 1, oneP 2] (okAll_two k1 k2) (by simp)) (by simp) (by omega)
    rw [pols_ord] at this
    exact this
  have h3 : ∀ W : World, Calls Try.prog 23 #[.slice (some ⟨W.heap.size, 0, none⟩) 2 2] (W.alloc (.cells #[.int .i64 2, .int .u8 10, .int .u8 2, .int .u8 0, .int .u8 0, .int .i64 16, .int .u64 5, .int .u64 3000, .int .u64 0, .int .u64 0, .int .u64 9000, .int .u64 1500, .int .u64 1500, .int .i64 1, .int .u8 10, .int .u8 1, .int .u8 0, .int .u8 0, .int .i64 16, .int .u64 5, .int .u64 3000, .int .u64 0, .int .u64 0, .int .u64 9000, .int .u64 1500, .int .u64 1500] 28)) fun e w' => e = .returned (.int .i64 111) ∧ Below (W.alloc (.cells #[.int .i64 2, .int .u8 10, .int .u8 2, .int .u8 0, .int .u8 0, .int .i64 16, .int .u64 5, .int .u64 3000, .int .u64 0, .int .u64 0, .int .u64 9000, .int .u64 1500, .int .u64 1500, .int .i64 1, .int .u8 10, .int .u8 1, .int .u8 0, .int .u8 0, .int .i64 16, .int .u64 5, .int .u64 3000, .int .u64 0, .int .u64 0, .int .u64 9000, .int .u64 1500, .int .u64 1500] 28)).heap.size (W.alloc (.cells #[.int .i64 2, .int .u8 10, .int .u8 2, .int .u8 0, .int .u8 0, .int .i64 16, .int .u64 5, .int .u64 3000, .int .u64 0, .int .u64 0, .int .u64 9000, .int .u64 1500, .int .u64 1500, .int .i64 1, .int .u8 10, .int .u8 1, .int .u8 0, .int .u8 0, .int .i64 16, .int .u64 5, .int .u64 3000, .int .u64 0, .int .u64 0, .int .u64 9000, .int .u64 1500, .int .u64 1500] 28)) w' := fun W => by
    have := pall_any (some ⟨W.heap.size, 0, none⟩) 2 [oneP 2, oneP 1] _ (rows_lit W [oneP 2, oneP 1] (okAll_two k2 k1) (by simp)) (by simp) (by omega)
    rw [pols_rev] at this
    exact this
  replace hr := Lib.hid hr
  replace h1 := Lib.hid h1
  replace h2 := Lib.hid h2
  replace h3 := Lib.hid h3
  go_enter Try.func5, Try.ntmps5
  go_wp2_with (first | (go_at_call 14; refine (palive_any _).mono ?_; rintro e w1 ⟨rfl, hB1⟩; have hbx := bk_below hB1 (bk_new w0 #[.int .i64 3, .int .u8 10, .int .u8 3, .int .u8 0, .int .u8 0, .int .i64 16, .int .u64 5, .int .u64 3000, .int .u64 0, .int .u64 0, .int .u64 9000, .int .u64 1499, .int .u64 1500] 28); have hBa := bl_then (bl_alloc hB0 (.cells #[.int .i64 3, .int .u8 10, .int .u8 3, .int .u8 0, .int .u8 0, .int .i64 16, .int .u64 5, .int .u64 3000, .int .u64 0, .int .u64 0, .int .u64 9000, .int .u64 1499, .int .u64 1500] 28)) hB1; obtain ⟨zx0, zx1, zx2, zx3, zx4, zx5, zx6, zx7, zx8, zx9, zx10, zx11, zx12, zxf0, zxf1, zxf2, zxf3, zxf4, zxf5, zxf6, zxf7, zxf8, zxf9, zxf10, zxf11, zxf12⟩ := cells13 hbx) | (go_at_call 17; (with_reducible refine (hr.out _).mono ?_); rintro e w2 ⟨rfl, hB2⟩; have hbx2 := bk_below hB2 hbx; have hBb := bl_then hBa hB2; obtain ⟨zy0, zy1, zy2, zy3, zy4, zy5, zy6, zy7, zy8, zy9, zy10, zy11, zy12, zyf0, zyf1, zyf2, zyf3, zyf4, zyf5, zyf6, zyf7, zyf8, zyf9, zyf10, zyf11, zyf12⟩ := cells13 hbx2) | (go_at_call 23; (with_reducible refine (h1.out _).mono ?_); rintro e w3 ⟨rfl, hB3⟩; have hBc := bl_then (bl_alloc hBb _) hB3) | (go_at_call 23; (with_reducible refine (h2.out _).mono ?_); rintro e w6 ⟨rfl, hB6⟩; have hBd := bl_then (bl_alloc (bl_then (bl_then hBc hB4) hB5) _) hB6) | (go_at_call 23; (with_reducible refine (h3.out _).mono ?_); rintro e w9 ⟨rfl, hB9⟩; have hBe := bl_then (bl_alloc (bl_then (bl_then hBd hB7) hB8) _) hB9) | (go_at_call 22; (with_reducible refine (one_any 3 _ (by omega)).mono ?_); rintro e w0 ⟨rfl, hB0⟩) | (go_at_call 22; have hBd' := hBd; (with_reducible refine (one_any 2 _ (by omega)).mono ?_); rintro e w7 ⟨rfl, hB7⟩) | (go_at_call 22; have hBd' := hBd; (with_reducible refine (one_any 1 _ (by omega)).mono ?_); rintro e w8 ⟨rfl, hB8⟩) | (go_at_call 22; (with_reducible refine (one_any 1 _ (by omega)).mono ?_); rintro e w4 ⟨rfl, hB4⟩) | (go_at_call 22; (with_reducible refine (one_any 2 _ (by omega)).mono ?_); rintro e w5 ⟨rfl, hB5⟩))
  go_ret
  exact ⟨rfl, hBe⟩
end Go.Proofs.Ytfcekicjlgdmaaa
