/- Contract: floodgateref06.Before. -/
import Derived.Test.YtebeknnjjoobnaaRouteL
import Derived.Test.YtebeknnjjoobnaaRouteC
import Derived.Test.YtebeknnjjoobnaaRouteS
set_option linter.unusedVariables false
set_option linter.unusedSimpArgs false
set_option maxRecDepth 100000
namespace Go.Proofs.Ytebeknnjjoobnaa
open Go.RowKit
attribute [local go_sem] max2_int min2_int max_two min_two
attribute [local go_sem ↓] eql_nt neq_nt eql_ad net_addr net_bits

set_option maxHeartbeats 3200000 in
theorem before_core (a b c d n v a' b' c' d' n' v' : Int) (hx : NtOk a b c d n) (hy : NtOk a' b' c' d' n') (w : World) (P Q : Int) (hP : numA a b c d = P) (hQ : numA a' b' c' d' = Q) (l e m : Bool) (hl : decide (P < Q) = l) (he : (P == Q) = e) (hm : decide (n < n') = m) :
    Calls Try.prog 32 #[.agg #[.int .u8 a, .int .u8 b, .int .u8 c, .int .u8 d, .int .i64 n, .int .i64 v], .agg #[.int .u8 a', .int .u8 b', .int .u8 c', .int .u8 d', .int .i64 n', .int .i64 v']] w fun en w' => en = .returned (.bool (l || (e && m))) ∧ Below w.heap.size w w' := by
  obtain ⟨⟨h1, h2, h3, h4⟩, _⟩ := hx
  obtain ⟨⟨h5, h6, h7, h8⟩, _⟩ := hy
  have bx := bk_alloc (bk_new w #[.int .u8 a, .int .u8 b, .int .u8 c, .int .u8 d, .int .i64 n, .int .i64 v] 35) (.cells #[.int .u8 a', .int .u8 b', .int .u8 c', .int .u8 d', .int .i64 n', .int .i64 v'] 35)
  have bY := bk_at (w := w.alloc (.cells #[.int .u8 a, .int .u8 b, .int .u8 c, .int .u8 d, .int .i64 n, .int .i64 v] 35)) (g := w.heap.size + 1) (cs := #[.int .u8 a', .int .u8 b', .int .u8 c', .int .u8 d', .int .i64 n', .int .i64 v']) (t := 35) (by simp)
  have hB := bl_alloc (bl_alloc (Below.refl _ w) (.cells #[.int .u8 a, .int .u8 b, .int .u8 c, .int .u8 d, .int .i64 n, .int .i64 v] 35)) (.cells #[.int .u8 a', .int .u8 b', .int .u8 c', .int .u8 d', .int .i64 n', .int .i64 v'] 35)
  replace bx := Lib.hid bx
  replace bY := Lib.hid bY
  replace hB := Lib.hid hB
  replace hP := Lib.hid hP
  replace hQ := Lib.hid hQ
  go_enter Try.func32, Try.ntmps32
  go_wp2_with (fail)
  refine wp_region_noPanic ?_
  refine wp_region_held_drew (S := fun w' => Below w.heap.size w w' ∧ Bk w' w.heap.size #[.int .u8 a, .int .u8 b, .int .u8 c, .int .u8 d, .int .i64 n, .int .i64 v] 35 ∧ Bk w' (w.heap.size + 1) #[.int .u8 a', .int .u8 b', .int .u8 c', .int .u8 d', .int .i64 n', .int .i64 v'] 35) (by kernel_rfl) (⟨bl_drew hB.out, bk_drew bx.out, bk_drew bY.out⟩) (fun hHeld => ?_)
  refine wpAnyH_take (i := 0) (oi := { dst := some 7, op := Go.Op.fieldAddr 35 (Go.Operand.tmp 2) 0, type := 0, pos := "ref.go:14", after := #[], guard := none }) (v := ?_) rfl (by kernel_rfl) (by kernel_rfl) (by kernel_rfl) (fun _ _ _ h => h) (Or.inl ⟨by rfl, ?_⟩) (by assumption) ?_
  rotate_left 1
  · intro w' hSw
    first | (go_simp; done) | (go_simp; with_reducible rfl)
  try simp only [Act.put, List.getElem_toArray, List.getElem_cons_succ, List.getElem_cons_zero, List.setIfInBounds_toArray, List.set_cons_zero, List.set_cons_succ]
  refine wpAnyH_take (i := 1) (oi := { dst := some 8, op := Go.Op.fieldAddr 29 (Go.Operand.tmp 7) 0, type := 0, pos := "ref.go:14", after := #[{ on := 0, ground := Go.Ground.data }], guard := none }) (v := ?_) rfl (by kernel_rfl) (by kernel_rfl) (by kernel_rfl) (fun _ _ _ h => h) (Or.inl ⟨by rfl, ?_⟩) (by assumption) ?_
  rotate_left 1
  · intro w' hSw
    first | (go_simp; done) | (go_simp; with_reducible rfl)
  try simp only [Act.put, List.getElem_toArray, List.getElem_cons_succ, List.getElem_cons_zero, List.setIfInBounds_toArray, List.set_cons_zero, List.set_cons_succ]
  refine wpAnyH_take (i := 2) (oi := { dst := some 9, op := Go.Op.load 27 (Go.Operand.tmp 8), type := 27, pos := "ref.go:14", after := #[{ on := 1, ground := Go.Ground.data }], guard := none }) (v := ?_) rfl (by kernel_rfl) (by kernel_rfl) (by kernel_rfl) (fun _ _ _ h => h) (Or.inl ⟨by rfl, ?_⟩) (by assumption) ?_
  rotate_left 1
  · intro w' hSw
    obtain ⟨x0, x1, x2, x3, x4, x5, xf0, xf1, xf2, xf3, xf4, xf5⟩ := hold6 hSw.2.1
    first | (go_simp; done) | (go_simp; with_reducible rfl)
  try simp only [Act.put, List.getElem_toArray, List.getElem_cons_succ, List.getElem_cons_zero, List.setIfInBounds_toArray, List.set_cons_zero, List.set_cons_succ]
  refine wpAnyH_take (i := 4) (oi := { dst := some 11, op := Go.Op.fieldAddr 35 (Go.Operand.tmp 3) 0, type := 0, pos := "ref.go:14", after := #[], guard := none }) (v := ?_) rfl (by kernel_rfl) (by kernel_rfl) (by kernel_rfl) (fun _ _ _ h => h) (Or.inl ⟨by rfl, ?_⟩) (by assumption) ?_
  rotate_left 1
  · intro w' hSw
    first | (go_simp; done) | (go_simp; with_reducible rfl)
  try simp only [Act.put, List.getElem_toArray, List.getElem_cons_succ, List.getElem_cons_zero, List.setIfInBounds_toArray, List.set_cons_zero, List.set_cons_succ]
  refine wpAnyH_take (i := 5) (oi := { dst := some 12, op := Go.Op.fieldAddr 29 (Go.Operand.tmp 11) 0, type := 0, pos := "ref.go:14", after := #[{ on := 4, ground := Go.Ground.data }], guard := none }) (v := ?_) rfl (by kernel_rfl) (by kernel_rfl) (by kernel_rfl) (fun _ _ _ h => h) (Or.inl ⟨by rfl, ?_⟩) (by assumption) ?_
  rotate_left 1
  · intro w' hSw
    first | (go_simp; done) | (go_simp; with_reducible rfl)
  try simp only [Act.put, List.getElem_toArray, List.getElem_cons_succ, List.getElem_cons_zero, List.setIfInBounds_toArray, List.set_cons_zero, List.set_cons_succ]
  refine wpAnyH_take (i := 6) (oi := { dst := some 13, op := Go.Op.load 27 (Go.Operand.tmp 12), type := 27, pos := "ref.go:14", after := #[{ on := 5, ground := Go.Ground.data }], guard := none }) (v := ?_) rfl (by kernel_rfl) (by kernel_rfl) (by kernel_rfl) (fun _ _ _ h => h) (Or.inl ⟨by rfl, ?_⟩) (by assumption) ?_
  rotate_left 1
  · intro w' hSw
    obtain ⟨x0, x1, x2, x3, x4, x5, xf0, xf1, xf2, xf3, xf4, xf5⟩ := hold6 hSw.2.2
    first | (go_simp; done) | (go_simp; with_reducible rfl)
  try simp only [Act.put, List.getElem_toArray, List.getElem_cons_succ, List.getElem_cons_zero, List.setIfInBounds_toArray, List.set_cons_zero, List.set_cons_succ]
  refine wpAnyH_ready (rs := [3]) (by kernel_rfl) (by simp) ?_
  refine (AllReadyH.cons (o := { dst := some 10, op := Go.Op.call { callee := Go.Callee.value (Go.Operand.func 34), args := #[Go.Operand.tmp 9], argTypes := #[27] }, type := 63, pos := "ref.go:14", after := #[{ on := 2, ground := Go.Ground.data }], guard := none }) rfl (fun K hK => ?_) AllReadyH.nil)
  go_simp
  go_at_call 34
  (with_reducible refine (rnum_any a b c d _ h1 h2 h3 h4).mono ?_)
  rw [hP.out]
  rintro e wa ⟨rfl, hB9⟩
  go_wp2_with (fail)
  refine hK.out _ _ ?_ (fun hHeld => ?_)
  · exact ⟨bl_then hHeld.1 hB9, bk_below hB9 hHeld.2.1, bk_below hB9 hHeld.2.2⟩
  clear hK K
  try simp only [Act.put, List.getElem_toArray, List.getElem_cons_succ, List.getElem_cons_zero, List.setIfInBounds_toArray, List.set_cons_zero, List.set_cons_succ]
  refine wpAnyH_ready (rs := [7]) (by kernel_rfl) (by simp) ?_
  refine (AllReadyH.cons (o := { dst := some 14, op := Go.Op.call { callee := Go.Callee.value (Go.Operand.func 34), args := #[Go.Operand.tmp 13], argTypes := #[27] }, type := 63, pos := "ref.go:14", after := #[{ on := 6, ground := Go.Ground.data }, { on := 3, ground := Go.Ground.chain }], guard := none }) rfl (fun K hK => ?_) AllReadyH.nil)
  go_simp
  go_at_call 34
  (with_reducible refine (rnum_any a' b' c' d' _ h5 h6 h7 h8).mono ?_)
  rw [hQ.out]
  rintro e wa ⟨rfl, hB9⟩
  go_wp2_with (fail)
  refine hK.out _ _ ?_ (fun hHeld => ?_)
  · exact ⟨bl_then hHeld.1 hB9, bk_below hB9 hHeld.2.1, bk_below hB9 hHeld.2.2⟩
  clear hK K
  try simp only [Act.put, List.getElem_toArray, List.getElem_cons_succ, List.getElem_cons_zero, List.setIfInBounds_toArray, List.set_cons_zero, List.set_cons_succ]
  refine wpAnyH_take (i := 8) (oi := { dst := some 5, op := Go.Op.assign (Go.Operand.tmp 10), type := 63, pos := "ref.go:14", after := #[{ on := 3, ground := Go.Ground.data }, { on := 7, ground := Go.Ground.chain }, { on := 0, ground := Go.Ground.phase }, { on := 1, ground := Go.Ground.phase }, { on := 2, ground := Go.Ground.phase }, { on := 3, ground := Go.Ground.phase }, { on := 4, ground := Go.Ground.textOnly Go.Departure.lateStores }, { on := 5, ground := Go.Ground.textOnly Go.Departure.lateStores }, { on := 6, ground := Go.Ground.textOnly Go.Departure.lateStores }, { on := 7, ground := Go.Ground.textOnly Go.Departure.lateStoresUnsure }], guard := none }) (v := ?_) rfl (by kernel_rfl) (by kernel_rfl) (by kernel_rfl) (fun _ _ _ h => h) (Or.inl ⟨by rfl, ?_⟩) (by assumption) ?_
  rotate_left 1
  · intro w' hSw
    first | (go_simp; done) | (go_simp; with_reducible rfl)
  try simp only [Act.put, List.getElem_toArray, List.getElem_cons_succ, List.getElem_cons_zero, List.setIfInBounds_toArray, List.set_cons_zero, List.set_cons_succ]
  refine wpAnyH_take (i := 9) (oi := { dst := some 6, op := Go.Op.assign (Go.Operand.tmp 14), type := 63, pos := "ref.go:14", after := #[{ on := 7, ground := Go.Ground.data }, { on := 8, ground := Go.Ground.chain }, { on := 0, ground := Go.Ground.phase }, { on := 1, ground := Go.Ground.phase }, { on := 2, ground := Go.Ground.phase }, { on := 3, ground := Go.Ground.phase }, { on := 4, ground := Go.Ground.phase }, { on := 5, ground := Go.Ground.phase }, { on := 6, ground := Go.Ground.phase }, { on := 7, ground := Go.Ground.phase }, { on := 8, ground := Go.Ground.phase }], guard := none }) (v := ?_) rfl (by kernel_rfl) (by kernel_rfl) (by kernel_rfl) (fun _ _ _ h => h) (Or.inl ⟨by rfl, ?_⟩) (by assumption) ?_
  rotate_left 1
  · intro w' hSw
    first | (go_simp; done) | (go_simp; with_reducible rfl)
  try simp only [Act.put, List.getElem_toArray, List.getElem_cons_succ, List.getElem_cons_zero, List.setIfInBounds_toArray, List.set_cons_zero, List.set_cons_succ]
  refine wpAnyH_done (by kernel_rfl) ?_ _
  refine NoPanic.normal ?_
  obtain ⟨hBf, hb1, hb2⟩ := hHeld
  obtain ⟨x0, x1, x2, x3, x4, x5, xf0, xf1, xf2, xf3, xf4, xf5⟩ := hold6 hb1
  obtain ⟨y0, y1, y2, y3, y4, y5, yf0, yf1, yf2, yf3, yf4, yf5⟩ := hold6 hb2
  replace hBf := Lib.hid hBf
  clear hb1 hb2
  cases l <;> cases e <;> cases m <;>
  · go_wp2
    go_ret
    exact ⟨rfl, hBf.out⟩
theorem before_any (x y : Rt) (hx : NtOkT x.1) (hy : NtOkT y.1) (w : World) :
    Calls Try.prog 32 #[.agg #[.int .u8 x.1.1, .int .u8 x.1.2.1, .int .u8 x.1.2.2.1, .int .u8 x.1.2.2.2.1, .int .i64 x.1.2.2.2.2, .int .i64 x.2], .agg #[.int .u8 y.1.1, .int .u8 y.1.2.1, .int .u8 y.1.2.2.1, .int .u8 y.1.2.2.2.1, .int .i64 y.1.2.2.2.2, .int .i64 y.2]] w fun en w' => en = .returned (.bool (ltR x y)) ∧ Below w.heap.size w w' := by
  refine (before_core _ _ _ _ _ _ _ _ _ _ _ _ hx hy w _ _ rfl rfl _ _ _ rfl rfl rfl).mono fun en w' ⟨h1, h2⟩ => ⟨?_, h2⟩
  rw [h1]
  unfold ltR ltK keyR
  dsimp only
  have h3 : (numA x.1.1 x.1.2.1 x.1.2.2.1 x.1.2.2.2.1 == numA y.1.1 y.1.2.1 y.1.2.2.1 y.1.2.2.2.1) = decide (numA x.1.1 x.1.2.1 x.1.2.2.1 x.1.2.2.2.1 = numA y.1.1 y.1.2.1 y.1.2.2.1 y.1.2.2.2.1) := rfl
  rw [h3]
end Go.Proofs.Ytebeknnjjoobnaa
