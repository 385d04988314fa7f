/- Contract: the closure that compares two routes. -/
import Derived.Test.YtebeknnjjoobnaaRouteC
set_option linter.unusedVariables false
set_option linter.unusedSimpArgs false
set_option maxRecDepth 100000
namespace Go.Proofs.Ytebeknnjjoobnaa
open Go.RowKit Go.Sort Go.Lib
attribute [local go_sem] max2_int min2_int max_two min_two
attribute [local go_sem ↓] eql_nt neq_nt eql_ad net_addr net_bits

set_option maxHeartbeats 3200000 in
theorem list1_any (a b c d n v a' b' c' d' n' v' : Int) (hx : NtOk a b c d n) (hy : NtOk a' b' c' d' n') (w : World) :
    Calls Try.prog 27 #[.agg #[.int .u8 a, .int .u8 b, .int .u8 c, .int .u8 d, .int .i64 n, .int .i64 v], .agg #[.int .u8 a', .int .u8 b', .int .u8 c', .int .u8 d', .int .i64 n', .int .i64 v']] w fun e w' => e = .returned (.int .i64 (if cmpI (numA a b c d) (numA a' b' c' d') ≠ 0 then cmpI (numA a b c d) (numA a' b' c' d') else cmpI n n')) ∧ Gw w w' := by
  obtain ⟨⟨h1, h2, h3, h4⟩, _⟩ := hx
  obtain ⟨⟨h5, h6, h7, h8⟩, _⟩ := hy
  have bx : Bk ((w.alloc (.cells #[.int .u8 a, .int .u8 b, .int .u8 c, .int .u8 d, .int .i64 n, .int .i64 v] 35)).alloc (.cells #[.int .u8 a', .int .u8 b', .int .u8 c', .int .u8 d', .int .i64 n', .int .i64 v'] 35)) w.heap.size #[.int .u8 a, .int .u8 b, .int .u8 c, .int .u8 d, .int .i64 n, .int .i64 v] 35 := bk_alloc (bk_new w _ _) _
  have bY : Bk ((w.alloc (.cells #[.int .u8 a, .int .u8 b, .int .u8 c, .int .u8 d, .int .i64 n, .int .i64 v] 35)).alloc (.cells #[.int .u8 a', .int .u8 b', .int .u8 c', .int .u8 d', .int .i64 n', .int .i64 v'] 35)) (w.heap.size + 1) #[.int .u8 a', .int .u8 b', .int .u8 c', .int .u8 d', .int .i64 n', .int .i64 v'] 35 := bk_at (by simp)
  have hG := gw_alloc (gw_alloc (gw_refl w) (.cells #[.int .u8 a, .int .u8 b, .int .u8 c, .int .u8 d, .int .i64 n, .int .i64 v] 35)) (.cells #[.int .u8 a', .int .u8 b', .int .u8 c', .int .u8 d', .int .i64 n', .int .i64 v'] 35)
  have k1 := fun W => cmp32_any (numA a b c d) (numA a' b' c' d') W
  have k2 := fun W => cmp64_any n n' W
  have k3 := fun g W h0 h1 => or_two_any g (cmpI (numA a b c d) (numA a' b' c' d')) (cmpI n n') W h0 h1
  obtain ⟨r1, hr1⟩ : ∃ r, cmpI (numA a b c d) (numA a' b' c' d') = r := ⟨_, rfl⟩
  obtain ⟨r2, hr2⟩ : ∃ r, cmpI n n' = r := ⟨_, rfl⟩
  rw [hr1] at k1 k3 ⊢
  rw [hr2] at k2 k3 ⊢
  obtain ⟨R, hR⟩ : ∃ r, (if r1 ≠ 0 then r1 else r2) = r := ⟨_, rfl⟩
  rw [hR] at k3 ⊢
  clear hr1 hr2 hR
  replace k1 := Lib.hid k1
  replace k2 := Lib.hid k2
  replace k3 := Lib.hid k3
  replace bx := Lib.hid bx
  replace bY := Lib.hid bY
  replace hG := Lib.hid hG
  go_enter Try.func27, Try.ntmps27
  go_wp2_with (fail)
  refine wp_region_noPanic ?_
  refine wp_region_held_drew (S := fun w' => Gw w w' ∧ Bk w' w.heap.size #[.int .u8 a, .int .u8 b, .int .u8 c, .int .u8 d, .int .i64 n, .int .i64 v] 35 ∧ Bk w' (w.heap.size + 1) #[.int .u8 a', .int .u8 b', .int .u8 c', .int .u8 d', .int .i64 n', .int .i64 v'] 35) (by kernel_rfl) (⟨gw_drew hG.out, bk_drew bx.out, bk_drew bY.out⟩) (fun hHeld => ?_)
  refine wpAnyH_take (i := 0) (oi := { dst := some 5, op := Go.Op.fieldAddr 35 (Go.Operand.tmp 2) 0, type := 0, pos := "route.go:57", after := #[], guard := none }) (v := ?_) rfl (by kernel_rfl) (by kernel_rfl) (by kernel_rfl) (fun _ _ _ h => h) (Or.inl ⟨by rfl, ?_⟩) (by assumption) ?_
  rotate_left 1
  · intro w' hSw
    first | (go_simp; done) | (go_simp; with_reducible rfl)
  try simp only [Act.put, List.getElem_toArray, List.getElem_cons_succ, List.getElem_cons_zero, List.setIfInBounds_toArray, List.set_cons_zero, List.set_cons_succ]
  refine wpAnyH_take (i := 1) (oi := { dst := some 6, op := Go.Op.fieldAddr 29 (Go.Operand.tmp 5) 0, type := 0, pos := "route.go:57", after := #[{ on := 0, ground := Go.Ground.data }], guard := none }) (v := ?_) rfl (by kernel_rfl) (by kernel_rfl) (by kernel_rfl) (fun _ _ _ h => h) (Or.inl ⟨by rfl, ?_⟩) (by assumption) ?_
  rotate_left 1
  · intro w' hSw
    first | (go_simp; done) | (go_simp; with_reducible rfl)
  try simp only [Act.put, List.getElem_toArray, List.getElem_cons_succ, List.getElem_cons_zero, List.setIfInBounds_toArray, List.set_cons_zero, List.set_cons_succ]
  refine wpAnyH_take (i := 2) (oi := { dst := some 7, op := Go.Op.load 27 (Go.Operand.tmp 6), type := 27, pos := "route.go:57", after := #[{ on := 1, ground := Go.Ground.data }], guard := none }) (v := ?_) rfl (by kernel_rfl) (by kernel_rfl) (by kernel_rfl) (fun _ _ _ h => h) (Or.inl ⟨by rfl, ?_⟩) (by assumption) ?_
  rotate_left 1
  · intro w' hSw
    obtain ⟨x0, x1, x2, x3, x4, x5, xf0, xf1, xf2, xf3, xf4, xf5⟩ := hold6 hSw.2.1
    first | (go_simp; done) | (go_simp; with_reducible rfl)
  try simp only [Act.put, List.getElem_toArray, List.getElem_cons_succ, List.getElem_cons_zero, List.setIfInBounds_toArray, List.set_cons_zero, List.set_cons_succ]
  refine wpAnyH_take (i := 4) (oi := { dst := some 9, op := Go.Op.fieldAddr 35 (Go.Operand.tmp 3) 0, type := 0, pos := "route.go:57", after := #[], guard := none }) (v := ?_) rfl (by kernel_rfl) (by kernel_rfl) (by kernel_rfl) (fun _ _ _ h => h) (Or.inl ⟨by rfl, ?_⟩) (by assumption) ?_
  rotate_left 1
  · intro w' hSw
    first | (go_simp; done) | (go_simp; with_reducible rfl)
  try simp only [Act.put, List.getElem_toArray, List.getElem_cons_succ, List.getElem_cons_zero, List.setIfInBounds_toArray, List.set_cons_zero, List.set_cons_succ]
  refine wpAnyH_take (i := 5) (oi := { dst := some 10, op := Go.Op.fieldAddr 29 (Go.Operand.tmp 9) 0, type := 0, pos := "route.go:57", after := #[{ on := 4, ground := Go.Ground.data }], guard := none }) (v := ?_) rfl (by kernel_rfl) (by kernel_rfl) (by kernel_rfl) (fun _ _ _ h => h) (Or.inl ⟨by rfl, ?_⟩) (by assumption) ?_
  rotate_left 1
  · intro w' hSw
    first | (go_simp; done) | (go_simp; with_reducible rfl)
  try simp only [Act.put, List.getElem_toArray, List.getElem_cons_succ, List.getElem_cons_zero, List.setIfInBounds_toArray, List.set_cons_zero, List.set_cons_succ]
  refine wpAnyH_take (i := 6) (oi := { dst := some 11, op := Go.Op.load 27 (Go.Operand.tmp 10), type := 27, pos := "route.go:57", after := #[{ on := 5, ground := Go.Ground.data }], guard := none }) (v := ?_) rfl (by kernel_rfl) (by kernel_rfl) (by kernel_rfl) (fun _ _ _ h => h) (Or.inl ⟨by rfl, ?_⟩) (by assumption) ?_
  rotate_left 1
  · intro w' hSw
    obtain ⟨x0, x1, x2, x3, x4, x5, xf0, xf1, xf2, xf3, xf4, xf5⟩ := hold6 hSw.2.2
    first | (go_simp; done) | (go_simp; with_reducible rfl)
  try simp only [Act.put, List.getElem_toArray, List.getElem_cons_succ, List.getElem_cons_zero, List.setIfInBounds_toArray, List.set_cons_zero, List.set_cons_succ]
  refine wpAnyH_take (i := 9) (oi := { dst := some 14, op := Go.Op.fieldAddr 35 (Go.Operand.tmp 2) 0, type := 0, pos := "route.go:57", after := #[], guard := none }) (v := ?_) rfl (by kernel_rfl) (by kernel_rfl) (by kernel_rfl) (fun _ _ _ h => h) (Or.inl ⟨by rfl, ?_⟩) (by assumption) ?_
  rotate_left 1
  · intro w' hSw
    first | (go_simp; done) | (go_simp; with_reducible rfl)
  try simp only [Act.put, List.getElem_toArray, List.getElem_cons_succ, List.getElem_cons_zero, List.setIfInBounds_toArray, List.set_cons_zero, List.set_cons_succ]
  refine wpAnyH_take (i := 10) (oi := { dst := some 15, op := Go.Op.fieldAddr 29 (Go.Operand.tmp 14) 1, type := 0, pos := "route.go:57", after := #[{ on := 9, ground := Go.Ground.data }], guard := none }) (v := ?_) rfl (by kernel_rfl) (by kernel_rfl) (by kernel_rfl) (fun _ _ _ h => h) (Or.inl ⟨by rfl, ?_⟩) (by assumption) ?_
  rotate_left 1
  · intro w' hSw
    first | (go_simp; done) | (go_simp; with_reducible rfl)
  try simp only [Act.put, List.getElem_toArray, List.getElem_cons_succ, List.getElem_cons_zero, List.setIfInBounds_toArray, List.set_cons_zero, List.set_cons_succ]
  refine wpAnyH_take (i := 11) (oi := { dst := some 16, op := Go.Op.load 3 (Go.Operand.tmp 15), type := 3, pos := "route.go:57", after := #[{ on := 10, ground := Go.Ground.data }], guard := none }) (v := ?_) rfl (by kernel_rfl) (by kernel_rfl) (by kernel_rfl) (fun _ _ _ h => h) (Or.inl ⟨by rfl, ?_⟩) (by assumption) ?_
  rotate_left 1
  · intro w' hSw
    obtain ⟨x0, x1, x2, x3, x4, x5, xf0, xf1, xf2, xf3, xf4, xf5⟩ := hold6 hSw.2.1
    first | (go_simp; done) | (go_simp; with_reducible rfl)
  try simp only [Act.put, List.getElem_toArray, List.getElem_cons_succ, List.getElem_cons_zero, List.setIfInBounds_toArray, List.set_cons_zero, List.set_cons_succ]
  refine wpAnyH_take (i := 12) (oi := { dst := some 17, op := Go.Op.fieldAddr 35 (Go.Operand.tmp 3) 0, type := 0, pos := "route.go:57", after := #[], guard := none }) (v := ?_) rfl (by kernel_rfl) (by kernel_rfl) (by kernel_rfl) (fun _ _ _ h => h) (Or.inl ⟨by rfl, ?_⟩) (by assumption) ?_
  rotate_left 1
  · intro w' hSw
    first | (go_simp; done) | (go_simp; with_reducible rfl)
  try simp only [Act.put, List.getElem_toArray, List.getElem_cons_succ, List.getElem_cons_zero, List.setIfInBounds_toArray, List.set_cons_zero, List.set_cons_succ]
  refine wpAnyH_take (i := 13) (oi := { dst := some 18, op := Go.Op.fieldAddr 29 (Go.Operand.tmp 17) 1, type := 0, pos := "route.go:57", after := #[{ on := 12, ground := Go.Ground.data }], guard := none }) (v := ?_) rfl (by kernel_rfl) (by kernel_rfl) (by kernel_rfl) (fun _ _ _ h => h) (Or.inl ⟨by rfl, ?_⟩) (by assumption) ?_
  rotate_left 1
  · intro w' hSw
    first | (go_simp; done) | (go_simp; with_reducible rfl)
  try simp only [Act.put, List.getElem_toArray, List.getElem_cons_succ, List.getElem_cons_zero, List.setIfInBounds_toArray, List.set_cons_zero, List.set_cons_succ]
  refine wpAnyH_take (i := 14) (oi := { dst := some 19, op := Go.Op.load 3 (Go.Operand.tmp 18), type := 3, pos := "route.go:57", after := #[{ on := 13, ground := Go.Ground.data }], guard := none }) (v := ?_) rfl (by kernel_rfl) (by kernel_rfl) (by kernel_rfl) (fun _ _ _ h => h) (Or.inl ⟨by rfl, ?_⟩) (by assumption) ?_
  rotate_left 1
  · intro w' hSw
    obtain ⟨x0, x1, x2, x3, x4, x5, xf0, xf1, xf2, xf3, xf4, xf5⟩ := hold6 hSw.2.2
    first | (go_simp; done) | (go_simp; with_reducible rfl)
  try simp only [Act.put, List.getElem_toArray, List.getElem_cons_succ, List.getElem_cons_zero, List.setIfInBounds_toArray, List.set_cons_zero, List.set_cons_succ]
  refine wpAnyH_ready (rs := [3]) (by kernel_rfl) (by simp) ?_
  refine (AllReadyH.cons (o := { dst := some 8, op := Go.Op.call { callee := Go.Callee.value (Go.Operand.func 30), args := #[Go.Operand.tmp 7], argTypes := #[27] }, type := 63, pos := "route.go:57", after := #[{ on := 2, ground := Go.Ground.data }], guard := none }) rfl (fun K hK => ?_) AllReadyH.nil)
  go_simp
  go_at_call 30
  (with_reducible refine (anum_gw a b c d _ h1 h2 h3 h4).mono ?_)
  rintro e wa ⟨rfl, rfl⟩
  go_wp2_with (fail)
  refine hK.out _ _ ?_ (fun hHeld => ?_)
  · first | with_reducible exact hHeld | exact ⟨by repeat (first | with_reducible exact gw_refl _ | with_reducible apply gw_drew | with_reducible apply gw_alloc), by repeat (first | with_reducible exact bx.out | with_reducible apply bk_drew | with_reducible apply bk_alloc), by repeat (first | with_reducible exact bY.out | with_reducible apply bk_drew | with_reducible apply bk_alloc)⟩
  clear hK K
  try simp only [Act.put, List.getElem_toArray, List.getElem_cons_succ, List.getElem_cons_zero, List.setIfInBounds_toArray, List.set_cons_zero, List.set_cons_succ]
  refine wpAnyH_ready (rs := [7]) (by kernel_rfl) (by simp) ?_
  refine (AllReadyH.cons (o := { dst := some 12, op := Go.Op.call { callee := Go.Callee.value (Go.Operand.func 30), args := #[Go.Operand.tmp 11], argTypes := #[27] }, type := 63, pos := "route.go:57", after := #[{ on := 6, ground := Go.Ground.data }, { on := 3, ground := Go.Ground.chain }], guard := none }) rfl (fun K hK => ?_) AllReadyH.nil)
  go_simp
  go_at_call 30
  (with_reducible refine (anum_gw a' b' c' d' _ h5 h6 h7 h8).mono ?_)
  rintro e wa ⟨rfl, rfl⟩
  go_wp2_with (fail)
  refine hK.out _ _ ?_ (fun hHeld => ?_)
  · first | with_reducible exact hHeld | exact ⟨by repeat (first | with_reducible exact gw_refl _ | with_reducible apply gw_drew | with_reducible apply gw_alloc), by repeat (first | with_reducible exact bx.out | with_reducible apply bk_drew | with_reducible apply bk_alloc), by repeat (first | with_reducible exact bY.out | with_reducible apply bk_drew | with_reducible apply bk_alloc)⟩
  clear hK K
  try simp only [Act.put, List.getElem_toArray, List.getElem_cons_succ, List.getElem_cons_zero, List.setIfInBounds_toArray, List.set_cons_zero, List.set_cons_succ]
  refine wpAnyH_ready (rs := [8]) (by kernel_rfl) (by simp) ?_
  refine (AllReadyH.cons (o := { dst := some 13, op := Go.Op.call { callee := Go.Callee.value (Go.Operand.func 29), args := #[Go.Operand.tmp 8, Go.Operand.tmp 12], argTypes := #[63, 63] }, type := 3, pos := "route.go:57", after := #[{ on := 3, ground := Go.Ground.data }, { on := 7, ground := Go.Ground.data }, { on := 7, ground := Go.Ground.chain }], guard := none }) rfl (fun K hK => ?_) AllReadyH.nil)
  go_simp
  go_at_call 29
  (with_reducible refine (k1.out _).mono ?_)
  rintro e wa ⟨rfl, rfl⟩
  go_wp2_with (fail)
  refine hK.out _ _ ?_ (fun hHeld => ?_)
  · first | with_reducible exact hHeld | exact ⟨by repeat (first | with_reducible exact gw_refl _ | with_reducible apply gw_drew | with_reducible apply gw_alloc), by repeat (first | with_reducible exact bx.out | with_reducible apply bk_drew | with_reducible apply bk_alloc), by repeat (first | with_reducible exact bY.out | with_reducible apply bk_drew | with_reducible apply bk_alloc)⟩
  clear hK K
  try simp only [Act.put, List.getElem_toArray, List.getElem_cons_succ, List.getElem_cons_zero, List.setIfInBounds_toArray, List.set_cons_zero, List.set_cons_succ]
  refine wpAnyH_ready (rs := [15]) (by kernel_rfl) (by simp) ?_
  refine (AllReadyH.cons (o := { dst := some 20, op := Go.Op.call { callee := Go.Callee.value (Go.Operand.func 31), args := #[Go.Operand.tmp 16, Go.Operand.tmp 19], argTypes := #[3, 3] }, type := 3, pos := "route.go:57", after := #[{ on := 11, ground := Go.Ground.data }, { on := 14, ground := Go.Ground.data }, { on := 8, ground := Go.Ground.chain }], guard := none }) rfl (fun K hK => ?_) AllReadyH.nil)
  go_simp
  go_at_call 31
  (with_reducible refine (k2.out _).mono ?_)
  rintro e wa ⟨rfl, rfl⟩
  go_wp2_with (fail)
  refine hK.out _ _ ?_ (fun hHeld => ?_)
  · first | with_reducible exact hHeld | exact ⟨by repeat (first | with_reducible exact gw_refl _ | with_reducible apply gw_drew | with_reducible apply gw_alloc), by repeat (first | with_reducible exact bx.out | with_reducible apply bk_drew | with_reducible apply bk_alloc), by repeat (first | with_reducible exact bY.out | with_reducible apply bk_drew | with_reducible apply bk_alloc)⟩
  clear hK K
  try simp only [Act.put, List.getElem_toArray, List.getElem_cons_succ, List.getElem_cons_zero, List.setIfInBounds_toArray, List.set_cons_zero, List.set_cons_succ]
  refine wpAnyH_ready (rs := [16]) (by kernel_rfl) (by simp) ?_
  refine (AllReadyH.cons (o := { dst := some 21, op := Go.Op.buildSlice 74 2 #[(0, Go.Operand.tmp 13), (1, Go.Operand.tmp 20)], type := 74, pos := "route.go:57", after := #[{ on := 8, ground := Go.Ground.data }, { on := 15, ground := Go.Ground.data }], guard := none }) rfl (fun K hK => ?_) AllReadyH.nil)
  go_simp
  skip
  refine hK.out _ _ ?_ (fun hHeld => ?_)
  · first | with_reducible exact hHeld | exact ⟨by repeat (first | with_reducible exact gw_refl _ | with_reducible apply gw_drew | with_reducible apply gw_alloc), by repeat (first | with_reducible exact bx.out | with_reducible apply bk_drew | with_reducible apply bk_alloc), by repeat (first | with_reducible exact bY.out | with_reducible apply bk_drew | with_reducible apply bk_alloc)⟩
  clear hK K
  try simp only [Act.put, List.getElem_toArray, List.getElem_cons_succ, List.getElem_cons_zero, List.setIfInBounds_toArray, List.set_cons_zero, List.set_cons_succ]
  refine wpAnyH_ready (rs := [17]) (by kernel_rfl) (by simp) ?_
  refine (AllReadyH.cons (o := { dst := some 22, op := Go.Op.call { callee := Go.Callee.value (Go.Operand.func 28), args := #[Go.Operand.tmp 21], argTypes := #[74] }, type := 3, pos := "route.go:57", after := #[{ on := 16, ground := Go.Ground.data }, { on := 15, ground := Go.Ground.chain }], guard := none }) rfl (fun K hK => ?_) AllReadyH.nil)
  go_simp
  go_at_call 28
  (refine (k3.out _ _ ((bk_cell (bk_drew (bk_at (by simp))) 0).trans rfl) ((bk_cell (bk_drew (bk_at (by simp))) 1).trans rfl)).mono ?_)
  rintro e wa ⟨rfl, rfl⟩
  go_wp2_with (fail)
  refine hK.out _ _ ?_ (fun hHeld => ?_)
  · first | with_reducible exact hHeld | exact ⟨by repeat (first | with_reducible exact gw_refl _ | with_reducible apply gw_drew | with_reducible apply gw_alloc), by repeat (first | with_reducible exact bx.out | with_reducible apply bk_drew | with_reducible apply bk_alloc), by repeat (first | with_reducible exact bY.out | with_reducible apply bk_drew | with_reducible apply bk_alloc)⟩
  clear hK K
  try simp only [Act.put, List.getElem_toArray, List.getElem_cons_succ, List.getElem_cons_zero, List.setIfInBounds_toArray, List.set_cons_zero, List.set_cons_succ]
  refine wpAnyH_take (i := 18) (oi := { dst := some 4, op := Go.Op.assign (Go.Operand.tmp 22), type := 3, pos := "route.go:57", after := #[{ on := 17, ground := Go.Ground.data }, { on := 17, ground := Go.Ground.chain }, { on := 0, ground := Go.Ground.phase }, { on := 1, ground := Go.Ground.phase }, { on := 2, ground := Go.Ground.phase }, { on := 3, ground := Go.Ground.phase }, { on := 4, ground := Go.Ground.phase }, { on := 5, ground := Go.Ground.phase }, { on := 6, ground := Go.Ground.phase }, { on := 7, ground := Go.Ground.phase }, { on := 8, ground := Go.Ground.phase }, { on := 9, ground := Go.Ground.phase }, { on := 10, ground := Go.Ground.phase }, { on := 11, ground := Go.Ground.phase }, { on := 12, ground := Go.Ground.phase }, { on := 13, ground := Go.Ground.phase }, { on := 14, ground := Go.Ground.phase }, { on := 15, ground := Go.Ground.phase }, { on := 16, ground := Go.Ground.phase }, { on := 17, ground := Go.Ground.phase }], guard := none }) (v := ?_) rfl (by kernel_rfl) (by kernel_rfl) (by kernel_rfl) (fun _ _ _ h => h) (Or.inl ⟨by rfl, ?_⟩) (by assumption) ?_
  rotate_left 1
  · intro w' hSw
    first | (go_simp; done) | (go_simp; with_reducible rfl)
  try simp only [Act.put, List.getElem_toArray, List.getElem_cons_succ, List.getElem_cons_zero, List.setIfInBounds_toArray, List.set_cons_zero, List.set_cons_succ]
  refine wpAnyH_done (by kernel_rfl) ?_ _
  refine NoPanic.normal ?_
  go_wp2
  go_ret
  exact ⟨rfl, hHeld.1⟩
end Go.Proofs.Ytebeknnjjoobnaa
