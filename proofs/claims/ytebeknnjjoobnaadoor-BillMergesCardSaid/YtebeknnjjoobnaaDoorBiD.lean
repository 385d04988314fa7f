/- Contracts: the sums of two rows; two lists of rows, the same? -/
import Derived.Test.YtebeknnjjoobnaaDoorBiC
import Derived.Deep.CutRange
import Derived.Laws.Rows
set_option linter.unusedVariables false
set_option linter.unusedSimpArgs false
set_option maxRecDepth 100000
namespace Go.Proofs.YtebeknnjjoobnaaDoor
open Go.RowKit
attribute [local go_sem] max2_int min2_int max_two min_two
attribute [local go_sem ↓] eql_rw neq_rw

/-- Two rows' sums. -/
def addV (x y : Bv) : Bv := (satAdd x.1 y.1, satAdd x.2.1 y.2.1, satAdd x.2.2.1 y.2.2.1, satAdd x.2.2.2 y.2.2.2)
theorem satAdd_ok {a b : Int} (ha : U64 a) (hb : U64 b) : U64 (satAdd a b) := by
  obtain ⟨h1, h2⟩ := ha
  obtain ⟨h3, h4⟩ := hb
  unfold satAdd U64
  split <;> omega
theorem addV_ok {x y : Bv} (hx : BvOk x) (hy : BvOk y) : BvOk (addV x y) := ⟨satAdd_ok hx.1 hy.1, satAdd_ok hx.2.1 hy.2.1, satAdd_ok hx.2.2.1 hy.2.2.1, satAdd_ok hx.2.2.2 hy.2.2.2⟩
theorem rw_size : (Tryd.prog.info? 32).map (·.size) = some 6 := by kernel_rfl
theorem end_rw {fn : Func} {p : Tmp} (h : fn.results = #[.cell p 32]) (tmps : Array Value) {w : World} {g : Nat} {a b c d e f : Value} (hp : tmps.getD p undef = .pointer (some ⟨g, 0, none⟩)) (hg : Bk w g #[a, b, c, d, e, f] 32) : (results fn tmps).run Tryd.prog w = .ok (.agg #[a, b, c, d, e, f]) w :=
  results_cell_row h tmps w g _ _ (0, 0) _ hp hg Tryd.underlying32 rfl rw_size
theorem bk_set6 {w : World} {g : Nat} {a b c d e f a' b' c' d' e' f' : Value} {t : TypeId} (h : Bk w g #[a, b, c, d, e, f] t) :
    Bk ((((((w.setCell ⟨g, 0, none⟩ a').setCell ⟨g, 1, none⟩ b').setCell ⟨g, 2, none⟩ c').setCell ⟨g, 3, none⟩ d').setCell ⟨g, 4, none⟩ e').setCell ⟨g, 5, none⟩ f') g #[a', b', c', d', e', f'] t := by
  have h1 : Bk _ g #[a', b, c, d, e, f] t := bk_put (i := 0) (u := a') h rfl
  have h2 : Bk _ g #[a', b', c, d, e, f] t := bk_put (i := 1) (u := b') h1 rfl
  have h3 : Bk _ g #[a', b', c', d, e, f] t := bk_put (i := 2) (u := c') h2 rfl
  have h4 : Bk _ g #[a', b', c', d', e, f] t := bk_put (i := 3) (u := d') h3 rfl
  have h5 : Bk _ g #[a', b', c', d', e', f] t := bk_put (i := 4) (u := e') h4 rfl
  exact bk_put h5 rfl
theorem bl_set6 {B g : Nat} {w W : World} {a b c d e f : Value} (h : Below B w W) (hg : B ≤ g) : Below B w ((((((W.setCell ⟨g, 0, none⟩ a).setCell ⟨g, 1, none⟩ b).setCell ⟨g, 2, none⟩ c).setCell ⟨g, 3, none⟩ d).setCell ⟨g, 4, none⟩ e).setCell ⟨g, 5, none⟩ f) :=
  bl_set (bl_set (bl_set (bl_set (bl_set (bl_set h hg _) hg _) hg _) hg _) hg _) hg _
set_option maxHeartbeats 3200000 in
theorem badd_any (x y : Rw) (hx : BvOk x.2) (hy : BvOk y.2) (w : World) :
    Calls Tryd.prog 23 #[.agg #[.int .i64 x.1.1, .int .u64 x.1.2, .int .u64 x.2.1, .int .u64 x.2.2.1, .int .u64 x.2.2.2.1, .int .u64 x.2.2.2.2], .agg #[.int .i64 y.1.1, .int .u64 y.1.2, .int .u64 y.2.1, .int .u64 y.2.2.1, .int .u64 y.2.2.2.1, .int .u64 y.2.2.2.2]] w fun e w' => e = .returned (.agg #[.int .i64 x.1.1, .int .u64 x.1.2, .int .u64 (addV x.2 y.2).1, .int .u64 (addV x.2 y.2).2.1, .int .u64 (addV x.2 y.2).2.2.1, .int .u64 (addV x.2 y.2).2.2.2]) ∧ Below w.heap.size w w' := by
  unfold addV
  dsimp only
  obtain ⟨⟨x1, x1'⟩, ⟨x2, x2'⟩, ⟨x3, x3'⟩, x4, x4'⟩ := hx
  obtain ⟨⟨y1, y1'⟩, ⟨y2, y2'⟩, ⟨y3, y3'⟩, y4, y4'⟩ := hy
  have k1 := fun W => add_any x.2.1 y.2.1 W x1 x1' y1 y1'
  have k2 := fun W => add_any x.2.2.1 y.2.2.1 W x2 x2' y2 y2'
  have k3 := fun W => add_any x.2.2.2.1 y.2.2.2.1 W x3 x3' y3 y3'
  have k4 := fun W => add_any x.2.2.2.2 y.2.2.2.2 W x4 x4' y4 y4'
  clear x1 x1' x2 x2' x3 x3' x4 x4' y1 y1' y2 y2' y3 y3' y4 y4'
  obtain ⟨s1, h1⟩ : ∃ s, satAdd x.2.1 y.2.1 = s := ⟨_, rfl⟩
  obtain ⟨s2, h2⟩ : ∃ s, satAdd x.2.2.1 y.2.2.1 = s := ⟨_, rfl⟩
  obtain ⟨s3, h3⟩ : ∃ s, satAdd x.2.2.2.1 y.2.2.2.1 = s := ⟨_, rfl⟩
  obtain ⟨s4, h4⟩ : ∃ s, satAdd x.2.2.2.2 y.2.2.2.2 = s := ⟨_, rfl⟩
  rw [h1] at k1 ⊢
  rw [h2] at k2 ⊢
  rw [h3] at k3 ⊢
  rw [h4] at k4 ⊢
  clear h1 h2 h3 h4
  replace k1 := Lib.hid k1
  replace k2 := Lib.hid k2
  replace k3 := Lib.hid k3
  replace k4 := Lib.hid k4
  have bx := bk_alloc (bk_alloc (bk_new w #[.int .i64 x.1.1, .int .u64 x.1.2, .int .u64 x.2.1, .int .u64 x.2.2.1, .int .u64 x.2.2.2.1, .int .u64 x.2.2.2.2] 32) (.cells #[.int .i64 y.1.1, .int .u64 y.1.2, .int .u64 y.2.1, .int .u64 y.2.2.1, .int .u64 y.2.2.2.1, .int .u64 y.2.2.2.2] 32)) (.cells #[.int .i64 0, .int .u64 0, .int .u64 0, .int .u64 0, .int .u64 0, .int .u64 0] 32)
  have bY := bk_alloc (bk_at (w := w.alloc (.cells #[.int .i64 x.1.1, .int .u64 x.1.2, .int .u64 x.2.1, .int .u64 x.2.2.1, .int .u64 x.2.2.2.1, .int .u64 x.2.2.2.2] 32)) (g := w.heap.size + 1) (cs := #[.int .i64 y.1.1, .int .u64 y.1.2, .int .u64 y.2.1, .int .u64 y.2.2.1, .int .u64 y.2.2.2.1, .int .u64 y.2.2.2.2]) (t := 32) (by simp)) (.cells #[.int .i64 0, .int .u64 0, .int .u64 0, .int .u64 0, .int .u64 0, .int .u64 0] 32)
  have bz := bk_at (w := (w.alloc (.cells #[.int .i64 x.1.1, .int .u64 x.1.2, .int .u64 x.2.1, .int .u64 x.2.2.1, .int .u64 x.2.2.2.1, .int .u64 x.2.2.2.2] 32)).alloc (.cells #[.int .i64 y.1.1, .int .u64 y.1.2, .int .u64 y.2.1, .int .u64 y.2.2.1, .int .u64 y.2.2.2.1, .int .u64 y.2.2.2.2] 32)) (g := w.heap.size + 1 + 1) (cs := #[.int .i64 0, .int .u64 0, .int .u64 0, .int .u64 0, .int .u64 0, .int .u64 0]) (t := 32) (by simp)
  have hB := bl_alloc (bl_alloc (bl_alloc (Below.refl _ w) (.cells #[.int .i64 x.1.1, .int .u64 x.1.2, .int .u64 x.2.1, .int .u64 x.2.2.1, .int .u64 x.2.2.2.1, .int .u64 x.2.2.2.2] 32)) (.cells #[.int .i64 y.1.1, .int .u64 y.1.2, .int .u64 y.2.1, .int .u64 y.2.2.1, .int .u64 y.2.2.2.1, .int .u64 y.2.2.2.2] 32)) (.cells #[.int .i64 0, .int .u64 0, .int .u64 0, .int .u64 0, .int .u64 0, .int .u64 0] 32)
  replace bx := Lib.hid bx
  replace bY := Lib.hid bY
  replace bz := Lib.hid bz
  replace hB := Lib.hid hB
  go_enter Tryd.func23, Tryd.ntmps23
  go_upto_region 1 with (fail)
  generalize ((w.alloc (.cells #[.int .i64 x.1.1, .int .u64 x.1.2, .int .u64 x.2.1, .int .u64 x.2.2.1, .int .u64 x.2.2.2.1, .int .u64 x.2.2.2.2] 32)).alloc (.cells #[.int .i64 y.1.1, .int .u64 y.1.2, .int .u64 y.2.1, .int .u64 y.2.2.1, .int .u64 y.2.2.2.1, .int .u64 y.2.2.2.2] 32)).alloc (.cells #[.int .i64 0, .int .u64 0, .int .u64 0, .int .u64 0, .int .u64 0, .int .u64 0] 32) = W at *
  obtain ⟨c0, c1, c2, c3, c4, c5, f0, f1, f2, f3, f4, f5⟩ := hold6 bx.out
  go_cut [] from 5 to 29 (fun wx => Bk wx w.heap.size #[.int .i64 x.1.1, .int .u64 x.1.2, .int .u64 s1, .int .u64 s2, .int .u64 x.2.2.2.1, .int .u64 x.2.2.2.2] 32 ∧ Bk wx (w.heap.size + 1) #[.int .i64 y.1.1, .int .u64 y.1.2, .int .u64 y.2.1, .int .u64 y.2.2.1, .int .u64 y.2.2.2.1, .int .u64 y.2.2.2.2] 32 ∧ Bk wx (w.heap.size + 1 + 1) #[.int .i64 0, .int .u64 0, .int .u64 0, .int .u64 0, .int .u64 0, .int .u64 0] 32 ∧ Below w.heap.size w wx)
  case first =>
      refine wp_region_noPanic ?_
      refine wp_region_held_drew (S := fun w' => Bk w' (w.heap.size + 1) #[.int .i64 y.1.1, .int .u64 y.1.2, .int .u64 y.2.1, .int .u64 y.2.2.1, .int .u64 y.2.2.2.1, .int .u64 y.2.2.2.2] 32) (by kernel_rfl) (bk_drew bY.out) (fun hHeld => ?_)
      refine wpAnyH_take (i := 0) (oi := { dst := some 5, op := Go.Op.fieldAddr 32 (Go.Operand.tmp 2) 2, type := 0, pos := "bill.go:22", after := #[], guard := none }) (v := ?_) rfl (by kernel_rfl) (by kernel_rfl) (by kernel_rfl) (fun _ _ _ h => h) (Or.inl ⟨by rfl, ?_⟩) (by assumption) ?_
      rotate_left 1
      · intro w' hSw
        first | (go_simp; done) | (go_simp; with_reducible rfl)
      try simp only [Act.put, List.getElem_toArray, List.getElem_cons_succ, List.getElem_cons_zero, List.setIfInBounds_toArray, List.set_cons_zero, List.set_cons_succ]
      refine wpAnyH_take (i := 2) (oi := { dst := some 7, op := Go.Op.fieldAddr 32 (Go.Operand.tmp 3) 2, type := 0, pos := "bill.go:22", after := #[], guard := none }) (v := ?_) rfl (by kernel_rfl) (by kernel_rfl) (by kernel_rfl) (fun _ _ _ h => h) (Or.inl ⟨by rfl, ?_⟩) (by assumption) ?_
      rotate_left 1
      · intro w' hSw
        first | (go_simp; done) | (go_simp; with_reducible rfl)
      try simp only [Act.put, List.getElem_toArray, List.getElem_cons_succ, List.getElem_cons_zero, List.setIfInBounds_toArray, List.set_cons_zero, List.set_cons_succ]
      refine wpAnyH_take (i := 3) (oi := { dst := some 8, op := Go.Op.load 30 (Go.Operand.tmp 7), type := 30, pos := "bill.go:22", after := #[{ on := 2, ground := Go.Ground.data }], guard := none }) (v := ?_) rfl (by kernel_rfl) (by kernel_rfl) (by kernel_rfl) (fun _ _ _ h => h) (Or.inl ⟨by rfl, ?_⟩) (by assumption) ?_
      rotate_left 1
      · intro w' hSw
        obtain ⟨d0, d1, d2, d3, d4, d5, _⟩ := hold6 hSw
        first | (go_simp; done) | (go_simp; with_reducible rfl)
      try simp only [Act.put, List.getElem_toArray, List.getElem_cons_succ, List.getElem_cons_zero, List.setIfInBounds_toArray, List.set_cons_zero, List.set_cons_succ]
      refine wpAnyH_take (i := 5) (oi := { dst := some 10, op := Go.Op.fieldAddr 32 (Go.Operand.tmp 2) 3, type := 0, pos := "bill.go:22", after := #[], guard := none }) (v := ?_) rfl (by kernel_rfl) (by kernel_rfl) (by kernel_rfl) (fun _ _ _ h => h) (Or.inl ⟨by rfl, ?_⟩) (by assumption) ?_
      rotate_left 1
      · intro w' hSw
        first | (go_simp; done) | (go_simp; with_reducible rfl)
      try simp only [Act.put, List.getElem_toArray, List.getElem_cons_succ, List.getElem_cons_zero, List.setIfInBounds_toArray, List.set_cons_zero, List.set_cons_succ]
      refine wpAnyH_take (i := 7) (oi := { dst := some 12, op := Go.Op.fieldAddr 32 (Go.Operand.tmp 3) 3, type := 0, pos := "bill.go:22", after := #[], guard := none }) (v := ?_) rfl (by kernel_rfl) (by kernel_rfl) (by kernel_rfl) (fun _ _ _ h => h) (Or.inl ⟨by rfl, ?_⟩) (by assumption) ?_
      rotate_left 1
      · intro w' hSw
        first | (go_simp; done) | (go_simp; with_reducible rfl)
      try simp only [Act.put, List.getElem_toArray, List.getElem_cons_succ, List.getElem_cons_zero, List.setIfInBounds_toArray, List.set_cons_zero, List.set_cons_succ]
      refine wpAnyH_take (i := 8) (oi := { dst := some 13, op := Go.Op.load 30 (Go.Operand.tmp 12), type := 30, pos := "bill.go:22", after := #[{ on := 7, ground := Go.Ground.data }], guard := none }) (v := ?_) rfl (by kernel_rfl) (by kernel_rfl) (by kernel_rfl) (fun _ _ _ h => h) (Or.inl ⟨by rfl, ?_⟩) (by assumption) ?_
      rotate_left 1
      · intro w' hSw
        obtain ⟨d0, d1, d2, d3, d4, d5, _⟩ := hold6 hSw
        first | (go_simp; done) | (go_simp; with_reducible rfl)
      try simp only [Act.put, List.getElem_toArray, List.getElem_cons_succ, List.getElem_cons_zero, List.setIfInBounds_toArray, List.set_cons_zero, List.set_cons_succ]
      refine wpAnyH_ready (rs := [1, 6]) (by kernel_rfl) (by simp) ?_
      refine (AllReadyH.cons (o := { dst := some 6, op := Go.Op.load 30 (Go.Operand.tmp 5), type := 30, pos := "bill.go:22", after := #[{ on := 0, ground := Go.Ground.data }], guard := none }) rfl (fun K hK => ?_) (AllReadyH.cons (o := { dst := some 11, op := Go.Op.load 30 (Go.Operand.tmp 10), type := 30, pos := "bill.go:22", after := #[{ on := 5, ground := Go.Ground.data }], guard := none }) rfl (fun K hK => ?_) AllReadyH.nil))
      ·
        go_simp
        skip
        refine hK.out _ _ ?_ (fun hHeld => ?_)
        · first | with_reducible exact hHeld | exact bk_far (bk_drew bY.out) (by show w.heap.size + 1 ≠ w.heap.size; omega) _ | exact bk_far (bk_far (bk_drew bY.out) (by show w.heap.size + 1 ≠ w.heap.size; omega) _) (by show w.heap.size + 1 ≠ w.heap.size; omega) _
        clear hK K
        try simp only [Act.put, List.getElem_toArray, List.getElem_cons_succ, List.getElem_cons_zero, List.setIfInBounds_toArray, List.set_cons_zero, List.set_cons_succ]
        refine wpAnyH_ready (rs := [4, 6]) (by kernel_rfl) (by simp) ?_
        refine (AllReadyH.cons (o := { dst := some 9, op := Go.Op.call { callee := Go.Callee.value (Go.Operand.func 38), args := #[Go.Operand.tmp 6, Go.Operand.tmp 8], argTypes := #[30, 30] }, type := 30, pos := "bill.go:22", after := #[{ on := 1, ground := Go.Ground.data }, { on := 3, ground := Go.Ground.data }], guard := none }) rfl (fun K hK => ?_) (AllReadyH.cons (o := { dst := some 11, op := Go.Op.load 30 (Go.Operand.tmp 10), type := 30, pos := "bill.go:22", after := #[{ on := 5, ground := Go.Ground.data }], guard := none }) rfl (fun K hK => ?_) AllReadyH.nil))
        ·
          go_simp
          go_at_call 38
          (with_reducible refine (k1.out _).mono ?_)
          rintro e wq ⟨rfl, rfl⟩
          go_wp2_with (fail)
          refine hK.out _ _ ?_ (fun hHeld => ?_)
          · first | with_reducible exact hHeld | exact bk_far (bk_drew bY.out) (by show w.heap.size + 1 ≠ w.heap.size; omega) _ | exact bk_far (bk_far (bk_drew bY.out) (by show w.heap.size + 1 ≠ w.heap.size; omega) _) (by show w.heap.size + 1 ≠ w.heap.size; omega) _
          clear hK K
          try simp only [Act.put, List.getElem_toArray, List.getElem_cons_succ, List.getElem_cons_zero, List.setIfInBounds_toArray, List.set_cons_zero, List.set_cons_succ]
          refine wpAnyH_ready (rs := [6]) (by kernel_rfl) (by simp) ?_
          refine (AllReadyH.cons (o := { dst := some 11, op := Go.Op.load 30 (Go.Operand.tmp 10), type := 30, pos := "bill.go:22", after := #[{ on := 5, ground := Go.Ground.data }], guard := none }) rfl (fun K hK => ?_) AllReadyH.nil)
          go_simp
          skip
          refine hK.out _ _ ?_ (fun hHeld => ?_)
          · first | with_reducible exact hHeld | exact bk_far (bk_drew bY.out) (by show w.heap.size + 1 ≠ w.heap.size; omega) _ | exact bk_far (bk_far (bk_drew bY.out) (by show w.heap.size + 1 ≠ w.heap.size; omega) _) (by show w.heap.size + 1 ≠ w.heap.size; omega) _
          clear hK K
          try simp only [Act.put, List.getElem_toArray, List.getElem_cons_succ, List.getElem_cons_zero, List.setIfInBounds_toArray, List.set_cons_zero, List.set_cons_succ]
          refine wpAnyH_take (i := 10) (oi := { dst := some 15, op := Go.Op.fieldAddr 32 (Go.Operand.tmp 2) 2, type := 0, pos := "bill.go:22", after := #[{ on := 0, ground := Go.Ground.phase }, { on := 1, ground := Go.Ground.phase }, { on := 2, ground := Go.Ground.phase }, { on := 3, ground := Go.Ground.phase }, { on := 4, ground := Go.Ground.phase }, { on := 5, ground := Go.Ground.phase }, { on := 6, ground := Go.Ground.phase }, { on := 7, ground := Go.Ground.textOnly Go.Departure.lateStores }, { on := 8, ground := Go.Ground.textOnly Go.Departure.lateStores }, { on := 9, ground := Go.Ground.textOnly Go.Departure.lateStoresUnsure }], guard := none }) (v := ?_) rfl (by kernel_rfl) (by kernel_rfl) (by kernel_rfl) (fun _ _ _ h => h) (Or.inl ⟨by rfl, ?_⟩) (by assumption) ?_
          rotate_left 1
          · intro w' hSw
            first | (go_simp; done) | (go_simp; with_reducible rfl)
          try simp only [Act.put, List.getElem_toArray, List.getElem_cons_succ, List.getElem_cons_zero, List.setIfInBounds_toArray, List.set_cons_zero, List.set_cons_succ]
          refine wpAnyH_ready (rs := [9]) (by kernel_rfl) (by simp) ?_
          refine (AllReadyH.cons (o := { dst := some 14, op := Go.Op.call { callee := Go.Callee.value (Go.Operand.func 38), args := #[Go.Operand.tmp 11, Go.Operand.tmp 13], argTypes := #[30, 30] }, type := 30, pos := "bill.go:22", after := #[{ on := 6, ground := Go.Ground.data }, { on := 8, ground := Go.Ground.data }, { on := 4, ground := Go.Ground.chain }], guard := none }) rfl (fun K hK => ?_) AllReadyH.nil)
          go_simp
          go_at_call 38
          (with_reducible refine (k2.out _).mono ?_)
          rintro e wq ⟨rfl, rfl⟩
          go_wp2_with (fail)
          refine hK.out _ _ ?_ (fun hHeld => ?_)
          · first | with_reducible exact hHeld | exact bk_far (bk_drew bY.out) (by show w.heap.size + 1 ≠ w.heap.size; omega) _ | exact bk_far (bk_far (bk_drew bY.out) (by show w.heap.size + 1 ≠ w.heap.size; omega) _) (by show w.heap.size + 1 ≠ w.heap.size; omega) _
          clear hK K
          try simp only [Act.put, List.getElem_toArray, List.getElem_cons_succ, List.getElem_cons_zero, List.setIfInBounds_toArray, List.set_cons_zero, List.set_cons_succ]
          refine wpAnyH_ready (rs := [11]) (by kernel_rfl) (by simp) ?_
          refine (AllReadyH.cons (o := { dst := none, op := Go.Op.store 30 (Go.Operand.tmp 15) (Go.Operand.tmp 9), type := 0, pos := "bill.go:22", after := #[{ on := 10, ground := Go.Ground.data }, { on := 4, ground := Go.Ground.data }, { on := 9, ground := Go.Ground.chain }, { on := 0, ground := Go.Ground.phase }, { on := 1, ground := Go.Ground.phase }, { on := 2, ground := Go.Ground.phase }, { on := 3, ground := Go.Ground.phase }, { on := 4, ground := Go.Ground.phase }, { on := 5, ground := Go.Ground.phase }, { on := 6, ground := Go.Ground.phase }, { on := 7, ground := Go.Ground.textOnly Go.Departure.lateStores }, { on := 8, ground := Go.Ground.textOnly Go.Departure.lateStores }, { on := 9, ground := Go.Ground.textOnly Go.Departure.lateStoresUnsure }], guard := none }) rfl (fun K hK => ?_) AllReadyH.nil)
          go_simp
          skip
          refine hK.out _ _ ?_ (fun hHeld => ?_)
          · first | with_reducible exact hHeld | exact bk_far (bk_drew bY.out) (by show w.heap.size + 1 ≠ w.heap.size; omega) _ | exact bk_far (bk_far (bk_drew bY.out) (by show w.heap.size + 1 ≠ w.heap.size; omega) _) (by show w.heap.size + 1 ≠ w.heap.size; omega) _
          clear hK K
          try simp only [Act.put, List.getElem_toArray, List.getElem_cons_succ, List.getElem_cons_zero, List.setIfInBounds_toArray, List.set_cons_zero, List.set_cons_succ]
          refine wpAnyH_take (i := 12) (oi := { dst := some 16, op := Go.Op.fieldAddr 32 (Go.Operand.tmp 2) 3, type := 0, pos := "bill.go:22", after := #[{ on := 0, ground := Go.Ground.phase }, { on := 1, ground := Go.Ground.phase }, { on := 2, ground := Go.Ground.phase }, { on := 3, ground := Go.Ground.phase }, { on := 4, ground := Go.Ground.phase }, { on := 5, ground := Go.Ground.phase }, { on := 6, ground := Go.Ground.phase }, { on := 7, ground := Go.Ground.phase }, { on := 8, ground := Go.Ground.phase }, { on := 9, ground := Go.Ground.phase }, { on := 10, ground := Go.Ground.phase }, { on := 11, ground := Go.Ground.phase }], guard := none }) (v := ?_) rfl (by kernel_rfl) (by kernel_rfl) (by kernel_rfl) (fun _ _ _ h => h) (Or.inl ⟨by rfl, ?_⟩) (by assumption) ?_
          rotate_left 1
          · intro w' hSw
            first | (go_simp; done) | (go_simp; with_reducible rfl)
          try simp only [Act.put, List.getElem_toArray, List.getElem_cons_succ, List.getElem_cons_zero, List.setIfInBounds_toArray, List.set_cons_zero, List.set_cons_succ]
          refine wpAnyH_ready (rs := [13]) (by kernel_rfl) (by simp) ?_
          refine (AllReadyH.cons (o := { dst := none, op := Go.Op.store 30 (Go.Operand.tmp 16) (Go.Operand.tmp 14), type := 0, pos := "bill.go:22", after := #[{ on := 12, ground := Go.Ground.data }, { on := 9, ground := Go.Ground.data }, { on := 11, ground := Go.Ground.chain }, { on := 0, ground := Go.Ground.phase }, { on := 1, ground := Go.Ground.phase }, { on := 2, ground := Go.Ground.phase }, { on := 3, ground := Go.Ground.phase }, { on := 4, ground := Go.Ground.phase }, { on := 5, ground := Go.Ground.phase }, { on := 6, ground := Go.Ground.phase }, { on := 7, ground := Go.Ground.phase }, { on := 8, ground := Go.Ground.phase }, { on := 9, ground := Go.Ground.phase }, { on := 10, ground := Go.Ground.phase }, { on := 11, ground := Go.Ground.phase }], guard := none }) rfl (fun K hK => ?_) AllReadyH.nil)
          go_simp
          skip
          refine hK.out _ _ ?_ (fun hHeld => ?_)
          · first | with_reducible exact hHeld | exact bk_far (bk_drew bY.out) (by show w.heap.size + 1 ≠ w.heap.size; omega) _ | exact bk_far (bk_far (bk_drew bY.out) (by show w.heap.size + 1 ≠ w.heap.size; omega) _) (by show w.heap.size + 1 ≠ w.heap.size; omega) _
          clear hK K
          try simp only [Act.put, List.getElem_toArray, List.getElem_cons_succ, List.getElem_cons_zero, List.setIfInBounds_toArray, List.set_cons_zero, List.set_cons_succ]
          refine wpAnyH_done (by kernel_rfl) ?_ _
          refine NoPanic.normal ?_
          go_wp2_with (fail)
          go_meet
          exact ⟨bk_put (bk_put (bk_drew bx.out) rfl) rfl, bk_far (bk_far (bk_drew bY.out) (by show w.heap.size + 1 ≠ w.heap.size; omega) _) (by show w.heap.size + 1 ≠ w.heap.size; omega) _, bk_far (bk_far (bk_drew bz.out) (by show w.heap.size + 1 + 1 ≠ w.heap.size; omega) _) (by show w.heap.size + 1 + 1 ≠ w.heap.size; omega) _, bl_set (bl_set (bl_drew hB.out) (Nat.le_refl _) _) (Nat.le_refl _) _⟩
        ·
          go_simp
          skip
          refine hK.out _ _ ?_ (fun hHeld => ?_)
          · first | with_reducible exact hHeld | exact bk_far (bk_drew bY.out) (by show w.heap.size + 1 ≠ w.heap.size; omega) _ | exact bk_far (bk_far (bk_drew bY.out) (by show w.heap.size + 1 ≠ w.heap.size; omega) _) (by show w.heap.size + 1 ≠ w.heap.size; omega) _
          clear hK K
          try simp only [Act.put, List.getElem_toArray, List.getElem_cons_succ, List.getElem_cons_zero, List.setIfInBounds_toArray, List.set_cons_zero, List.set_cons_succ]
          refine wpAnyH_ready (rs := [4]) (by kernel_rfl) (by simp) ?_
          refine (AllReadyH.cons (o := { dst := some 9, op := Go.Op.call { callee := Go.Callee.value (Go.Operand.func 38), args := #[Go.Operand.tmp 6, Go.Operand.tmp 8], argTypes := #[30, 30] }, type := 30, pos := "bill.go:22", after := #[{ on := 1, ground := Go.Ground.data }, { on := 3, ground := Go.Ground.data }], guard := none }) rfl (fun K hK => ?_) AllReadyH.nil)
          go_simp
          go_at_call 38
          (with_reducible refine (k1.out _).mono ?_)
          rintro e wq ⟨rfl, rfl⟩
          go_wp2_with (fail)
          refine hK.out _ _ ?_ (fun hHeld => ?_)
          · first | with_reducible exact hHeld | exact bk_far (bk_drew bY.out) (by show w.heap.size + 1 ≠ w.heap.size; omega) _ | exact bk_far (bk_far (bk_drew bY.out) (by show w.heap.size + 1 ≠ w.heap.size; omega) _) (by show w.heap.size + 1 ≠ w.heap.size; omega) _
          clear hK K
          try simp only [Act.put, List.getElem_toArray, List.getElem_cons_succ, List.getElem_cons_zero, List.setIfInBounds_toArray, List.set_cons_zero, List.set_cons_succ]
          refine wpAnyH_take (i := 10) (oi := { dst := some 15, op := Go.Op.fieldAddr 32 (Go.Operand.tmp 2) 2, type := 0, pos := "bill.go:22", after := #[{ on := 0, ground := Go.Ground.phase }, { on := 1, ground := Go.Ground.phase }, { on := 2, ground := Go.Ground.phase }, { on := 3, ground := Go.Ground.phase }, { on := 4, ground := Go.Ground.phase }, { on := 5, ground := Go.Ground.phase }, { on := 6, ground := Go.Ground.phase }, { on := 7, ground := Go.Ground.textOnly Go.Departure.lateStores }, { on := 8, ground := Go.Ground.textOnly Go.Departure.lateStores }, { on := 9, ground := Go.Ground.textOnly Go.Departure.lateStoresUnsure }], guard := none }) (v := ?_) rfl (by kernel_rfl) (by kernel_rfl) (by kernel_rfl) (fun _ _ _ h => h) (Or.inl ⟨by rfl, ?_⟩) (by assumption) ?_
          rotate_left 1
          · intro w' hSw
            first | (go_simp; done) | (go_simp; with_reducible rfl)
          try simp only [Act.put, List.getElem_toArray, List.getElem_cons_succ, List.getElem_cons_zero, List.setIfInBounds_toArray, List.set_cons_zero, List.set_cons_succ]
          refine wpAnyH_ready (rs := [9]) (by kernel_rfl) (by simp) ?_
          refine (AllReadyH.cons (o := { dst := some 14, op := Go.Op.call { callee := Go.Callee.value (Go.Operand.func 38), args := #[Go.Operand.tmp 11, Go.Operand.tmp 13], argTypes := #[30, 30] }, type := 30, pos := "bill.go:22", after := #[{ on := 6, ground := Go.Ground.data }, { on := 8, ground := Go.Ground.data }, { on := 4, ground := Go.Ground.chain }], guard := none }) rfl (fun K hK => ?_) AllReadyH.nil)
          go_simp
          go_at_call 38
          (with_reducible refine (k2.out _).mono ?_)
          rintro e wq ⟨rfl, rfl⟩
          go_wp2_with (fail)
          refine hK.out _ _ ?_ (fun hHeld => ?_)
          · first | with_reducible exact hHeld | exact bk_far (bk_drew bY.out) (by show w.heap.size + 1 ≠ w.heap.size; omega) _ | exact bk_far (bk_far (bk_drew bY.out) (by show w.heap.size + 1 ≠ w.heap.size; omega) _) (by show w.heap.size + 1 ≠ w.heap.size; omega) _
          clear hK K
          try simp only [Act.put, List.getElem_toArray, List.getElem_cons_succ, List.getElem_cons_zero, List.setIfInBounds_toArray, List.set_cons_zero, List.set_cons_succ]
          refine wpAnyH_ready (rs := [11]) (by kernel_rfl) (by simp) ?_
          refine (AllReadyH.cons (o := { dst := none, op := Go.Op.store 30 (Go.Operand.tmp 15) (Go.Operand.tmp 9), type := 0, pos := "bill.go:22", after := #[{ on := 10, ground := Go.Ground.data }, { on := 4, ground := Go.Ground.data }, { on := 9, ground := Go.Ground.chain }, { on := 0, ground := Go.Ground.phase }, { on := 1, ground := Go.Ground.phase }, { on := 2, ground := Go.Ground.phase }, { on := 3, ground := Go.Ground.phase }, { on := 4, ground := Go.Ground.phase }, { on := 5, ground := Go.Ground.phase }, { on := 6, ground := Go.Ground.phase }, { on := 7, ground := Go.Ground.textOnly Go.Departure.lateStores }, { on := 8, ground := Go.Ground.textOnly Go.Departure.lateStores }, { on := 9, ground := Go.Ground.textOnly Go.Departure.lateStoresUnsure }], guard := none }) rfl (fun K hK => ?_) AllReadyH.nil)
          go_simp
          skip
          refine hK.out _ _ ?_ (fun hHeld => ?_)
          · first | with_reducible exact hHeld | exact bk_far (bk_drew bY.out) (by show w.heap.size + 1 ≠ w.heap.size; omega) _ | exact bk_far (bk_far (bk_drew bY.out) (by show w.heap.size + 1 ≠ w.heap.size; omega) _) (by show w.heap.size + 1 ≠ w.heap.size; omega) _
          clear hK K
          try simp only [Act.put, List.getElem_toArray, List.getElem_cons_succ, List.getElem_cons_zero, List.setIfInBounds_toArray, List.set_cons_zero, List.set_cons_succ]
          refine wpAnyH_take (i := 12) (oi := { dst := some 16, op := Go.Op.fieldAddr 32 (Go.Operand.tmp 2) 3, type := 0, pos := "bill.go:22", after := #[{ on := 0, ground := Go.Ground.phase }, { on := 1, ground := Go.Ground.phase }, { on := 2, ground := Go.Ground.phase }, { on := 3, ground := Go.Ground.phase }, { on := 4, ground := Go.Ground.phase }, { on := 5, ground := Go.Ground.phase }, { on := 6, ground := Go.Ground.phase }, { on := 7, ground := Go.Ground.phase }, { on := 8, ground := Go.Ground.phase }, { on := 9, ground := Go.Ground.phase }, { on := 10, ground := Go.Ground.phase }, { on := 11, ground := Go.Ground.phase }], guard := none }) (v := ?_) rfl (by kernel_rfl) (by kernel_rfl) (by kernel_rfl) (fun _ _ _ h => h) (Or.inl ⟨by rfl, ?_⟩) (by assumption) ?_
          rotate_left 1
          · intro w' hSw
            first | (go_simp; done) | (go_simp; with_reducible rfl)
          try simp only [Act.put, List.getElem_toArray, List.getElem_cons_succ, List.getElem_cons_zero, List.setIfInBounds_toArray, List.set_cons_zero, List.set_cons_succ]
          refine wpAnyH_ready (rs := [13]) (by kernel_rfl) (by simp) ?_
          refine (AllReadyH.cons (o := { dst := none, op := Go.Op.store 30 (Go.Operand.tmp 16) (Go.Operand.tmp 14), type := 0, pos := "bill.go:22", after := #[{ on := 12, ground := Go.Ground.data }, { on := 9, ground := Go.Ground.data }, { on := 11, ground := Go.Ground.chain }, { on := 0, ground := Go.Ground.phase }, { on := 1, ground := Go.Ground.phase }, { on := 2, ground := Go.Ground.phase }, { on := 3, ground := Go.Ground.phase }, { on := 4, ground := Go.Ground.phase }, { on := 5, ground := Go.Ground.phase }, { on := 6, ground := Go.Ground.phase }, { on := 7, ground := Go.Ground.phase }, { on := 8, ground := Go.Ground.phase }, { on := 9, ground := Go.Ground.phase }, { on := 10, ground := Go.Ground.phase }, { on := 11, ground := Go.Ground.phase }], guard := none }) rfl (fun K hK => ?_) AllReadyH.nil)
          go_simp
          skip
          refine hK.out _ _ ?_ (fun hHeld => ?_)
          · first | with_reducible exact hHeld | exact bk_far (bk_drew bY.out) (by show w.heap.size + 1 ≠ w.heap.size; omega) _ | exact bk_far (bk_far (bk_drew bY.out) (by show w.heap.size + 1 ≠ w.heap.size; omega) _) (by show w.heap.size + 1 ≠ w.heap.size; omega) _
          clear hK K
          try simp only [Act.put, List.getElem_toArray, List.getElem_cons_succ, List.getElem_cons_zero, List.setIfInBounds_toArray, List.set_cons_zero, List.set_cons_succ]
          refine wpAnyH_done (by kernel_rfl) ?_ _
          refine NoPanic.normal ?_
          go_wp2_with (fail)
          go_meet
          exact ⟨bk_put (bk_put (bk_drew bx.out) rfl) rfl, bk_far (bk_far (bk_drew bY.out) (by show w.heap.size + 1 ≠ w.heap.size; omega) _) (by show w.heap.size + 1 ≠ w.heap.size; omega) _, bk_far (bk_far (bk_drew bz.out) (by show w.heap.size + 1 + 1 ≠ w.heap.size; omega) _) (by show w.heap.size + 1 + 1 ≠ w.heap.size; omega) _, bl_set (bl_set (bl_drew hB.out) (Nat.le_refl _) _) (Nat.le_refl _) _⟩
      ·
        go_simp
        skip
        refine hK.out _ _ ?_ (fun hHeld => ?_)
        · first | with_reducible exact hHeld | exact bk_far (bk_drew bY.out) (by show w.heap.size + 1 ≠ w.heap.size; omega) _ | exact bk_far (bk_far (bk_drew bY.out) (by show w.heap.size + 1 ≠ w.heap.size; omega) _) (by show w.heap.size + 1 ≠ w.heap.size; omega) _
        clear hK K
        try simp only [Act.put, List.getElem_toArray, List.getElem_cons_succ, List.getElem_cons_zero, List.setIfInBounds_toArray, List.set_cons_zero, List.set_cons_succ]
        refine wpAnyH_ready (rs := [1]) (by kernel_rfl) (by simp) ?_
        refine (AllReadyH.cons (o := { dst := some 6, op := Go.Op.load 30 (Go.Operand.tmp 5), type := 30, pos := "bill.go:22", after := #[{ on := 0, ground := Go.Ground.data }], guard := none }) rfl (fun K hK => ?_) AllReadyH.nil)
        go_simp
        skip
        refine hK.out _ _ ?_ (fun hHeld => ?_)
        · first | with_reducible exact hHeld | exact bk_far (bk_drew bY.out) (by show w.heap.size + 1 ≠ w.heap.size; omega) _ | exact bk_far (bk_far (bk_drew bY.out) (by show w.heap.size + 1 ≠ w.heap.size; omega) _) (by show w.heap.size + 1 ≠ w.heap.size; omega) _
        clear hK K
        try simp only [Act.put, List.getElem_toArray, List.getElem_cons_succ, List.getElem_cons_zero, List.setIfInBounds_toArray, List.set_cons_zero, List.set_cons_succ]
        refine wpAnyH_ready (rs := [4]) (by kernel_rfl) (by simp) ?_
        refine (AllReadyH.cons (o := { dst := some 9, op := Go.Op.call { callee := Go.Callee.value (Go.Operand.func 38), args := #[Go.Operand.tmp 6, Go.Operand.tmp 8], argTypes := #[30, 30] }, type := 30, pos := "bill.go:22", after := #[{ on := 1, ground := Go.Ground.data }, { on := 3, ground := Go.Ground.data }], guard := none }) rfl (fun K hK => ?_) AllReadyH.nil)
        go_simp
        go_at_call 38
        (with_reducible refine (k1.out _).mono ?_)
        rintro e wq ⟨rfl, rfl⟩
        go_wp2_with (fail)
        refine hK.out _ _ ?_ (fun hHeld => ?_)
        · first | with_reducible exact hHeld | exact bk_far (bk_drew bY.out) (by show w.heap.size + 1 ≠ w.heap.size; omega) _ | exact bk_far (bk_far (bk_drew bY.out) (by show w.heap.size + 1 ≠ w.heap.size; omega) _) (by show w.heap.size + 1 ≠ w.heap.size; omega) _
        clear hK K
        try simp only [Act.put, List.getElem_toArray, List.getElem_cons_succ, List.getElem_cons_zero, List.setIfInBounds_toArray, List.set_cons_zero, List.set_cons_succ]
        refine wpAnyH_take (i := 10) (oi := { dst := some 15, op := Go.Op.fieldAddr 32 (Go.Operand.tmp 2) 2, type := 0, pos := "bill.go:22", after := #[{ on := 0, ground := Go.Ground.phase }, { on := 1, ground := Go.Ground.phase }, { on := 2, ground := Go.Ground.phase }, { on := 3, ground := Go.Ground.phase }, { on := 4, ground := Go.Ground.phase }, { on := 5, ground := Go.Ground.phase }, { on := 6, ground := Go.Ground.phase }, { on := 7, ground := Go.Ground.textOnly Go.Departure.lateStores }, { on := 8, ground := Go.Ground.textOnly Go.Departure.lateStores }, { on := 9, ground := Go.Ground.textOnly Go.Departure.lateStoresUnsure }], guard := none }) (v := ?_) rfl (by kernel_rfl) (by kernel_rfl) (by kernel_rfl) (fun _ _ _ h => h) (Or.inl ⟨by rfl, ?_⟩) (by assumption) ?_
        rotate_left 1
        · intro w' hSw
          first | (go_simp; done) | (go_simp; with_reducible rfl)
        try simp only [Act.put, List.getElem_toArray, List.getElem_cons_succ, List.getElem_cons_zero, List.setIfInBounds_toArray, List.set_cons_zero, List.set_cons_succ]
        refine wpAnyH_ready (rs := [9]) (by kernel_rfl) (by simp) ?_
        refine (AllReadyH.cons (o := { dst := some 14, op := Go.Op.call { callee := Go.Callee.value (Go.Operand.func 38), args := #[Go.Operand.tmp 11, Go.Operand.tmp 13], argTypes := #[30, 30] }, type := 30, pos := "bill.go:22", after := #[{ on := 6, ground := Go.Ground.data }, { on := 8, ground := Go.Ground.data }, { on := 4, ground := Go.Ground.chain }], guard := none }) rfl (fun K hK => ?_) AllReadyH.nil)
        go_simp
        go_at_call 38
        (with_reducible refine (k2.out _).mono ?_)
        rintro e wq ⟨rfl, rfl⟩
        go_wp2_with (fail)
        refine hK.out _ _ ?_ (fun hHeld => ?_)
        · first | with_reducible exact hHeld | exact bk_far (bk_drew bY.out) (by show w.heap.size + 1 ≠ w.heap.size; omega) _ | exact bk_far (bk_far (bk_drew bY.out) (by show w.heap.size + 1 ≠ w.heap.size; omega) _) (by show w.heap.size + 1 ≠ w.heap.size; omega) _
        clear hK K
        try simp only [Act.put, List.getElem_toArray, List.getElem_cons_succ, List.getElem_cons_zero, List.setIfInBounds_toArray, List.set_cons_zero, List.set_cons_succ]
        refine wpAnyH_ready (rs := [11]) (by kernel_rfl) (by simp) ?_
        refine (AllReadyH.cons (o := { dst := none, op := Go.Op.store 30 (Go.Operand.tmp 15) (Go.Operand.tmp 9), type := 0, pos := "bill.go:22", after := #[{ on := 10, ground := Go.Ground.data }, { on := 4, ground := Go.Ground.data }, { on := 9, ground := Go.Ground.chain }, { on := 0, ground := Go.Ground.phase }, { on := 1, ground := Go.Ground.phase }, { on := 2, ground := Go.Ground.phase }, { on := 3, ground := Go.Ground.phase }, { on := 4, ground := Go.Ground.phase }, { on := 5, ground := Go.Ground.phase }, { on := 6, ground := Go.Ground.phase }, { on := 7, ground := Go.Ground.textOnly Go.Departure.lateStores }, { on := 8, ground := Go.Ground.textOnly Go.Departure.lateStores }, { on := 9, ground := Go.Ground.textOnly Go.Departure.lateStoresUnsure }], guard := none }) rfl (fun K hK => ?_) AllReadyH.nil)
        go_simp
        skip
        refine hK.out _ _ ?_ (fun hHeld => ?_)
        · first | with_reducible exact hHeld | exact bk_far (bk_drew bY.out) (by show w.heap.size + 1 ≠ w.heap.size; omega) _ | exact bk_far (bk_far (bk_drew bY.out) (by show w.heap.size + 1 ≠ w.heap.size; omega) _) (by show w.heap.size + 1 ≠ w.heap.size; omega) _
        clear hK K
        try simp only [Act.put, List.getElem_toArray, List.getElem_cons_succ, List.getElem_cons_zero, List.setIfInBounds_toArray, List.set_cons_zero, List.set_cons_succ]
        refine wpAnyH_take (i := 12) (oi := { dst := some 16, op := Go.Op.fieldAddr 32 (Go.Operand.tmp 2) 3, type := 0, pos := "bill.go:22", after := #[{ on := 0, ground := Go.Ground.phase }, { on := 1, ground := Go.Ground.phase }, { on := 2, ground := Go.Ground.phase }, { on := 3, ground := Go.Ground.phase }, { on := 4, ground := Go.Ground.phase }, { on := 5, ground := Go.Ground.phase }, { on := 6, ground := Go.Ground.phase }, { on := 7, ground := Go.Ground.phase }, { on := 8, ground := Go.Ground.phase }, { on := 9, ground := Go.Ground.phase }, { on := 10, ground := Go.Ground.phase }, { on := 11, ground := Go.Ground.phase }], guard := none }) (v := ?_) rfl (by kernel_rfl) (by kernel_rfl) (by kernel_rfl) (fun _ _ _ h => h) (Or.inl ⟨by rfl, ?_⟩) (by assumption) ?_
        rotate_left 1
        · intro w' hSw
          first | (go_simp; done) | (go_simp; with_reducible rfl)
        try simp only [Act.put, List.getElem_toArray, List.getElem_cons_succ, List.getElem_cons_zero, List.setIfInBounds_toArray, List.set_cons_zero, List.set_cons_succ]
        refine wpAnyH_ready (rs := [13]) (by kernel_rfl) (by simp) ?_
        refine (AllReadyH.cons (o := { dst := none, op := Go.Op.store 30 (Go.Operand.tmp 16) (Go.Operand.tmp 14), type := 0, pos := "bill.go:22", after := #[{ on := 12, ground := Go.Ground.data }, { on := 9, ground := Go.Ground.data }, { on := 11, ground := Go.Ground.chain }, { on := 0, ground := Go.Ground.phase }, { on := 1, ground := Go.Ground.phase }, { on := 2, ground := Go.Ground.phase }, { on := 3, ground := Go.Ground.phase }, { on := 4, ground := Go.Ground.phase }, { on := 5, ground := Go.Ground.phase }, { on := 6, ground := Go.Ground.phase }, { on := 7, ground := Go.Ground.phase }, { on := 8, ground := Go.Ground.phase }, { on := 9, ground := Go.Ground.phase }, { on := 10, ground := Go.Ground.phase }, { on := 11, ground := Go.Ground.phase }], guard := none }) rfl (fun K hK => ?_) AllReadyH.nil)
        go_simp
        skip
        refine hK.out _ _ ?_ (fun hHeld => ?_)
        · first | with_reducible exact hHeld | exact bk_far (bk_drew bY.out) (by show w.heap.size + 1 ≠ w.heap.size; omega) _ | exact bk_far (bk_far (bk_drew bY.out) (by show w.heap.size + 1 ≠ w.heap.size; omega) _) (by show w.heap.size + 1 ≠ w.heap.size; omega) _
        clear hK K
        try simp only [Act.put, List.getElem_toArray, List.getElem_cons_succ, List.getElem_cons_zero, List.setIfInBounds_toArray, List.set_cons_zero, List.set_cons_succ]
        refine wpAnyH_done (by kernel_rfl) ?_ _
        refine NoPanic.normal ?_
        go_wp2_with (fail)
        go_meet
        exact ⟨bk_put (bk_put (bk_drew bx.out) rfl) rfl, bk_far (bk_far (bk_drew bY.out) (by show w.heap.size + 1 ≠ w.heap.size; omega) _) (by show w.heap.size + 1 ≠ w.heap.size; omega) _, bk_far (bk_far (bk_drew bz.out) (by show w.heap.size + 1 + 1 ≠ w.heap.size; omega) _) (by show w.heap.size + 1 + 1 ≠ w.heap.size; omega) _, bl_set (bl_set (bl_drew hB.out) (Nat.le_refl _) _) (Nat.le_refl _) _⟩
  case rest =>
    clear bx bY bz hB c0 c1 c2 c3 c4 c5 f0 f1 f2 f3 f4 f5
    obtain ⟨bx, bY, bz, hB⟩ := hcut
    obtain ⟨c0, c1, c2, c3, c4, c5, f0, f1, f2, f3, f4, f5⟩ := hold6 bx
    replace bx := Lib.hid bx
    replace bY := Lib.hid bY
    replace bz := Lib.hid bz
    replace hB := Lib.hid hB
    go_upto_region 2 with (fail)
    go_cut [] from 5 to 29 (fun wx => Bk wx w.heap.size #[.int .i64 x.1.1, .int .u64 x.1.2, .int .u64 s1, .int .u64 s2, .int .u64 s3, .int .u64 s4] 32 ∧ Bk wx (w.heap.size + 1) #[.int .i64 y.1.1, .int .u64 y.1.2, .int .u64 y.2.1, .int .u64 y.2.2.1, .int .u64 y.2.2.2.1, .int .u64 y.2.2.2.2] 32 ∧ Bk wx (w.heap.size + 1 + 1) #[.int .i64 0, .int .u64 0, .int .u64 0, .int .u64 0, .int .u64 0, .int .u64 0] 32 ∧ Below w.heap.size w wx)
    case first =>
        refine wp_region_noPanic ?_
        refine wp_region_held_drew (S := fun w' => Bk w' (w.heap.size + 1) #[.int .i64 y.1.1, .int .u64 y.1.2, .int .u64 y.2.1, .int .u64 y.2.2.1, .int .u64 y.2.2.2.1, .int .u64 y.2.2.2.2] 32) (by kernel_rfl) (bk_drew bY.out) (fun hHeld => ?_)
        refine wpAnyH_take (i := 0) (oi := { dst := some 17, op := Go.Op.fieldAddr 32 (Go.Operand.tmp 2) 4, type := 0, pos := "bill.go:23", after := #[], guard := none }) (v := ?_) rfl (by kernel_rfl) (by kernel_rfl) (by kernel_rfl) (fun _ _ _ h => h) (Or.inl ⟨by rfl, ?_⟩) (by assumption) ?_
        rotate_left 1
        · intro w' hSw
          first | (go_simp; done) | (go_simp; with_reducible rfl)
        try simp only [Act.put, List.getElem_toArray, List.getElem_cons_succ, List.getElem_cons_zero, List.setIfInBounds_toArray, List.set_cons_zero, List.set_cons_succ]
        refine wpAnyH_take (i := 2) (oi := { dst := some 19, op := Go.Op.fieldAddr 32 (Go.Operand.tmp 3) 4, type := 0, pos := "bill.go:23", after := #[], guard := none }) (v := ?_) rfl (by kernel_rfl) (by kernel_rfl) (by kernel_rfl) (fun _ _ _ h => h) (Or.inl ⟨by rfl, ?_⟩) (by assumption) ?_
        rotate_left 1
        · intro w' hSw
          first | (go_simp; done) | (go_simp; with_reducible rfl)
        try simp only [Act.put, List.getElem_toArray, List.getElem_cons_succ, List.getElem_cons_zero, List.setIfInBounds_toArray, List.set_cons_zero, List.set_cons_succ]
        refine wpAnyH_take (i := 3) (oi := { dst := some 20, op := Go.Op.load 30 (Go.Operand.tmp 19), type := 30, pos := "bill.go:23", after := #[{ on := 2, ground := Go.Ground.data }], guard := none }) (v := ?_) rfl (by kernel_rfl) (by kernel_rfl) (by kernel_rfl) (fun _ _ _ h => h) (Or.inl ⟨by rfl, ?_⟩) (by assumption) ?_
        rotate_left 1
        · intro w' hSw
          obtain ⟨d0, d1, d2, d3, d4, d5, _⟩ := hold6 hSw
          first | (go_simp; done) | (go_simp; with_reducible rfl)
        try simp only [Act.put, List.getElem_toArray, List.getElem_cons_succ, List.getElem_cons_zero, List.setIfInBounds_toArray, List.set_cons_zero, List.set_cons_succ]
        refine wpAnyH_take (i := 5) (oi := { dst := some 22, op := Go.Op.fieldAddr 32 (Go.Operand.tmp 2) 5, type := 0, pos := "bill.go:23", after := #[], guard := none }) (v := ?_) rfl (by kernel_rfl) (by kernel_rfl) (by kernel_rfl) (fun _ _ _ h => h) (Or.inl ⟨by rfl, ?_⟩) (by assumption) ?_
        rotate_left 1
        · intro w' hSw
          first | (go_simp; done) | (go_simp; with_reducible rfl)
        try simp only [Act.put, List.getElem_toArray, List.getElem_cons_succ, List.getElem_cons_zero, List.setIfInBounds_toArray, List.set_cons_zero, List.set_cons_succ]
        refine wpAnyH_take (i := 7) (oi := { dst := some 24, op := Go.Op.fieldAddr 32 (Go.Operand.tmp 3) 5, type := 0, pos := "bill.go:23", after := #[], guard := none }) (v := ?_) rfl (by kernel_rfl) (by kernel_rfl) (by kernel_rfl) (fun _ _ _ h => h) (Or.inl ⟨by rfl, ?_⟩) (by assumption) ?_
        rotate_left 1
        · intro w' hSw
          first | (go_simp; done) | (go_simp; with_reducible rfl)
        try simp only [Act.put, List.getElem_toArray, List.getElem_cons_succ, List.getElem_cons_zero, List.setIfInBounds_toArray, List.set_cons_zero, List.set_cons_succ]
        refine wpAnyH_take (i := 8) (oi := { dst := some 25, op := Go.Op.load 30 (Go.Operand.tmp 24), type := 30, pos := "bill.go:23", after := #[{ on := 7, ground := Go.Ground.data }], guard := none }) (v := ?_) rfl (by kernel_rfl) (by kernel_rfl) (by kernel_rfl) (fun _ _ _ h => h) (Or.inl ⟨by rfl, ?_⟩) (by assumption) ?_
        rotate_left 1
        · intro w' hSw
          obtain ⟨d0, d1, d2, d3, d4, d5, _⟩ := hold6 hSw
          first | (go_simp; done) | (go_simp; with_reducible rfl)
        try simp only [Act.put, List.getElem_toArray, List.getElem_cons_succ, List.getElem_cons_zero, List.setIfInBounds_toArray, List.set_cons_zero, List.set_cons_succ]
        refine wpAnyH_ready (rs := [1, 6]) (by kernel_rfl) (by simp) ?_
        refine (AllReadyH.cons (o := { dst := some 18, op := Go.Op.load 30 (Go.Operand.tmp 17), type := 30, pos := "bill.go:23", after := #[{ on := 0, ground := Go.Ground.data }], guard := none }) rfl (fun K hK => ?_) (AllReadyH.cons (o := { dst := some 23, op := Go.Op.load 30 (Go.Operand.tmp 22), type := 30, pos := "bill.go:23", after := #[{ on := 5, ground := Go.Ground.data }], guard := none }) rfl (fun K hK => ?_) AllReadyH.nil))
        ·
          go_simp
          skip
          refine hK.out _ _ ?_ (fun hHeld => ?_)
          · first | with_reducible exact hHeld | exact bk_far (bk_drew bY.out) (by show w.heap.size + 1 ≠ w.heap.size; omega) _ | exact bk_far (bk_far (bk_drew bY.out) (by show w.heap.size + 1 ≠ w.heap.size; omega) _) (by show w.heap.size + 1 ≠ w.heap.size; omega) _
          clear hK K
          try simp only [Act.put, List.getElem_toArray, List.getElem_cons_succ, List.getElem_cons_zero, List.setIfInBounds_toArray, List.set_cons_zero, List.set_cons_succ]
          refine wpAnyH_ready (rs := [4, 6]) (by kernel_rfl) (by simp) ?_
          refine (AllReadyH.cons (o := { dst := some 21, op := Go.Op.call { callee := Go.Callee.value (Go.Operand.func 38), args := #[Go.Operand.tmp 18, Go.Operand.tmp 20], argTypes := #[30, 30] }, type := 30, pos := "bill.go:23", after := #[{ on := 1, ground := Go.Ground.data }, { on := 3, ground := Go.Ground.data }], guard := none }) rfl (fun K hK => ?_) (AllReadyH.cons (o := { dst := some 23, op := Go.Op.load 30 (Go.Operand.tmp 22), type := 30, pos := "bill.go:23", after := #[{ on := 5, ground := Go.Ground.data }], guard := none }) rfl (fun K hK => ?_) AllReadyH.nil))
          ·
            go_simp
            go_at_call 38
            (with_reducible refine (k3.out _).mono ?_)
            rintro e wq ⟨rfl, rfl⟩
            go_wp2_with (fail)
            refine hK.out _ _ ?_ (fun hHeld => ?_)
            · first | with_reducible exact hHeld | exact bk_far (bk_drew bY.out) (by show w.heap.size + 1 ≠ w.heap.size; omega) _ | exact bk_far (bk_far (bk_drew bY.out) (by show w.heap.size + 1 ≠ w.heap.size; omega) _) (by show w.heap.size + 1 ≠ w.heap.size; omega) _
            clear hK K
            try simp only [Act.put, List.getElem_toArray, List.getElem_cons_succ, List.getElem_cons_zero, List.setIfInBounds_toArray, List.set_cons_zero, List.set_cons_succ]
            refine wpAnyH_ready (rs := [6]) (by kernel_rfl) (by simp) ?_
            refine (AllReadyH.cons (o := { dst := some 23, op := Go.Op.load 30 (Go.Operand.tmp 22), type := 30, pos := "bill.go:23", after := #[{ on := 5, ground := Go.Ground.data }], guard := none }) rfl (fun K hK => ?_) AllReadyH.nil)
            go_simp
            skip
            refine hK.out _ _ ?_ (fun hHeld => ?_)
            · first | with_reducible exact hHeld | exact bk_far (bk_drew bY.out) (by show w.heap.size + 1 ≠ w.heap.size; omega) _ | exact bk_far (bk_far (bk_drew bY.out) (by show w.heap.size + 1 ≠ w.heap.size; omega) _) (by show w.heap.size + 1 ≠ w.heap.size; omega) _
            clear hK K
            try simp only [Act.put, List.getElem_toArray, List.getElem_cons_succ, List.getElem_cons_zero, List.setIfInBounds_toArray, List.set_cons_zero, List.set_cons_succ]
            refine wpAnyH_take (i := 10) (oi := { dst := some 27, op := Go.Op.fieldAddr 32 (Go.Operand.tmp 2) 4, type := 0, pos := "bill.go:23", after := #[{ on := 0, ground := Go.Ground.phase }, { on := 1, ground := Go.Ground.phase }, { on := 2, ground := Go.Ground.phase }, { on := 3, ground := Go.Ground.phase }, { on := 4, ground := Go.Ground.phase }, { on := 5, ground := Go.Ground.phase }, { on := 6, ground := Go.Ground.phase }, { on := 7, ground := Go.Ground.textOnly Go.Departure.lateStores }, { on := 8, ground := Go.Ground.textOnly Go.Departure.lateStores }, { on := 9, ground := Go.Ground.textOnly Go.Departure.lateStoresUnsure }], guard := none }) (v := ?_) rfl (by kernel_rfl) (by kernel_rfl) (by kernel_rfl) (fun _ _ _ h => h) (Or.inl ⟨by rfl, ?_⟩) (by assumption) ?_
            rotate_left 1
            · intro w' hSw
              first | (go_simp; done) | (go_simp; with_reducible rfl)
            try simp only [Act.put, List.getElem_toArray, List.getElem_cons_succ, List.getElem_cons_zero, List.setIfInBounds_toArray, List.set_cons_zero, List.set_cons_succ]
            refine wpAnyH_ready (rs := [9]) (by kernel_rfl) (by simp) ?_
            refine (AllReadyH.cons (o := { dst := some 26, op := Go.Op.call { callee := Go.Callee.value (Go.Operand.func 38), args := #[Go.Operand.tmp 23, Go.Operand.tmp 25], argTypes := #[30, 30] }, type := 30, pos := "bill.go:23", after := #[{ on := 6, ground := Go.Ground.data }, { on := 8, ground := Go.Ground.data }, { on := 4, ground := Go.Ground.chain }], guard := none }) rfl (fun K hK => ?_) AllReadyH.nil)
            go_simp
            go_at_call 38
            (with_reducible refine (k4.out _).mono ?_)
            rintro e wq ⟨rfl, rfl⟩
            go_wp2_with (fail)
            refine hK.out _ _ ?_ (fun hHeld => ?_)
            · first | with_reducible exact hHeld | exact bk_far (bk_drew bY.out) (by show w.heap.size + 1 ≠ w.heap.size; omega) _ | exact bk_far (bk_far (bk_drew bY.out) (by show w.heap.size + 1 ≠ w.heap.size; omega) _) (by show w.heap.size + 1 ≠ w.heap.size; omega) _
            clear hK K
            try simp only [Act.put, List.getElem_toArray, List.getElem_cons_succ, List.getElem_cons_zero, List.setIfInBounds_toArray, List.set_cons_zero, List.set_cons_succ]
            refine wpAnyH_ready (rs := [11]) (by kernel_rfl) (by simp) ?_
            refine (AllReadyH.cons (o := { dst := none, op := Go.Op.store 30 (Go.Operand.tmp 27) (Go.Operand.tmp 21), type := 0, pos := "bill.go:23", after := #[{ on := 10, ground := Go.Ground.data }, { on := 4, ground := Go.Ground.data }, { on := 9, ground := Go.Ground.chain }, { on := 0, ground := Go.Ground.phase }, { on := 1, ground := Go.Ground.phase }, { on := 2, ground := Go.Ground.phase }, { on := 3, ground := Go.Ground.phase }, { on := 4, ground := Go.Ground.phase }, { on := 5, ground := Go.Ground.phase }, { on := 6, ground := Go.Ground.phase }, { on := 7, ground := Go.Ground.textOnly Go.Departure.lateStores }, { on := 8, ground := Go.Ground.textOnly Go.Departure.lateStores }, { on := 9, ground := Go.Ground.textOnly Go.Departure.lateStoresUnsure }], guard := none }) rfl (fun K hK => ?_) AllReadyH.nil)
            go_simp
            skip
            refine hK.out _ _ ?_ (fun hHeld => ?_)
            · first | with_reducible exact hHeld | exact bk_far (bk_drew bY.out) (by show w.heap.size + 1 ≠ w.heap.size; omega) _ | exact bk_far (bk_far (bk_drew bY.out) (by show w.heap.size + 1 ≠ w.heap.size; omega) _) (by show w.heap.size + 1 ≠ w.heap.size; omega) _
            clear hK K
            try simp only [Act.put, List.getElem_toArray, List.getElem_cons_succ, List.getElem_cons_zero, List.setIfInBounds_toArray, List.set_cons_zero, List.set_cons_succ]
            refine wpAnyH_take (i := 12) (oi := { dst := some 28, op := Go.Op.fieldAddr 32 (Go.Operand.tmp 2) 5, type := 0, pos := "bill.go:23", after := #[{ on := 0, ground := Go.Ground.phase }, { on := 1, ground := Go.Ground.phase }, { on := 2, ground := Go.Ground.phase }, { on := 3, ground := Go.Ground.phase }, { on := 4, ground := Go.Ground.phase }, { on := 5, ground := Go.Ground.phase }, { on := 6, ground := Go.Ground.phase }, { on := 7, ground := Go.Ground.phase }, { on := 8, ground := Go.Ground.phase }, { on := 9, ground := Go.Ground.phase }, { on := 10, ground := Go.Ground.phase }, { on := 11, ground := Go.Ground.phase }], guard := none }) (v := ?_) rfl (by kernel_rfl) (by kernel_rfl) (by kernel_rfl) (fun _ _ _ h => h) (Or.inl ⟨by rfl, ?_⟩) (by assumption) ?_
            rotate_left 1
            · intro w' hSw
              first | (go_simp; done) | (go_simp; with_reducible rfl)
            try simp only [Act.put, List.getElem_toArray, List.getElem_cons_succ, List.getElem_cons_zero, List.setIfInBounds_toArray, List.set_cons_zero, List.set_cons_succ]
            refine wpAnyH_ready (rs := [13]) (by kernel_rfl) (by simp) ?_
            refine (AllReadyH.cons (o := { dst := none, op := Go.Op.store 30 (Go.Operand.tmp 28) (Go.Operand.tmp 26), type := 0, pos := "bill.go:23", after := #[{ on := 12, ground := Go.Ground.data }, { on := 9, ground := Go.Ground.data }, { on := 11, ground := Go.Ground.chain }, { on := 0, ground := Go.Ground.phase }, { on := 1, ground := Go.Ground.phase }, { on := 2, ground := Go.Ground.phase }, { on := 3, ground := Go.Ground.phase }, { on := 4, ground := Go.Ground.phase }, { on := 5, ground := Go.Ground.phase }, { on := 6, ground := Go.Ground.phase }, { on := 7, ground := Go.Ground.phase }, { on := 8, ground := Go.Ground.phase }, { on := 9, ground := Go.Ground.phase }, { on := 10, ground := Go.Ground.phase }, { on := 11, ground := Go.Ground.phase }], guard := none }) rfl (fun K hK => ?_) AllReadyH.nil)
            go_simp
            skip
            refine hK.out _ _ ?_ (fun hHeld => ?_)
            · first | with_reducible exact hHeld | exact bk_far (bk_drew bY.out) (by show w.heap.size + 1 ≠ w.heap.size; omega) _ | exact bk_far (bk_far (bk_drew bY.out) (by show w.heap.size + 1 ≠ w.heap.size; omega) _) (by show w.heap.size + 1 ≠ w.heap.size; omega) _
            clear hK K
            try simp only [Act.put, List.getElem_toArray, List.getElem_cons_succ, List.getElem_cons_zero, List.setIfInBounds_toArray, List.set_cons_zero, List.set_cons_succ]
            refine wpAnyH_done (by kernel_rfl) ?_ _
            refine NoPanic.normal ?_
            go_wp2_with (fail)
            go_meet
            exact ⟨bk_put (bk_put (bk_drew bx.out) rfl) rfl, bk_far (bk_far (bk_drew bY.out) (by show w.heap.size + 1 ≠ w.heap.size; omega) _) (by show w.heap.size + 1 ≠ w.heap.size; omega) _, bk_far (bk_far (bk_drew bz.out) (by show w.heap.size + 1 + 1 ≠ w.heap.size; omega) _) (by show w.heap.size + 1 + 1 ≠ w.heap.size; omega) _, bl_set (bl_set (bl_drew hB.out) (Nat.le_refl _) _) (Nat.le_refl _) _⟩
          ·
            go_simp
            skip
            refine hK.out _ _ ?_ (fun hHeld => ?_)
            · first | with_reducible exact hHeld | exact bk_far (bk_drew bY.out) (by show w.heap.size + 1 ≠ w.heap.size; omega) _ | exact bk_far (bk_far (bk_drew bY.out) (by show w.heap.size + 1 ≠ w.heap.size; omega) _) (by show w.heap.size + 1 ≠ w.heap.size; omega) _
            clear hK K
            try simp only [Act.put, List.getElem_toArray, List.getElem_cons_succ, List.getElem_cons_zero, List.setIfInBounds_toArray, List.set_cons_zero, List.set_cons_succ]
            refine wpAnyH_ready (rs := [4]) (by kernel_rfl) (by simp) ?_
            refine (AllReadyH.cons (o := { dst := some 21, op := Go.Op.call { callee := Go.Callee.value (Go.Operand.func 38), args := #[Go.Operand.tmp 18, Go.Operand.tmp 20], argTypes := #[30, 30] }, type := 30, pos := "bill.go:23", after := #[{ on := 1, ground := Go.Ground.data }, { on := 3, ground := Go.Ground.data }], guard := none }) rfl (fun K hK => ?_) AllReadyH.nil)
            go_simp
            go_at_call 38
            (with_reducible refine (k3.out _).mono ?_)
            rintro e wq ⟨rfl, rfl⟩
            go_wp2_with (fail)
            refine hK.out _ _ ?_ (fun hHeld => ?_)
            · first | with_reducible exact hHeld | exact bk_far (bk_drew bY.out) (by show w.heap.size + 1 ≠ w.heap.size; omega) _ | exact bk_far (bk_far (bk_drew bY.out) (by show w.heap.size + 1 ≠ w.heap.size; omega) _) (by show w.heap.size + 1 ≠ w.heap.size; omega) _
            clear hK K
            try simp only [Act.put, List.getElem_toArray, List.getElem_cons_succ, List.getElem_cons_zero, List.setIfInBounds_toArray, List.set_cons_zero, List.set_cons_succ]
            refine wpAnyH_take (i := 10) (oi := { dst := some 27, op := Go.Op.fieldAddr 32 (Go.Operand.tmp 2) 4, type := 0, pos := "bill.go:23", after := #[{ on := 0, ground := Go.Ground.phase }, { on := 1, ground := Go.Ground.phase }, { on := 2, ground := Go.Ground.phase }, { on := 3, ground := Go.Ground.phase }, { on := 4, ground := Go.Ground.phase }, { on := 5, ground := Go.Ground.phase }, { on := 6, ground := Go.Ground.phase }, { on := 7, ground := Go.Ground.textOnly Go.Departure.lateStores }, { on := 8, ground := Go.Ground.textOnly Go.Departure.lateStores }, { on := 9, ground := Go.Ground.textOnly Go.Departure.lateStoresUnsure }], guard := none }) (v := ?_) rfl (by kernel_rfl) (by kernel_rfl) (by kernel_rfl) (fun _ _ _ h => h) (Or.inl ⟨by rfl, ?_⟩) (by assumption) ?_
            rotate_left 1
            · intro w' hSw
              first | (go_simp; done) | (go_simp; with_reducible rfl)
            try simp only [Act.put, List.getElem_toArray, List.getElem_cons_succ, List.getElem_cons_zero, List.setIfInBounds_toArray, List.set_cons_zero, List.set_cons_succ]
            refine wpAnyH_ready (rs := [9]) (by kernel_rfl) (by simp) ?_
            refine (AllReadyH.cons (o := { dst := some 26, op := Go.Op.call { callee := Go.Callee.value (Go.Operand.func 38), args := #[Go.Operand.tmp 23, Go.Operand.tmp 25], argTypes := #[30, 30] }, type := 30, pos := "bill.go:23", after := #[{ on := 6, ground := Go.Ground.data }, { on := 8, ground := Go.Ground.data }, { on := 4, ground := Go.Ground.chain }], guard := none }) rfl (fun K hK => ?_) AllReadyH.nil)
            go_simp
            go_at_call 38
            (with_reducible refine (k4.out _).mono ?_)
            rintro e wq ⟨rfl, rfl⟩
            go_wp2_with (fail)
            refine hK.out _ _ ?_ (fun hHeld => ?_)
            · first | with_reducible exact hHeld | exact bk_far (bk_drew bY.out) (by show w.heap.size + 1 ≠ w.heap.size; omega) _ | exact bk_far (bk_far (bk_drew bY.out) (by show w.heap.size + 1 ≠ w.heap.size; omega) _) (by show w.heap.size + 1 ≠ w.heap.size; omega) _
            clear hK K
            try simp only [Act.put, List.getElem_toArray, List.getElem_cons_succ, List.getElem_cons_zero, List.setIfInBounds_toArray, List.set_cons_zero, List.set_cons_succ]
            refine wpAnyH_ready (rs := [11]) (by kernel_rfl) (by simp) ?_
            refine (AllReadyH.cons (o := { dst := none, op := Go.Op.store 30 (Go.Operand.tmp 27) (Go.Operand.tmp 21), type := 0, pos := "bill.go:23", after := #[{ on := 10, ground := Go.Ground.data }, { on := 4, ground := Go.Ground.data }, { on := 9, ground := Go.Ground.chain }, { on := 0, ground := Go.Ground.phase }, { on := 1, ground := Go.Ground.phase }, { on := 2, ground := Go.Ground.phase }, { on := 3, ground := Go.Ground.phase }, { on := 4, ground := Go.Ground.phase }, { on := 5, ground := Go.Ground.phase }, { on := 6, ground := Go.Ground.phase }, { on := 7, ground := Go.Ground.textOnly Go.Departure.lateStores }, { on := 8, ground := Go.Ground.textOnly Go.Departure.lateStores }, { on := 9, ground := Go.Ground.textOnly Go.Departure.lateStoresUnsure }], guard := none }) rfl (fun K hK => ?_) AllReadyH.nil)
            go_simp
            skip
            refine hK.out _ _ ?_ (fun hHeld => ?_)
            · first | with_reducible exact hHeld | exact bk_far (bk_drew bY.out) (by show w.heap.size + 1 ≠ w.heap.size; omega) _ | exact bk_far (bk_far (bk_drew bY.out) (by show w.heap.size + 1 ≠ w.heap.size; omega) _) (by show w.heap.size + 1 ≠ w.heap.size; omega) _
            clear hK K
            try simp only [Act.put, List.getElem_toArray, List.getElem_cons_succ, List.getElem_cons_zero, List.setIfInBounds_toArray, List.set_cons_zero, List.set_cons_succ]
            refine wpAnyH_take (i := 12) (oi := { dst := some 28, op := Go.Op.fieldAddr 32 (Go.Operand.tmp 2) 5, type := 0, pos := "bill.go:23", after := #[{ on := 0, ground := Go.Ground.phase }, { on := 1, ground := Go.Ground.phase }, { on := 2, ground := Go.Ground.phase }, { on := 3, ground := Go.Ground.phase }, { on := 4, ground := Go.Ground.phase }, { on := 5, ground := Go.Ground.phase }, { on := 6, ground := Go.Ground.phase }, { on := 7, ground := Go.Ground.phase }, { on := 8, ground := Go.Ground.phase }, { on := 9, ground := Go.Ground.phase }, { on := 10, ground := Go.Ground.phase }, { on := 11, ground := Go.Ground.phase }], guard := none }) (v := ?_) rfl (by kernel_rfl) (by kernel_rfl) (by kernel_rfl) (fun _ _ _ h => h) (Or.inl ⟨by rfl, ?_⟩) (by assumption) ?_
            rotate_left 1
            · intro w' hSw
              first | (go_simp; done) | (go_simp; with_reducible rfl)
            try simp only [Act.put, List.getElem_toArray, List.getElem_cons_succ, List.getElem_cons_zero, List.setIfInBounds_toArray, List.set_cons_zero, List.set_cons_succ]
            refine wpAnyH_ready (rs := [13]) (by kernel_rfl) (by simp) ?_
            refine (AllReadyH.cons (o := { dst := none, op := Go.Op.store 30 (Go.Operand.tmp 28) (Go.Operand.tmp 26), type := 0, pos := "bill.go:23", after := #[{ on := 12, ground := Go.Ground.data }, { on := 9, ground := Go.Ground.data }, { on := 11, ground := Go.Ground.chain }, { on := 0, ground := Go.Ground.phase }, { on := 1, ground := Go.Ground.phase }, { on := 2, ground := Go.Ground.phase }, { on := 3, ground := Go.Ground.phase }, { on := 4, ground := Go.Ground.phase }, { on := 5, ground := Go.Ground.phase }, { on := 6, ground := Go.Ground.phase }, { on := 7, ground := Go.Ground.phase }, { on := 8, ground := Go.Ground.phase }, { on := 9, ground := Go.Ground.phase }, { on := 10, ground := Go.Ground.phase }, { on := 11, ground := Go.Ground.phase }], guard := none }) rfl (fun K hK => ?_) AllReadyH.nil)
            go_simp
            skip
            refine hK.out _ _ ?_ (fun hHeld => ?_)
            · first | with_reducible exact hHeld | exact bk_far (bk_drew bY.out) (by show w.heap.size + 1 ≠ w.heap.size; omega) _ | exact bk_far (bk_far (bk_drew bY.out) (by show w.heap.size + 1 ≠ w.heap.size; omega) _) (by show w.heap.size + 1 ≠ w.heap.size; omega) _
            clear hK K
            try simp only [Act.put, List.getElem_toArray, List.getElem_cons_succ, List.getElem_cons_zero, List.setIfInBounds_toArray, List.set_cons_zero, List.set_cons_succ]
            refine wpAnyH_done (by kernel_rfl) ?_ _
            refine NoPanic.normal ?_
            go_wp2_with (fail)
            go_meet
            exact ⟨bk_put (bk_put (bk_drew bx.out) rfl) rfl, bk_far (bk_far (bk_drew bY.out) (by show w.heap.size + 1 ≠ w.heap.size; omega) _) (by show w.heap.size + 1 ≠ w.heap.size; omega) _, bk_far (bk_far (bk_drew bz.out) (by show w.heap.size + 1 + 1 ≠ w.heap.size; omega) _) (by show w.heap.size + 1 + 1 ≠ w.heap.size; omega) _, bl_set (bl_set (bl_drew hB.out) (Nat.le_refl _) _) (Nat.le_refl _) _⟩
        ·
          go_simp
          skip
          refine hK.out _ _ ?_ (fun hHeld => ?_)
          · first | with_reducible exact hHeld | exact bk_far (bk_drew bY.out) (by show w.heap.size + 1 ≠ w.heap.size; omega) _ | exact bk_far (bk_far (bk_drew bY.out) (by show w.heap.size + 1 ≠ w.heap.size; omega) _) (by show w.heap.size + 1 ≠ w.heap.size; omega) _
          clear hK K
          try simp only [Act.put, List.getElem_toArray, List.getElem_cons_succ, List.getElem_cons_zero, List.setIfInBounds_toArray, List.set_cons_zero, List.set_cons_succ]
          refine wpAnyH_ready (rs := [1]) (by kernel_rfl) (by simp) ?_
          refine (AllReadyH.cons (o := { dst := some 18, op := Go.Op.load 30 (Go.Operand.tmp 17), type := 30, pos := "bill.go:23", after := #[{ on := 0, ground := Go.Ground.data }], guard := none }) rfl (fun K hK => ?_) AllReadyH.nil)
          go_simp
          skip
          refine hK.out _ _ ?_ (fun hHeld => ?_)
          · first | with_reducible exact hHeld | exact bk_far (bk_drew bY.out) (by show w.heap.size + 1 ≠ w.heap.size; omega) _ | exact bk_far (bk_far (bk_drew bY.out) (by show w.heap.size + 1 ≠ w.heap.size; omega) _) (by show w.heap.size + 1 ≠ w.heap.size; omega) _
          clear hK K
          try simp only [Act.put, List.getElem_toArray, List.getElem_cons_succ, List.getElem_cons_zero, List.setIfInBounds_toArray, List.set_cons_zero, List.set_cons_succ]
          refine wpAnyH_ready (rs := [4]) (by kernel_rfl) (by simp) ?_
          refine (AllReadyH.cons (o := { dst := some 21, op := Go.Op.call { callee := Go.Callee.value (Go.Operand.func 38), args := #[Go.Operand.tmp 18, Go.Operand.tmp 20], argTypes := #[30, 30] }, type := 30, pos := "bill.go:23", after := #[{ on := 1, ground := Go.Ground.data }, { on := 3, ground := Go.Ground.data }], guard := none }) rfl (fun K hK => ?_) AllReadyH.nil)
          go_simp
          go_at_call 38
          (with_reducible refine (k3.out _).mono ?_)
          rintro e wq ⟨rfl, rfl⟩
          go_wp2_with (fail)
          refine hK.out _ _ ?_ (fun hHeld => ?_)
          · first | with_reducible exact hHeld | exact bk_far (bk_drew bY.out) (by show w.heap.size + 1 ≠ w.heap.size; omega) _ | exact bk_far (bk_far (bk_drew bY.out) (by show w.heap.size + 1 ≠ w.heap.size; omega) _) (by show w.heap.size + 1 ≠ w.heap.size; omega) _
          clear hK K
          try simp only [Act.put, List.getElem_toArray, List.getElem_cons_succ, List.getElem_cons_zero, List.setIfInBounds_toArray, List.set_cons_zero, List.set_cons_succ]
          refine wpAnyH_take (i := 10) (oi := { dst := some 27, op := Go.Op.fieldAddr 32 (Go.Operand.tmp 2) 4, type := 0, pos := "bill.go:23", after := #[{ on := 0, ground := Go.Ground.phase }, { on := 1, ground := Go.Ground.phase }, { on := 2, ground := Go.Ground.phase }, { on := 3, ground := Go.Ground.phase }, { on := 4, ground := Go.Ground.phase }, { on := 5, ground := Go.Ground.phase }, { on := 6, ground := Go.Ground.phase }, { on := 7, ground := Go.Ground.textOnly Go.Departure.lateStores }, { on := 8, ground := Go.Ground.textOnly Go.Departure.lateStores }, { on := 9, ground := Go.Ground.textOnly Go.Departure.lateStoresUnsure }], guard := none }) (v := ?_) rfl (by kernel_rfl) (by kernel_rfl) (by kernel_rfl) (fun _ _ _ h => h) (Or.inl ⟨by rfl, ?_⟩) (by assumption) ?_
          rotate_left 1
          · intro w' hSw
            first | (go_simp; done) | (go_simp; with_reducible rfl)
          try simp only [Act.put, List.getElem_toArray, List.getElem_cons_succ, List.getElem_cons_zero, List.setIfInBounds_toArray, List.set_cons_zero, List.set_cons_succ]
          refine wpAnyH_ready (rs := [9]) (by kernel_rfl) (by simp) ?_
          refine (AllReadyH.cons (o := { dst := some 26, op := Go.Op.call { callee := Go.Callee.value (Go.Operand.func 38), args := #[Go.Operand.tmp 23, Go.Operand.tmp 25], argTypes := #[30, 30] }, type := 30, pos := "bill.go:23", after := #[{ on := 6, ground := Go.Ground.data }, { on := 8, ground := Go.Ground.data }, { on := 4, ground := Go.Ground.chain }], guard := none }) rfl (fun K hK => ?_) AllReadyH.nil)
          go_simp
          go_at_call 38
          (with_reducible refine (k4.out _).mono ?_)
          rintro e wq ⟨rfl, rfl⟩
          go_wp2_with (fail)
          refine hK.out _ _ ?_ (fun hHeld => ?_)
          · first | with_reducible exact hHeld | exact bk_far (bk_drew bY.out) (by show w.heap.size + 1 ≠ w.heap.size; omega) _ | exact bk_far (bk_far (bk_drew bY.out) (by show w.heap.size + 1 ≠ w.heap.size; omega) _) (by show w.heap.size + 1 ≠ w.heap.size; omega) _
          clear hK K
          try simp only [Act.put, List.getElem_toArray, List.getElem_cons_succ, List.getElem_cons_zero, List.setIfInBounds_toArray, List.set_cons_zero, List.set_cons_succ]
          refine wpAnyH_ready (rs := [11]) (by kernel_rfl) (by simp) ?_
          refine (AllReadyH.cons (o := { dst := none, op := Go.Op.store 30 (Go.Operand.tmp 27) (Go.Operand.tmp 21), type := 0, pos := "bill.go:23", after := #[{ on := 10, ground := Go.Ground.data }, { on := 4, ground := Go.Ground.data }, { on := 9, ground := Go.Ground.chain }, { on := 0, ground := Go.Ground.phase }, { on := 1, ground := Go.Ground.phase }, { on := 2, ground := Go.Ground.phase }, { on := 3, ground := Go.Ground.phase }, { on := 4, ground := Go.Ground.phase }, { on := 5, ground := Go.Ground.phase }, { on := 6, ground := Go.Ground.phase }, { on := 7, ground := Go.Ground.textOnly Go.Departure.lateStores }, { on := 8, ground := Go.Ground.textOnly Go.Departure.lateStores }, { on := 9, ground := Go.Ground.textOnly Go.Departure.lateStoresUnsure }], guard := none }) rfl (fun K hK => ?_) AllReadyH.nil)
          go_simp
          skip
          refine hK.out _ _ ?_ (fun hHeld => ?_)
          · first | with_reducible exact hHeld | exact bk_far (bk_drew bY.out) (by show w.heap.size + 1 ≠ w.heap.size; omega) _ | exact bk_far (bk_far (bk_drew bY.out) (by show w.heap.size + 1 ≠ w.heap.size; omega) _) (by show w.heap.size + 1 ≠ w.heap.size; omega) _
          clear hK K
          try simp only [Act.put, List.getElem_toArray, List.getElem_cons_succ, List.getElem_cons_zero, List.setIfInBounds_toArray, List.set_cons_zero, List.set_cons_succ]
          refine wpAnyH_take (i := 12) (oi := { dst := some 28, op := Go.Op.fieldAddr 32 (Go.Operand.tmp 2) 5, type := 0, pos := "bill.go:23", after := #[{ on := 0, ground := Go.Ground.phase }, { on := 1, ground := Go.Ground.phase }, { on := 2, ground := Go.Ground.phase }, { on := 3, ground := Go.Ground.phase }, { on := 4, ground := Go.Ground.phase }, { on := 5, ground := Go.Ground.phase }, { on := 6, ground := Go.Ground.phase }, { on := 7, ground := Go.Ground.phase }, { on := 8, ground := Go.Ground.phase }, { on := 9, ground := Go.Ground.phase }, { on := 10, ground := Go.Ground.phase }, { on := 11, ground := Go.Ground.phase }], guard := none }) (v := ?_) rfl (by kernel_rfl) (by kernel_rfl) (by kernel_rfl) (fun _ _ _ h => h) (Or.inl ⟨by rfl, ?_⟩) (by assumption) ?_
          rotate_left 1
          · intro w' hSw
            first | (go_simp; done) | (go_simp; with_reducible rfl)
          try simp only [Act.put, List.getElem_toArray, List.getElem_cons_succ, List.getElem_cons_zero, List.setIfInBounds_toArray, List.set_cons_zero, List.set_cons_succ]
          refine wpAnyH_ready (rs := [13]) (by kernel_rfl) (by simp) ?_
          refine (AllReadyH.cons (o := { dst := none, op := Go.Op.store 30 (Go.Operand.tmp 28) (Go.Operand.tmp 26), type := 0, pos := "bill.go:23", after := #[{ on := 12, ground := Go.Ground.data }, { on := 9, ground := Go.Ground.data }, { on := 11, ground := Go.Ground.chain }, { on := 0, ground := Go.Ground.phase }, { on := 1, ground := Go.Ground.phase }, { on := 2, ground := Go.Ground.phase }, { on := 3, ground := Go.Ground.phase }, { on := 4, ground := Go.Ground.phase }, { on := 5, ground := Go.Ground.phase }, { on := 6, ground := Go.Ground.phase }, { on := 7, ground := Go.Ground.phase }, { on := 8, ground := Go.Ground.phase }, { on := 9, ground := Go.Ground.phase }, { on := 10, ground := Go.Ground.phase }, { on := 11, ground := Go.Ground.phase }], guard := none }) rfl (fun K hK => ?_) AllReadyH.nil)
          go_simp
          skip
          refine hK.out _ _ ?_ (fun hHeld => ?_)
          · first | with_reducible exact hHeld | exact bk_far (bk_drew bY.out) (by show w.heap.size + 1 ≠ w.heap.size; omega) _ | exact bk_far (bk_far (bk_drew bY.out) (by show w.heap.size + 1 ≠ w.heap.size; omega) _) (by show w.heap.size + 1 ≠ w.heap.size; omega) _
          clear hK K
          try simp only [Act.put, List.getElem_toArray, List.getElem_cons_succ, List.getElem_cons_zero, List.setIfInBounds_toArray, List.set_cons_zero, List.set_cons_succ]
          refine wpAnyH_done (by kernel_rfl) ?_ _
          refine NoPanic.normal ?_
          go_wp2_with (fail)
          go_meet
          exact ⟨bk_put (bk_put (bk_drew bx.out) rfl) rfl, bk_far (bk_far (bk_drew bY.out) (by show w.heap.size + 1 ≠ w.heap.size; omega) _) (by show w.heap.size + 1 ≠ w.heap.size; omega) _, bk_far (bk_far (bk_drew bz.out) (by show w.heap.size + 1 + 1 ≠ w.heap.size; omega) _) (by show w.heap.size + 1 + 1 ≠ w.heap.size; omega) _, bl_set (bl_set (bl_drew hB.out) (Nat.le_refl _) _) (Nat.le_refl _) _⟩
    case rest =>
      clear bx bY bz hB c0 c1 c2 c3 c4 c5 f0 f1 f2 f3 f4 f5
      obtain ⟨bx, bY, bz, hB⟩ := hcut
      obtain ⟨c0, c1, c2, c3, c4, c5, f0, f1, f2, f3, f4, f5⟩ := hold6 bx
      obtain ⟨z0, z1, z2, z3, z4, z5, g0, g1, g2, g3, g4, g5⟩ := hold6 bz
      replace hB := Lib.hid hB
      go_wp2
      exact ⟨rfl, _, end_rw rfl _ rfl (bk_set6 bz), rfl, bl_set6 hB.out (by omega)⟩
/-- Is there nothing in a row? -/
def emptyV (x : Bv) : Bool := decide (x = (0, 0, 0, 0))
theorem rempty_any (x : Rw) (hx : RwOk x) (w : World) :
    Calls Tryd.prog 24 #[.agg #[.int .i64 x.1.1, .int .u64 x.1.2, .int .u64 x.2.1, .int .u64 x.2.2.1, .int .u64 x.2.2.2.1, .int .u64 x.2.2.2.2]] w fun e w' => e = .returned (.bool (emptyV x.2)) ∧ Below w.heap.size w w' := by
  have h1 : RwOk ((x.1.1, x.1.2), (x.2.1, x.2.2.1, x.2.2.2.1, x.2.2.2.2)) := hx
  have h2 : RwOk ((x.1.1, x.1.2), (0, 0, 0, 0)) := ⟨hx.1, (show BvOk (0, 0, 0, 0) from ⟨⟨by decide, by decide⟩, ⟨by decide, by decide⟩, ⟨by decide, by decide⟩, by decide, by decide⟩)⟩
  have he : eqW ((x.1.1, x.1.2), (x.2.1, x.2.2.1, x.2.2.2.1, x.2.2.2.2)) ((x.1.1, x.1.2), (0, 0, 0, 0)) = emptyV x.2 := by
    unfold eqW emptyV
    rw [decide_eq_decide, Prod.mk.injEq]
    exact ⟨fun h => h.2, fun h => ⟨rfl, h⟩⟩
  obtain ⟨E, hE⟩ : ∃ E, emptyV x.2 = E := ⟨_, rfl⟩
  rw [hE] at he ⊢
  clear hE
  go_enter Tryd.func24, Tryd.ntmps24
  go_wp2
  go_ret
  exact ⟨rfl, bl_alloc (Below.refl _ _) _⟩
theorem same_len (A B : Option Addr) (c d n n' : Nat) (w : World) (hne : n ≠ n') : Calls Tryd.prog 10 #[.slice A n c, .slice B n' d] w fun e w' => e = .returned (.bool false) ∧ Below w.heap.size w w' := by
  have h1 : ((n : Int) == (n' : Int)) = false := by simp; omega
  go_enter Tryd.func10, Tryd.ntmps10
  go_wp2
  go_ret
  exact ⟨rfl, Below.refl _ _⟩
set_option maxHeartbeats 1600000 in
theorem same_eq (A B : Option Addr) (c d n : Nat) (ps qs : List Rw) (w : World) (hn : ps.length = n) (hn' : qs.length = n) (hp : RwAt w A ps) (hq : RwAt w B qs) (hpo : ∀ x ∈ ps, RwOk x) (hqo : ∀ x ∈ qs, RwOk x) (hm : n ≤ 1000) :
    Calls Tryd.prog 10 #[.slice A n c, .slice B n d] w fun e w' => e = .returned (.bool (decide (ps = qs))) ∧ Below w.heap.size w w' := by
  obtain ⟨V, hV⟩ : ∃ V, decide (ps = qs) = V := ⟨_, rfl⟩
  rw [hV]
  replace hV := Lib.hid hV
  replace hp := Lib.hid hp
  replace hq := Lib.hid hq
  replace hn := Lib.hid hn
  replace hn' := Lib.hid hn'
  replace hpo := Lib.hid hpo
  replace hqo := Lib.hid hqo
  go_enter Tryd.func10, Tryd.ntmps10
  go_wp2
  go_loopw [13] (fun v wr => ∃ i : Nat, v = .int .i64 i ∧ i ≤ n ∧ (∀ j, j < i → ps.getD j zeroRw = qs.getD j zeroRw) ∧ Below w.heap.size w wr) (fun v _ => n - (intOf v).toNat)
  case atStart => exact ⟨0, rfl, Nat.zero_le _, fun i hi => absurd hi (by omega), Below.refl _ _⟩
  case round =>
    obtain ⟨i, rfl, hi, hgd, hBl⟩ := hrel
    replace hgd := Lib.hid hgd
    by_cases hkl : i < n
    · have hkl2 : decide ((i : Int) < (n : Int)) = true := decide_eq_true (by omega)
      have hk1 : (i : Int) < (n : Int) := by omega
      have hk2 : decide ((i : Int) < 0) = false := decide_eq_false (by omega)
      have hk3 : decide ((n : Int) ≤ (i : Int)) = false := decide_eq_false (by omega)
      have hk4 : decide (n ≤ i) = false := decide_eq_false (by omega)
      obtain ⟨ad, rfl, hrow⟩ := hp.out i (by rw [hn.out]; exact hkl)
      obtain ⟨bd, rfl, hrow2⟩ := hq.out i (by rw [hn'.out]; exact hkl)
      have hok := hpo.out (ps.getD i zeroRw) (by rw [List.getD_eq_getElem?_getD, List.getElem?_eq_getElem (by rw [hn.out]; exact hkl)]; exact List.getElem_mem _)
      have hok2 := hqo.out (qs.getD i zeroRw) (by rw [List.getD_eq_getElem?_getD, List.getElem?_eq_getElem (by rw [hn'.out]; exact hkl)]; exact List.getElem_mem _)
      obtain ⟨x, hxx⟩ : ∃ x, ps.getD i zeroRw = x := ⟨_, rfl⟩
      obtain ⟨y, hyy⟩ : ∃ y, qs.getD i zeroRw = y := ⟨_, rfl⟩
      rw [hxx] at hok hrow
      rw [hyy] at hok2 hrow2
      have hox : RwOk ((x.1.1, x.1.2), (x.2.1, x.2.2.1, x.2.2.2.1, x.2.2.2.2)) := hok
      have hoy : RwOk ((y.1.1, y.1.2), (y.2.1, y.2.2.1, y.2.2.2.1, y.2.2.2.2)) := hok2
      obtain ⟨b, hb⟩ : ∃ b, eqW ((x.1.1, x.1.2), (x.2.1, x.2.2.1, x.2.2.2.1, x.2.2.2.2)) ((y.1.1, y.1.2), (y.2.1, y.2.2.1, y.2.2.2.1, y.2.2.2.2)) = b := ⟨_, rfl⟩
      replace hxx := Lib.hid hxx
      replace hyy := Lib.hid hyy
      go_wp2_with (fail)
      refine wp_region_noPanic ?_
      refine wp_region_held_drew (S := fun w' => Below w.heap.size w w') (by kernel_rfl) (bl_drew hBl) (fun hHeld => ?_)
      refine wpAnyH_take (i := 0) (oi := { dst := some 16, op := Go.Op.move (Go.Operand.tmp 0), type := 26, pos := "ref.go:105", after := #[], guard := none }) (v := ?_) rfl (by kernel_rfl) (by kernel_rfl) (by kernel_rfl) (fun _ _ _ h => h) (Or.inl ⟨by rfl, ?_⟩) (by assumption) ?_
      rotate_left 1
      · intro w' hSw
        first | (go_simp; done) | (go_simp; with_reducible rfl)
      try simp only [Act.put, List.getElem_toArray, List.getElem_cons_succ, List.getElem_cons_zero, List.setIfInBounds_toArray, List.set_cons_zero, List.set_cons_succ]
      refine wpAnyH_take (i := 1) (oi := { dst := some 17, op := Go.Op.move (Go.Operand.tmp 5), type := 3, pos := "ref.go:105", after := #[], guard := none }) (v := ?_) rfl (by kernel_rfl) (by kernel_rfl) (by kernel_rfl) (fun _ _ _ h => h) (Or.inl ⟨by rfl, ?_⟩) (by assumption) ?_
      rotate_left 1
      · intro w' hSw
        first | (go_simp; done) | (go_simp; with_reducible rfl)
      try simp only [Act.put, List.getElem_toArray, List.getElem_cons_succ, List.getElem_cons_zero, List.setIfInBounds_toArray, List.set_cons_zero, List.set_cons_succ]
      refine wpAnyH_take (i := 2) (oi := { dst := some 18, op := Go.Op.indexAddr 26 (Go.Operand.tmp 16) (Go.Operand.tmp 17), type := 0, pos := "ref.go:105", after := #[{ on := 0, ground := Go.Ground.data }, { on := 1, ground := Go.Ground.data }], guard := none }) (v := ?_) rfl (by kernel_rfl) (by kernel_rfl) (by kernel_rfl) (fun _ _ _ h => h) (Or.inl ⟨by rfl, ?_⟩) (by assumption) ?_
      rotate_left 1
      · intro w' hSw
        first | (go_simp; done) | (go_simp; with_reducible rfl)
      try simp only [Act.put, List.getElem_toArray, List.getElem_cons_succ, List.getElem_cons_zero, List.setIfInBounds_toArray, List.set_cons_zero, List.set_cons_succ]
      refine wpAnyH_take (i := 3) (oi := { dst := some 19, op := Go.Op.load 32 (Go.Operand.tmp 18), type := 32, pos := "ref.go:105", after := #[{ on := 2, ground := Go.Ground.data }], guard := none }) (v := ?_) rfl (by kernel_rfl) (by kernel_rfl) (by kernel_rfl) (fun _ _ _ h => h) (Or.inl ⟨by rfl, ?_⟩) (by assumption) ?_
      rotate_left 1
      · intro w' hSw
        obtain ⟨c0, c1, c2, c3, c4, c5⟩ := rw_cellsAt (hrow.far hSw)
        first | (go_simp; done) | (go_simp; with_reducible rfl)
      try simp only [Act.put, List.getElem_toArray, List.getElem_cons_succ, List.getElem_cons_zero, List.setIfInBounds_toArray, List.set_cons_zero, List.set_cons_succ]
      refine wpAnyH_take (i := 4) (oi := { dst := some 20, op := Go.Op.move (Go.Operand.tmp 1), type := 26, pos := "ref.go:105", after := #[], guard := none }) (v := ?_) rfl (by kernel_rfl) (by kernel_rfl) (by kernel_rfl) (fun _ _ _ h => h) (Or.inl ⟨by rfl, ?_⟩) (by assumption) ?_
      rotate_left 1
      · intro w' hSw
        first | (go_simp; done) | (go_simp; with_reducible rfl)
      try simp only [Act.put, List.getElem_toArray, List.getElem_cons_succ, List.getElem_cons_zero, List.setIfInBounds_toArray, List.set_cons_zero, List.set_cons_succ]
      refine wpAnyH_take (i := 5) (oi := { dst := some 21, op := Go.Op.move (Go.Operand.tmp 5), type := 3, pos := "ref.go:105", after := #[], guard := none }) (v := ?_) rfl (by kernel_rfl) (by kernel_rfl) (by kernel_rfl) (fun _ _ _ h => h) (Or.inl ⟨by rfl, ?_⟩) (by assumption) ?_
      rotate_left 1
      · intro w' hSw
        first | (go_simp; done) | (go_simp; with_reducible rfl)
      try simp only [Act.put, List.getElem_toArray, List.getElem_cons_succ, List.getElem_cons_zero, List.setIfInBounds_toArray, List.set_cons_zero, List.set_cons_succ]
      refine wpAnyH_take (i := 6) (oi := { dst := some 22, op := Go.Op.indexAddr 26 (Go.Operand.tmp 20) (Go.Operand.tmp 21), type := 0, pos := "ref.go:105", after := #[{ on := 4, ground := Go.Ground.data }, { on := 5, ground := Go.Ground.data }], guard := none }) (v := ?_) rfl (by kernel_rfl) (by kernel_rfl) (by kernel_rfl) (fun _ _ _ h => h) (Or.inl ⟨by rfl, ?_⟩) (by assumption) ?_
      rotate_left 1
      · intro w' hSw
        first | (go_simp; done) | (go_simp; with_reducible rfl)
      try simp only [Act.put, List.getElem_toArray, List.getElem_cons_succ, List.getElem_cons_zero, List.setIfInBounds_toArray, List.set_cons_zero, List.set_cons_succ]
      refine wpAnyH_take (i := 7) (oi := { dst := some 23, op := Go.Op.load 32 (Go.Operand.tmp 22), type := 32, pos := "ref.go:105", after := #[{ on := 6, ground := Go.Ground.data }], guard := none }) (v := ?_) rfl (by kernel_rfl) (by kernel_rfl) (by kernel_rfl) (fun _ _ _ h => h) (Or.inl ⟨by rfl, ?_⟩) (by assumption) ?_
      rotate_left 1
      · intro w' hSw
        obtain ⟨c0, c1, c2, c3, c4, c5⟩ := rw_cellsAt (hrow2.far hSw)
        first | (go_simp; done) | (go_simp; with_reducible rfl)
      try simp only [Act.put, List.getElem_toArray, List.getElem_cons_succ, List.getElem_cons_zero, List.setIfInBounds_toArray, List.set_cons_zero, List.set_cons_succ]
      refine wpAnyH_take (i := 8) (oi := { dst := some 24, op := Go.Op.binOp Go.BinOp.neq 32 (Go.Operand.tmp 19) (Go.Operand.tmp 23) 32, type := 4, pos := "ref.go:105", after := #[{ on := 3, ground := Go.Ground.data }, { on := 7, ground := Go.Ground.data }], guard := none }) (v := ?_) rfl (by kernel_rfl) (by kernel_rfl) (by kernel_rfl) (fun _ _ _ h => h) (Or.inl ⟨by rfl, ?_⟩) (by assumption) ?_
      rotate_left 1
      · intro w' hSw
        first | (go_simp; done) | (go_simp; with_reducible rfl)
      try simp only [Act.put, List.getElem_toArray, List.getElem_cons_succ, List.getElem_cons_zero, List.setIfInBounds_toArray, List.set_cons_zero, List.set_cons_succ]
      refine wpAnyH_done (by kernel_rfl) ?_ _
      refine NoPanic.normal ?_
      cases b with
      | true =>
        have hxy : ps.getD i zeroRw = qs.getD i zeroRw := by rw [hxx.out, hyy.out]; exact eqW_iff.1 hb
        replace hxy := Lib.hid hxy
        go_wp2
        refine ⟨⟨i + 1, by first | rfl | (congr 1; omega), by omega, fun j hj => ?_, bl_drew hBl⟩, by simp [intOf]; omega⟩
        rcases Nat.lt_or_ge j i with h | h
        · exact hgd.out j h
        · obtain rfl : j = i := by omega
          exact hxy.out
      | false =>
        have hv : V = false := by
          rw [← hV.out]
          refine decide_eq_false (fun h => ?_)
          have : x = y := by rw [← hxx.out, ← hyy.out, h]
          rw [eqW_iff.2 this] at hb
          cases hb
        subst hv
        go_wp2
        go_ret
        exact ⟨rfl, bl_drew hBl⟩
    · have hkl2 : decide ((i : Int) < (n : Int)) = false := decide_eq_false (by omega)
      have hv : V = true := by
        rw [← hV.out]
        exact decide_eq_true (ext_getD zeroRw (hn.out.trans hn'.out.symm) (fun j hj => hgd.out j (by have := hn.out; omega)))
      subst hv
      go_wp2
      go_ret
      exact ⟨rfl, hBl⟩
theorem same_any (A B : Option Addr) (c d : Nat) (ps qs : List Rw) (w : World) (hp : RwAt w A ps) (hq : RwAt w B qs) (hpo : ∀ x ∈ ps, RwOk x) (hqo : ∀ x ∈ qs, RwOk x) (hm : ps.length ≤ 1000) :
    Calls Tryd.prog 10 #[.slice A ps.length c, .slice B qs.length d] w fun e w' => e = .returned (.bool (decide (ps = qs))) ∧ Below w.heap.size w w' := by
  by_cases h : ps.length = qs.length
  · rw [← h]
    exact same_eq A B c d ps.length ps qs w rfl h.symm hp hq hpo hqo hm
  · rw [decide_eq_false (fun e => h (by rw [e]) : ¬ ps = qs)]
    exact same_len A B c d _ _ w h
end Go.Proofs.YtebeknnjjoobnaaDoor
