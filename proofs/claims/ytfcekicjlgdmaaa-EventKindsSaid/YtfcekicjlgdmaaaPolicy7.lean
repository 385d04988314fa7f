/- Contracts: a policy that can be; policyAlive. -/
import Derived.Test.YtfcekicjlgdmaaaPolicy6
set_option linter.unusedVariables false
set_option linter.unusedSimpArgs false
set_option maxRecDepth 100000
namespace Go.Proofs.Ytfcekicjlgdmaaa
open Go.RowKit Go.Proofs.YtfcekicjlgdmaaaW.PrintWords
attribute [local go_sem] max2_int min2_int max_two min_two
attribute [local go_sem ↓] eql_nt neq_nt eql_ad net_addr net_bits eql_pol neq_pol

theorem pof_any (A : Option Addr) (cap : Nat) (l : List Int) (w : World) (hr : ReadsInt w .u64 A l.length l) (hU : U64 l) (hlen : l.length ≤ 9223372036854775807) : Calls Try.prog 15 #[.slice A l.length cap] w fun e w' => e = .returned (.tuple #[.agg #[.int .i64 (ofV l).1.1, .int .u8 (ofV l).1.2.1.1, .int .u8 (ofV l).1.2.1.2.1, .int .u8 (ofV l).1.2.1.2.2.1, .int .u8 (ofV l).1.2.1.2.2.2.1, .int .i64 (ofV l).1.2.1.2.2.2.2, .int .u64 (ofV l).1.2.2.1, .int .u64 (ofV l).1.2.2.2.1, .int .u64 (ofV l).1.2.2.2.2.1, .int .u64 (ofV l).1.2.2.2.2.2.1, .int .u64 (ofV l).1.2.2.2.2.2.2.1, .int .u64 (ofV l).1.2.2.2.2.2.2.2.1, .int .u64 (ofV l).1.2.2.2.2.2.2.2.2], .int .i64 (ofV l).2]) ∧ Below w.heap.size w w' :=
  pof_core A cap l w hr hU hlen _ _ rfl
theorem rpof_any (A : Option Addr) (cap : Nat) (l : List Int) (w : World) (hr : ReadsInt w .u64 A l.length l) (hU : U64 l) (hlen : l.length ≤ 9223372036854775807) : Calls Try.prog 16 #[.slice A l.length cap] w fun e w' => e = .returned (.tuple #[.agg #[.int .i64 (ofV l).1.1, .int .u8 (ofV l).1.2.1.1, .int .u8 (ofV l).1.2.1.2.1, .int .u8 (ofV l).1.2.1.2.2.1, .int .u8 (ofV l).1.2.1.2.2.2.1, .int .i64 (ofV l).1.2.1.2.2.2.2, .int .u64 (ofV l).1.2.2.1, .int .u64 (ofV l).1.2.2.2.1, .int .u64 (ofV l).1.2.2.2.2.1, .int .u64 (ofV l).1.2.2.2.2.2.1, .int .u64 (ofV l).1.2.2.2.2.2.2.1, .int .u64 (ofV l).1.2.2.2.2.2.2.2.1, .int .u64 (ofV l).1.2.2.2.2.2.2.2.2], .int .i64 (ofV l).2]) ∧ Below w.heap.size w w' :=
  rpof_core A cap l w hr hU hlen _ _ rfl
def oneP (s : Int) : Pol := (s, (10, s, 0, 0, 16), 5, 3000, 0, 0, 9000, 1500, 1500)
theorem oneP_ok {s : Int} (h : 0 ≤ s ∧ s ≤ 255) : PolOk (oneP s) := by unfold PolOk NtOkT NtOk AdOk InI64 InU64 oneP; dsimp only; omega
theorem one_any (s : Int) (w : World) (h : 0 ≤ s ∧ s ≤ 255) : Calls Try.prog 22 #[.int .i64 s] w fun e w' => e = .returned (.agg #[.int .i64 s, .int .u8 10, .int .u8 s, .int .u8 0, .int .u8 0, .int .i64 16, .int .u64 5, .int .u64 3000, .int .u64 0, .int .u64 0, .int .u64 9000, .int .u64 1500, .int .u64 1500]) ∧ Below w.heap.size w w' := by
  obtain ⟨h0, h1⟩ := h
  go_enter Try.func22, Try.ntmps22
  go_wp2
  refine bodyPost_ret (v := .agg #[.int .i64 s, .int .u8 10, .int .u8 s, .int .u8 0, .int .u8 0, .int .i64 16, .int .u64 5, .int .u64 3000, .int .u64 0, .int .u64 0, .int .u64 9000, .int .u64 1500, .int .u64 1500]) (by simp [results, Try.results22, go_sem]) rfl ⟨rfl, ?_⟩
  exact bl_alloc (Below.refl _ _) _
/-- There and back. -/
theorem of_nums {x : Pol} (h : PolOk x) (hr : rightP x = true) : ofV (polNums x) = (x, 0) := by
  obtain ⟨⟨pa, pb, pc, pd⟩, _⟩ := h.2.1
  have hn := numN_bd h.2.1
  obtain ⟨s, ⟨a, b, c, d, n⟩, q⟩ := x
  dsimp only at pa pb pc pd
  have h4 : numN (a, b, c, d, n) / 16777216 = a ∧ numN (a, b, c, d, n) / 65536 % 256 = b ∧ numN (a, b, c, d, n) / 256 % 256 = c ∧ numN (a, b, c, d, n) % 256 = d := by
    unfold numN numA
    dsimp only
    omega
  obtain ⟨e1, e2, e3, e4⟩ := h4
  have hp : polOf (polNums (s, (a, b, c, d, n), q)) = (s, (a, b, c, d, n), q) := by
    unfold polNums polOf
    rw [if_pos hr]
    simp only [List.getD_cons_zero, List.getD_cons_succ, e1, e2, e3, e4]
  have hb : ofB (polNums (s, (a, b, c, d, n), q)) = true := by
    unfold ofB
    rw [hp, hr]
    unfold polNums
    rw [if_pos hr]
    simp only [List.length_cons, List.length_nil, List.getD_cons_succ, List.getD_cons_zero]
    simp
    exact hn.2
  unfold ofV
  rw [if_pos hb, hp]
theorem of_nil : ofV [] = (zeroP, 111) := rfl
theorem of_zeros : ofV [0, 0, 0, 0, 0, 0, 0, 0, 0, 0] = (zeroP, 111) := by kernel_rfl
theorem right_one : rightP (oneP 1) = true := by kernel_rfl
theorem right_two : rightP (oneP 2) = true := by kernel_rfl
theorem right_seven : rightP (oneP 7) = true := by kernel_rfl
set_option maxHeartbeats 1600000 in
theorem palive_any (w : World) : Calls Try.prog 14 #[] w fun e w' => e = .returned (.bool true) ∧ Below w.heap.size w w' := by
  have k7 : PolOk (oneP 7) := oneP_ok (by omega)
  have k1 : PolOk (oneP 1) := oneP_ok (by omega)
  have hn := fun w => pnums_any (oneP 7) k7 w
  have hr1 := fun w => pright_any (oneP 1) k1 w
  rw [right_one] at hr1
  have ho := of_nums k7 right_seven
  have hU := polNums_u64 k7
  have hl := polNums_len (oneP 7)
  obtain ⟨L, hL⟩ : ∃ L, polNums (oneP 7) = L := ⟨_, rfl⟩
  rw [hL] at hn ho hU hl
  have hof := fun A cap w hr => pof_any A cap L w hr hU (by omega)
  rw [ho] at hof
  have hoz := fun A cap w hr => pof_any A cap [0, 0, 0, 0, 0, 0, 0, 0, 0, 0] w hr (by intro n hn; simp at hn; omega) (by simp)
  rw [of_zeros] at hoz
  unfold oneP at hn hr1 hof
  unfold zeroP at hoz
  dsimp only [List.length_cons, List.length_nil] at hn hr1 hof hoz
  replace hn := Lib.hid hn
  replace hr1 := Lib.hid hr1
  replace hof := Lib.hid hof
  replace hoz := Lib.hid hoz
  clear ho hU hl hL k7 k1
  have hmk : ∀ w : World, (Instr.makeSlice 29 (.int .i64 10) (.int .i64 10)).run Try.prog w = .ok (.slice (some ⟨w.heap.size, 0, none⟩) 10 10) (w.alloc (.cells #[.int .u64 0, .int .u64 0, .int .u64 0, .int .u64 0, .int .u64 0, .int .u64 0, .int .u64 0, .int .u64 0, .int .u64 0, .int .u64 0] 26)) := fun _ => by kernel_rfl
  have hSv : PolOk ((7 : Int), ((10 : Int), (7 : Int), (0 : Int), (0 : Int), (16 : Int)), (5 : Int), (3000 : Int), (0 : Int), (0 : Int), (9000 : Int), (1500 : Int), (1500 : Int)) := oneP_ok (s := 7) (by omega)
  have hE7 : eqP ((7 : Int), ((10 : Int), (7 : Int), (0 : Int), (0 : Int), (16 : Int)), (5 : Int), (3000 : Int), (0 : Int), (0 : Int), (9000 : Int), (1500 : Int), (1500 : Int)) ((7 : Int), ((10 : Int), (7 : Int), (0 : Int), (0 : Int), (16 : Int)), (5 : Int), (3000 : Int), (0 : Int), (0 : Int), (9000 : Int), (1500 : Int), (1500 : Int)) = true := eqP_iff.2 rfl
  have hB0 := bl_alloc (Below.refl _ w) (.cells #[.int .u64 0, .int .u64 0, .int .u64 0, .int .u64 0, .int .u64 0, .int .u64 0, .int .u64 0, .int .u64 0, .int .u64 0, .int .u64 0] 26)
  replace hB0 := Lib.hid hB0
  go_enter Try.func14, Try.ntmps14
  go_wp2_with (first | (go_at_call 15; (with_reducible refine (hoz.out _ _ _ (reads_lit w 26 .u64 [0, 0, 0, 0, 0, 0, 0, 0, 0, 0] (by simp))).mono ?_); rintro e w1 ⟨rfl, hB1⟩) | (go_at_call 22; (with_reducible refine (one_any 7 _ (by omega)).mono ?_); rintro e w2 ⟨rfl, hB2⟩) | (go_at_call 20; (with_reducible refine (hn.out _).mono ?_); rintro e w3 ⟨v, rfl, ho3, hB3⟩; obtain ⟨A3, c3, rfl, hr3⟩ := own_reads ho3) | (go_at_call 15; (with_reducible refine (hof.out A3 c3 _ hr3).mono ?_); rintro e w4 ⟨rfl, hB4⟩))
  have hBa := bl_then (bl_alloc (bl_then hB0.out hB1) (.cells #[.int .i64 0, .int .u8 0, .int .u8 0, .int .u8 0, .int .u8 0, .int .i64 0, .int .u64 0, .int .u64 0, .int .u64 0, .int .u64 0, .int .u64 0, .int .u64 0, .int .u64 0] 28)) hB2
  have hBb := bl_then (bl_then hBa hB3) hB4
  have hz := bk_new w4 #[.int .i64 7, .int .u8 10, .int .u8 7, .int .u8 0, .int .u8 0, .int .i64 16, .int .u64 5, .int .u64 3000, .int .u64 0, .int .u64 0, .int .u64 9000, .int .u64 1500, .int .u64 1500] 28
  have hBc := bl_alloc hBb (.cells #[.int .i64 7, .int .u8 10, .int .u8 7, .int .u8 0, .int .u8 0, .int .i64 16, .int .u64 5, .int .u64 3000, .int .u64 0, .int .u64 0, .int .u64 9000, .int .u64 1500, .int .u64 1500] 28)
  clear ho3 hr3 hB1 hB2 hB3 hB4 hBa hBb
  replace hz := Lib.hid hz
  replace hBc := Lib.hid hBc
  refine wp_region_noPanic ?_
  refine wp_region_held_drew (S := fun w' => Bk w' w4.heap.size #[.int .i64 7, .int .u8 10, .int .u8 7, .int .u8 0, .int .u8 0, .int .i64 16, .int .u64 5, .int .u64 3000, .int .u64 0, .int .u64 0, .int .u64 9000, .int .u64 1500, .int .u64 1500] 28 ∧ Below w.heap.size w w') (by kernel_rfl) (⟨bk_drew hz.out, bl_drew hBc.out⟩) (fun hHeld => ?_)
  refine wpAnyH_take (i := 0) (oi := { dst := some 16, op := Go.Op.move (Go.Operand.tmp 2), type := 31, pos := "law.go:20", after := #[], guard := none }) (v := ?_) rfl (by kernel_rfl) (by kernel_rfl) (by kernel_rfl) (fun _ _ _ h => h) (Or.inl ⟨by rfl, ?_⟩) (by assumption) ?_
  rotate_left 1
  · intro w' hSw
    first | (go_simp; done) | (go_simp; with_reducible rfl)
  try simp only [Act.put, List.getElem_toArray, List.getElem_cons_succ, List.getElem_cons_zero, List.setIfInBounds_toArray, List.set_cons_zero, List.set_cons_succ]
  refine wpAnyH_take (i := 1) (oi := { dst := some 17, op := Go.Op.binOp Go.BinOp.eql 31 (Go.Operand.tmp 16) (Go.Operand.const (Go.Value.int Go.IntKind.i64 111)) 31, type := 4, pos := "law.go:20", after := #[{ on := 0, ground := Go.Ground.data }], guard := none }) (v := ?_) rfl (by kernel_rfl) (by kernel_rfl) (by kernel_rfl) (fun _ _ _ h => h) (Or.inl ⟨by rfl, ?_⟩) (by assumption) ?_
  rotate_left 1
  · intro w' hSw
    first | (go_simp; done) | (go_simp; with_reducible rfl)
  try simp only [Act.put, List.getElem_toArray, List.getElem_cons_succ, List.getElem_cons_zero, List.setIfInBounds_toArray, List.set_cons_zero, List.set_cons_succ]
  refine wpAnyH_take (i := 2) (oi := { dst := some 18, op := Go.Op.move (Go.Operand.tmp 17), type := 4, pos := "law.go:20", after := #[{ on := 1, ground := Go.Ground.data }], guard := none }) (v := ?_) rfl (by kernel_rfl) (by kernel_rfl) (by kernel_rfl) (fun _ _ _ h => h) (Or.inl ⟨by rfl, ?_⟩) (by assumption) ?_
  rotate_left 1
  · intro w' hSw
    first | (go_simp; done) | (go_simp; with_reducible rfl)
  try simp only [Act.put, List.getElem_toArray, List.getElem_cons_succ, List.getElem_cons_zero, List.setIfInBounds_toArray, List.set_cons_zero, List.set_cons_succ]
  refine wpAnyH_take (i := 3) (oi := { dst := some 19, op := Go.Op.move (Go.Operand.tmp 4), type := 31, pos := "law.go:20", after := #[{ on := 2, ground := Go.Ground.guard }], guard := some (2, true) }) (v := ?_) rfl (by kernel_rfl) (by kernel_rfl) (by kernel_rfl) (fun _ _ _ h => h) (Or.inl ⟨by rfl, ?_⟩) (by assumption) ?_
  rotate_left 1
  · intro w' hSw
    first | (go_simp; done) | (go_simp; with_reducible rfl)
  try simp only [Act.put, List.getElem_toArray, List.getElem_cons_succ, List.getElem_cons_zero, List.setIfInBounds_toArray, List.set_cons_zero, List.set_cons_succ]
  refine wpAnyH_take (i := 4) (oi := { dst := some 20, op := Go.Op.binOp Go.BinOp.eql 31 (Go.Operand.tmp 19) (Go.Operand.const (Go.Value.int Go.IntKind.i64 0)) 31, type := 4, pos := "law.go:20", after := #[{ on := 3, ground := Go.Ground.data }, { on := 2, ground := Go.Ground.guard }], guard := some (2, true) }) (v := ?_) rfl (by kernel_rfl) (by kernel_rfl) (by kernel_rfl) (fun _ _ _ h => h) (Or.inl ⟨by rfl, ?_⟩) (by assumption) ?_
  rotate_left 1
  · intro w' hSw
    first | (go_simp; done) | (go_simp; with_reducible rfl)
  try simp only [Act.put, List.getElem_toArray, List.getElem_cons_succ, List.getElem_cons_zero, List.setIfInBounds_toArray, List.set_cons_zero, List.set_cons_succ]
  refine wpAnyH_take (i := 5) (oi := { dst := some 21, op := Go.Op.pick (Go.Operand.tmp 18) (Go.Operand.tmp 20) (Go.Operand.const (Go.Value.bool false)), type := 4, pos := "law.go:20", after := #[{ on := 2, ground := Go.Ground.data }, { on := 4, ground := Go.Ground.data }], guard := none }) (v := ?_) rfl (by kernel_rfl) (by kernel_rfl) (by kernel_rfl) (fun _ _ _ h => h) (Or.inl ⟨by rfl, ?_⟩) (by assumption) ?_
  rotate_left 1
  · intro w' hSw
    first | (go_simp; done) | (go_simp; with_reducible rfl)
  try simp only [Act.put, List.getElem_toArray, List.getElem_cons_succ, List.getElem_cons_zero, List.setIfInBounds_toArray, List.set_cons_zero, List.set_cons_succ]
  refine wpAnyH_take (i := 6) (oi := { dst := some 22, op := Go.Op.move (Go.Operand.tmp 21), type := 4, pos := "law.go:20", after := #[{ on := 5, ground := Go.Ground.data }, { on := 2, ground := Go.Ground.chain }], guard := none }) (v := ?_) rfl (by kernel_rfl) (by kernel_rfl) (by kernel_rfl) (fun _ _ _ h => h) (Or.inl ⟨by rfl, ?_⟩) (by assumption) ?_
  rotate_left 1
  · intro w' hSw
    first | (go_simp; done) | (go_simp; with_reducible rfl)
  try simp only [Act.put, List.getElem_toArray, List.getElem_cons_succ, List.getElem_cons_zero, List.setIfInBounds_toArray, List.set_cons_zero, List.set_cons_succ]
  refine wpAnyH_take (i := 7) (oi := { dst := some 23, op := Go.Op.load 28 (Go.Operand.tmp 3), type := 28, pos := "law.go:20", after := #[{ on := 6, ground := Go.Ground.guard }], guard := some (6, true) }) (v := ?_) rfl (by kernel_rfl) (by kernel_rfl) (by kernel_rfl) (fun _ _ _ h => h) (Or.inl ⟨by rfl, ?_⟩) (by assumption) ?_
  rotate_left 1
  · intro w' hSw
    obtain ⟨z0, z1, z2, z3, z4, z5, z6, z7, z8, z9, z10, z11, z12, f0, f1, f2, f3, f4, f5, f6, f7, f8, f9, f10, f11, f12⟩ := cells13 hSw.1
    first | (go_simp; done) | (go_simp; with_reducible rfl)
  try simp only [Act.put, List.getElem_toArray, List.getElem_cons_succ, List.getElem_cons_zero, List.setIfInBounds_toArray, List.set_cons_zero, List.set_cons_succ]
  refine wpAnyH_ready (rs := [8]) (by kernel_rfl) (by simp) ?_
  refine (AllReadyH.cons (o := { dst := some 24, op := Go.Op.call { callee := Go.Callee.value (Go.Operand.func 22), args := #[Go.Operand.const (Go.Value.int Go.IntKind.i64 7)], argTypes := #[3] }, type := 28, pos := "law.go:20", after := #[{ on := 6, ground := Go.Ground.chain }, { on := 6, ground := Go.Ground.guard }], guard := some (6, true) }) rfl (fun K hK => ?_) AllReadyH.nil)
  go_simp
  go_at_call 22
  (with_reducible refine (one_any 7 _ (by omega)).mono ?_)
  rintro e w5 ⟨rfl, hBz⟩
  go_wp2_with (fail)
  refine hK.out _ _ ?_ (fun hHeld => ?_)
  · exact ⟨bk_below hBz hHeld.1, bl_then hHeld.2 hBz⟩
  clear hK K
  try simp only [Act.put, List.getElem_toArray, List.getElem_cons_succ, List.getElem_cons_zero, List.setIfInBounds_toArray, List.set_cons_zero, List.set_cons_succ]
  refine wpAnyH_take (i := 9) (oi := { dst := some 25, op := Go.Op.binOp Go.BinOp.eql 28 (Go.Operand.tmp 23) (Go.Operand.tmp 24) 28, type := 4, pos := "law.go:20", after := #[{ on := 7, ground := Go.Ground.data }, { on := 8, ground := Go.Ground.data }, { on := 6, ground := Go.Ground.guard }], guard := some (6, true) }) (v := ?_) rfl (by kernel_rfl) (by kernel_rfl) (by kernel_rfl) (fun _ _ _ h => h) (Or.inl ⟨by rfl, ?_⟩) (by assumption) ?_
  rotate_left 1
  · intro w' hSw
    first | (go_simp; done) | (go_simp; with_reducible rfl)
  try simp only [Act.put, List.getElem_toArray, List.getElem_cons_succ, List.getElem_cons_zero, List.setIfInBounds_toArray, List.set_cons_zero, List.set_cons_succ]
  refine wpAnyH_take (i := 10) (oi := { dst := some 26, op := Go.Op.pick (Go.Operand.tmp 22) (Go.Operand.tmp 25) (Go.Operand.const (Go.Value.bool false)), type := 4, pos := "law.go:20", after := #[{ on := 6, ground := Go.Ground.data }, { on := 9, ground := Go.Ground.data }], guard := none }) (v := ?_) rfl (by kernel_rfl) (by kernel_rfl) (by kernel_rfl) (fun _ _ _ h => h) (Or.inl ⟨by rfl, ?_⟩) (by assumption) ?_
  rotate_left 1
  · intro w' hSw
    first | (go_simp; done) | (go_simp; with_reducible rfl)
  try simp only [Act.put, List.getElem_toArray, List.getElem_cons_succ, List.getElem_cons_zero, List.setIfInBounds_toArray, List.set_cons_zero, List.set_cons_succ]
  refine wpAnyH_take (i := 11) (oi := { dst := some 27, op := Go.Op.move (Go.Operand.tmp 26), type := 4, pos := "law.go:20", after := #[{ on := 10, ground := Go.Ground.data }, { on := 8, ground := Go.Ground.chain }], guard := none }) (v := ?_) rfl (by kernel_rfl) (by kernel_rfl) (by kernel_rfl) (fun _ _ _ h => h) (Or.inl ⟨by rfl, ?_⟩) (by assumption) ?_
  rotate_left 1
  · intro w' hSw
    first | (go_simp; done) | (go_simp; with_reducible rfl)
  try simp only [Act.put, List.getElem_toArray, List.getElem_cons_succ, List.getElem_cons_zero, List.setIfInBounds_toArray, List.set_cons_zero, List.set_cons_succ]
  refine wpAnyH_ready (rs := [12]) (by kernel_rfl) (by simp) ?_
  refine (AllReadyH.cons (o := { dst := some 28, op := Go.Op.call { callee := Go.Callee.value (Go.Operand.func 22), args := #[Go.Operand.const (Go.Value.int Go.IntKind.i64 1)], argTypes := #[3] }, type := 28, pos := "law.go:20", after := #[{ on := 11, ground := Go.Ground.chain }, { on := 11, ground := Go.Ground.guard }], guard := some (11, true) }) rfl (fun K hK => ?_) AllReadyH.nil)
  go_simp
  go_at_call 22
  (with_reducible refine (one_any 1 _ (by omega)).mono ?_)
  rintro e w6 ⟨rfl, hBz⟩
  go_wp2_with (fail)
  refine hK.out _ _ ?_ (fun hHeld => ?_)
  · exact ⟨bk_below hBz hHeld.1, bl_then hHeld.2 hBz⟩
  clear hK K
  try simp only [Act.put, List.getElem_toArray, List.getElem_cons_succ, List.getElem_cons_zero, List.setIfInBounds_toArray, List.set_cons_zero, List.set_cons_succ]
  refine wpAnyH_ready (rs := [13]) (by kernel_rfl) (by simp) ?_
  refine (AllReadyH.cons (o := { dst := some 29, op := Go.Op.call { callee := Go.Callee.value (Go.Operand.func 17), args := #[Go.Operand.tmp 28], argTypes := #[28] }, type := 4, pos := "law.go:20", after := #[{ on := 12, ground := Go.Ground.data }, { on := 12, ground := Go.Ground.chain }, { on := 11, ground := Go.Ground.guard }], guard := some (11, true) }) rfl (fun K hK => ?_) AllReadyH.nil)
  go_simp
  go_at_call 17
  (with_reducible refine (hr1.out _).mono ?_)
  rintro e w7 ⟨rfl, hBz⟩
  go_wp2_with (fail)
  refine hK.out _ _ ?_ (fun hHeld => ?_)
  · exact ⟨bk_below hBz hHeld.1, bl_then hHeld.2 hBz⟩
  clear hK K
  try simp only [Act.put, List.getElem_toArray, List.getElem_cons_succ, List.getElem_cons_zero, List.setIfInBounds_toArray, List.set_cons_zero, List.set_cons_succ]
  refine wpAnyH_take (i := 14) (oi := { dst := some 30, op := Go.Op.pick (Go.Operand.tmp 27) (Go.Operand.tmp 29) (Go.Operand.const (Go.Value.bool false)), type := 4, pos := "law.go:20", after := #[{ on := 11, ground := Go.Ground.data }, { on := 13, ground := Go.Ground.data }], guard := none }) (v := ?_) rfl (by kernel_rfl) (by kernel_rfl) (by kernel_rfl) (fun _ _ _ h => h) (Or.inl ⟨by rfl, ?_⟩) (by assumption) ?_
  rotate_left 1
  · intro w' hSw
    first | (go_simp; done) | (go_simp; with_reducible rfl)
  try simp only [Act.put, List.getElem_toArray, List.getElem_cons_succ, List.getElem_cons_zero, List.setIfInBounds_toArray, List.set_cons_zero, List.set_cons_succ]
  refine wpAnyH_take (i := 15) (oi := { dst := some 0, op := Go.Op.assign (Go.Operand.tmp 30), type := 4, pos := "law.go:20", after := #[{ on := 14, ground := Go.Ground.data }, { on := 13, ground := Go.Ground.chain }, { on := 0, ground := Go.Ground.phase }, { on := 1, ground := Go.Ground.phase }, { on := 2, ground := Go.Ground.phase }, { on := 3, ground := Go.Ground.phase }, { on := 4, ground := Go.Ground.phase }, { on := 5, ground := Go.Ground.phase }, { on := 6, ground := Go.Ground.phase }, { on := 7, ground := Go.Ground.phase }, { on := 8, ground := Go.Ground.phase }, { on := 9, ground := Go.Ground.phase }, { on := 10, ground := Go.Ground.phase }, { on := 11, ground := Go.Ground.phase }, { on := 12, ground := Go.Ground.phase }, { on := 13, ground := Go.Ground.phase }, { on := 14, ground := Go.Ground.phase }], guard := none }) (v := ?_) rfl (by kernel_rfl) (by kernel_rfl) (by kernel_rfl) (fun _ _ _ h => h) (Or.inl ⟨by rfl, ?_⟩) (by assumption) ?_
  rotate_left 1
  · intro w' hSw
    first | (go_simp; done) | (go_simp; with_reducible rfl)
  try simp only [Act.put, List.getElem_toArray, List.getElem_cons_succ, List.getElem_cons_zero, List.setIfInBounds_toArray, List.set_cons_zero, List.set_cons_succ]
  refine wpAnyH_done (by kernel_rfl) ?_ _
  refine NoPanic.normal ?_
  go_wp2
  go_ret
  exact ⟨rfl, hHeld.2⟩
end Go.Proofs.Ytfcekicjlgdmaaa
