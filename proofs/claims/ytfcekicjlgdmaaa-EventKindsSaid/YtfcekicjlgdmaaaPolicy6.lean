/- Contracts: the reference's policy of numbers. -/
import Derived.Test.YtfcekicjlgdmaaaPolicy5
set_option linter.unusedVariables false
set_option linter.unusedSimpArgs false
set_option maxRecDepth 100000
namespace Go.Proofs.Ytfcekicjlgdmaaa
open Go.RowKit Go.Proofs.YtfcekicjlgdmaaaW.PrintWords
attribute [local go_sem] max2_int min2_int max_two min_two
attribute [local go_sem ↓] eql_nt neq_nt eql_ad net_addr net_bits

theorem res_rpof {w : World} {g : Nat} {v0 v1 v2 v3 v4 v5 v6 v7 v8 v9 v10 v11 v12 : Value} {c : Int} {t : TypeId} (h : Bk w g #[v0, v1, v2, v3, v4, v5, v6, v7, v8, v9, v10, v11, v12] t) (tmps : Array Value) (h2 : tmps[2]?.getD undef = .pointer (some ⟨g, 0, none⟩)) (h3 : tmps[3]?.getD undef = .int .i64 c) :
    (results Try.f16 tmps).run Try.prog w = .ok (.tuple #[.agg #[v0, v1, v2, v3, v4, v5, v6, v7, v8, v9, v10, v11, v12], .int .i64 c]) w := by
  obtain ⟨z0, z1, z2, z3, z4, z5, z6, z7, z8, z9, z10, z11, z12, _⟩ := cells13 h
  simp [results, Try.results16, go_sem, h2, h3, z0, z1, z2, z3, z4, z5, z6, z7, z8, z9, z10, z11, z12]

set_option maxHeartbeats 3200000 in
theorem rpof_core (A : Option Addr) (cap : Nat) (l : List Int) (w : World) (hr : ReadsInt w .u64 A l.length l) (hU : U64 l) (hlen : l.length ≤ 9223372036854775807) (p : Pol) (c : Int) (hv : ofV l = (p, c)) : Calls Try.prog 16 #[.slice A l.length cap] w fun e w' => e = .returned (.tuple #[.agg #[.int .i64 p.1, .int .u8 p.2.1.1, .int .u8 p.2.1.2.1, .int .u8 p.2.1.2.2.1, .int .u8 p.2.1.2.2.2.1, .int .i64 p.2.1.2.2.2.2, .int .u64 p.2.2.1, .int .u64 p.2.2.2.1, .int .u64 p.2.2.2.2.1, .int .u64 p.2.2.2.2.2.1, .int .u64 p.2.2.2.2.2.2.1, .int .u64 p.2.2.2.2.2.2.2.1, .int .u64 p.2.2.2.2.2.2.2.2], .int .i64 c]) ∧ Below w.heap.size w w' := by
  have hb2 := bk_new w #[.int .i64 0, .int .u8 0, .int .u8 0, .int .u8 0, .int .u8 0, .int .i64 0, .int .u64 0, .int .u64 0, .int .u64 0, .int .u64 0, .int .u64 0, .int .u64 0, .int .u64 0] 28
  have hB2z := bl_alloc (Below.refl _ w) (.cells #[.int .i64 0, .int .u8 0, .int .u8 0, .int .u8 0, .int .u8 0, .int .i64 0, .int .u64 0, .int .u64 0, .int .u64 0, .int .u64 0, .int .u64 0, .int .u64 0, .int .u64 0] 28)
  by_cases h10 : l.length = 10
  · obtain ⟨a0, a1, a2, a3, a4, a5, a6, a7, a8, a9, rfl⟩ := ten h10
    obtain ⟨ad, rfl⟩ : ∃ ad, A = some ad := by
      obtain ⟨ad, e, _⟩ := hr.2.2 (by simp)
      exact ⟨ad, e⟩
    have hR : ReadsInt (w.alloc (.cells #[.int .i64 0, .int .u8 0, .int .u8 0, .int .u8 0, .int .u8 0, .int .i64 0, .int .u64 0, .int .u64 0, .int .u64 0, .int .u64 0, .int .u64 0, .int .u64 0, .int .u64 0] 28)) .u64 (some ad) 10 [a0, a1, a2, a3, a4, a5, a6, a7, a8, a9] := ReadsInt.allocS hr _
    obtain ⟨y0, y1, y2, y3, y4, y5, y6, y7, y8, y9⟩ := rd10 hR
    obtain ⟨⟨l0, m0⟩, ⟨l1, m1⟩, ⟨l2, m2⟩, ⟨l3, m3⟩, ⟨l4, m4⟩, ⟨l5, m5⟩, ⟨l6, m6⟩, ⟨l7, m7⟩, ⟨l8, m8⟩, ⟨l9, m9⟩⟩ := ten_ok hU
    by_cases h0 : 255 < a0
    · have d0 : decide (255 < a0) = true := decide_eq_true h0
      have hB : ofB [a0, a1, a2, a3, a4, a5, a6, a7, a8, a9] = false := by
        cases hx : ofB [a0, a1, a2, a3, a4, a5, a6, a7, a8, a9] with
        | false => rfl
        | true =>
          exfalso
          rw [ofB_ten, Bool.and_eq_true] at hx
          obtain ⟨hx1, hx2⟩ := hx
          obtain ⟨⟨q1, q2⟩, _, q3, q4⟩ := rightP_bd hx2
          have q5 := of_decide_eq_true hx1
          dsimp only at q1 q2 q3 q4
          omega
      obtain ⟨rfl, rfl⟩ := ofV_no hv hB
      dsimp only [List.length_cons, List.length_nil]
      go_enter Try.func16, Try.ntmps16
      go_wp2_with (fail)
      refine bodyPost_ret (res_rpof (bk_new _ _ _) _ rfl rfl) rfl ⟨rfl, hB2z⟩

    have d0 : decide (255 < a0) = false := decide_eq_false h0
    by_cases h1 : 4294967295 < a1
    · have d1 : decide (4294967295 < a1) = true := decide_eq_true h1
      have hB : ofB [a0, a1, a2, a3, a4, a5, a6, a7, a8, a9] = false := by
        cases hx : ofB [a0, a1, a2, a3, a4, a5, a6, a7, a8, a9] with
        | false => rfl
        | true =>
          exfalso
          rw [ofB_ten, Bool.and_eq_true] at hx
          obtain ⟨hx1, hx2⟩ := hx
          obtain ⟨⟨q1, q2⟩, _, q3, q4⟩ := rightP_bd hx2
          have q5 := of_decide_eq_true hx1
          dsimp only at q1 q2 q3 q4
          omega
      obtain ⟨rfl, rfl⟩ := ofV_no hv hB
      dsimp only [List.length_cons, List.length_nil]
      go_enter Try.func16, Try.ntmps16
      go_wp2_with (fail)
      refine bodyPost_ret (res_rpof (bk_new _ _ _) _ rfl rfl) rfl ⟨rfl, hB2z⟩

    have d1 : decide (4294967295 < a1) = false := decide_eq_false h1
    by_cases h2 : 32 < a2
    · have d2 : decide (32 < a2) = true := decide_eq_true h2
      have hB : ofB [a0, a1, a2, a3, a4, a5, a6, a7, a8, a9] = false := by
        cases hx : ofB [a0, a1, a2, a3, a4, a5, a6, a7, a8, a9] with
        | false => rfl
        | true =>
          exfalso
          rw [ofB_ten, Bool.and_eq_true] at hx
          obtain ⟨hx1, hx2⟩ := hx
          obtain ⟨⟨q1, q2⟩, _, q3, q4⟩ := rightP_bd hx2
          have q5 := of_decide_eq_true hx1
          dsimp only at q1 q2 q3 q4
          omega
      obtain ⟨rfl, rfl⟩ := ofV_no hv hB
      dsimp only [List.length_cons, List.length_nil]
      go_enter Try.func16, Try.ntmps16
      go_wp2_with (fail)
      refine bodyPost_ret (res_rpof (bk_new _ _ _) _ rfl rfl) rfl ⟨rfl, hB2z⟩

    have d2 : decide (32 < a2) = false := decide_eq_false h2
    have hB := ofB_ten a0 a1 a2 a3 a4 a5 a6 a7 a8 a9
    rw [decide_eq_true (show a1 ≤ 4294967295 by omega), Bool.true_and] at hB
    have hw0 : IntKind.i64.wrap a0 = a0 := by rw [IntKind.wrap_i64]; omega
    have hw1 : IntKind.u32.wrap a1 = a1 := by rw [IntKind.wrap_u32]; omega
    have hw2 : IntKind.i64.wrap a2 = a2 := by rw [IntKind.wrap_i64]; omega
    have hp : PolOk (a0, (a1 / 16777216, a1 / 65536 % 256, a1 / 256 % 256, a1 % 256, a2), a3, a4, a5, a6, a7, a8, a9) := ⟨⟨by dsimp only; omega, by dsimp only; omega⟩, ⟨by unfold AdOk; dsimp only; omega, by dsimp only; omega, by dsimp only; omega⟩, ⟨l3, m3⟩, ⟨l4, m4⟩, ⟨l5, m5⟩, ⟨l6, m6⟩, ⟨l7, m7⟩, ⟨l8, m8⟩, ⟨l9, m9⟩⟩
    have hpr := fun w => rpright_any (a0, (a1 / 16777216, a1 / 65536 % 256, a1 / 256 % 256, a1 % 256, a2), a3, a4, a5, a6, a7, a8, a9) hp w
    dsimp only at hpr
    have hR1 : ReadsInt ((w.alloc (.cells #[.int .i64 0, .int .u8 0, .int .u8 0, .int .u8 0, .int .u8 0, .int .i64 0, .int .u64 0, .int .u64 0, .int .u64 0, .int .u64 0, .int .u64 0, .int .u64 0, .int .u64 0] 28)).alloc (.cells #[.int .i64 a0, .int .u8 0, .int .u8 0, .int .u8 0, .int .u8 0, .int .i64 0, .int .u64 0, .int .u64 0, .int .u64 0, .int .u64 0, .int .u64 0, .int .u64 0, .int .u64 0] 28)) .u64 (some ad) 10 [a0, a1, a2, a3, a4, a5, a6, a7, a8, a9] := ReadsInt.allocS hR _
    have hbp : Bk ((w.alloc (.cells #[.int .i64 0, .int .u8 0, .int .u8 0, .int .u8 0, .int .u8 0, .int .i64 0, .int .u64 0, .int .u64 0, .int .u64 0, .int .u64 0, .int .u64 0, .int .u64 0, .int .u64 0] 28)).alloc (.cells #[.int .i64 a0, .int .u8 0, .int .u8 0, .int .u8 0, .int .u8 0, .int .i64 0, .int .u64 0, .int .u64 0, .int .u64 0, .int .u64 0, .int .u64 0, .int .u64 0, .int .u64 0] 28)) (w.heap.size + 1) #[.int .i64 a0, .int .u8 0, .int .u8 0, .int .u8 0, .int .u8 0, .int .i64 0, .int .u64 0, .int .u64 0, .int .u64 0, .int .u64 0, .int .u64 0, .int .u64 0, .int .u64 0] 28 := bk_at (by simp)
    have hb22 := bk_alloc hb2 (.cells #[.int .i64 a0, .int .u8 0, .int .u8 0, .int .u8 0, .int .u8 0, .int .i64 0, .int .u64 0, .int .u64 0, .int .u64 0, .int .u64 0, .int .u64 0, .int .u64 0, .int .u64 0] 28)
    have hBz2 := bl_alloc hB2z (.cells #[.int .i64 a0, .int .u8 0, .int .u8 0, .int .u8 0, .int .u8 0, .int .i64 0, .int .u64 0, .int .u64 0, .int .u64 0, .int .u64 0, .int .u64 0, .int .u64 0, .int .u64 0] 28)
    replace hw0 := Lib.hid hw0
    replace hw1 := Lib.hid hw1
    replace hw2 := Lib.hid hw2
    replace hB := Lib.hid hB
    replace hv := Lib.hid hv
    replace hpr := Lib.hid hpr
    replace hb22 := Lib.hid hb22
    replace hBz2 := Lib.hid hBz2
    replace hbp := Lib.hid hbp
    replace hR1 := Lib.hid hR1
    replace hR0 := Lib.hid hR
    replace hp := Lib.hid hp
    replace hb2 := Lib.hid hb2
    replace hB2z := Lib.hid hB2z
    clear hr hU hR
    have hg1 : (w.alloc (.cells #[.int .i64 0, .int .u8 0, .int .u8 0, .int .u8 0, .int .u8 0, .int .i64 0, .int .u64 0, .int .u64 0, .int .u64 0, .int .u64 0, .int .u64 0, .int .u64 0, .int .u64 0] 28)).heap.size ≤ w.heap.size + 1 := by rw [World.size_alloc]; exact Nat.le_refl _
    replace hg1 := Lib.hid hg1
    dsimp only [List.length_cons, List.length_nil]
    go_enter Try.func16, Try.ntmps16
    go_wp2_with (fail)
    clear y0 y1 y2 y3 y4 y5 y6 y7 y8 y9
    refine wp_region_noPanic ?_
    refine wp_region_held_drew (S := fun w' => Below (w.alloc (.cells #[.int .i64 0, .int .u8 0, .int .u8 0, .int .u8 0, .int .u8 0, .int .i64 0, .int .u64 0, .int .u64 0, .int .u64 0, .int .u64 0, .int .u64 0, .int .u64 0, .int .u64 0] 28)).heap.size (w.alloc (.cells #[.int .i64 0, .int .u8 0, .int .u8 0, .int .u8 0, .int .u8 0, .int .i64 0, .int .u64 0, .int .u64 0, .int .u64 0, .int .u64 0, .int .u64 0, .int .u64 0, .int .u64 0] 28)) w') (by kernel_rfl) (bl_drew (bl_alloc (Below.refl _ _) _)) (fun hHeld => ?_)
    refine wpAnyH_take (i := 0) (oi := { dst := some 32, op := Go.Op.move (Go.Operand.tmp 0), type := 29, pos := "ref.go:43", after := #[], guard := none }) (v := ?_) rfl (by kernel_rfl) (by kernel_rfl) (by kernel_rfl) (fun _ _ _ h => h) (Or.inl ⟨by rfl, ?_⟩) (by assumption) ?_
    rotate_left 1
    · intro w' hSw
      first | (go_simp; done) | (go_simp; with_reducible rfl)
    try simp only [Act.put, List.getElem_toArray, List.getElem_cons_succ, List.getElem_cons_zero, List.setIfInBounds_toArray, List.set_cons_zero, List.set_cons_succ]
    refine wpAnyH_take (i := 1) (oi := { dst := some 33, op := Go.Op.indexAddr 29 (Go.Operand.tmp 32) (Go.Operand.const (Go.Value.int Go.IntKind.i64 1)), type := 0, pos := "ref.go:43", after := #[{ on := 0, ground := Go.Ground.data }], guard := none }) (v := ?_) rfl (by kernel_rfl) (by kernel_rfl) (by kernel_rfl) (fun _ _ _ h => h) (Or.inl ⟨by rfl, ?_⟩) (by assumption) ?_
    rotate_left 1
    · intro w' hSw
      first | (go_simp; done) | (go_simp; with_reducible rfl)
    try simp only [Act.put, List.getElem_toArray, List.getElem_cons_succ, List.getElem_cons_zero, List.setIfInBounds_toArray, List.set_cons_zero, List.set_cons_succ]
    refine wpAnyH_take (i := 2) (oi := { dst := some 34, op := Go.Op.load 26 (Go.Operand.tmp 33), type := 26, pos := "ref.go:43", after := #[{ on := 1, ground := Go.Ground.data }], guard := none }) (v := ?_) rfl (by kernel_rfl) (by kernel_rfl) (by kernel_rfl) (fun _ _ _ h => h) (Or.inl ⟨by rfl, ?_⟩) (by assumption) ?_
    rotate_left 1
    · intro w' hSw
      obtain ⟨y0, y1, y2, y3, y4, y5, y6, y7, y8, y9⟩ := rd10 (hR0.out.below hSw)
      first | (go_simp; done) | (go_simp; with_reducible rfl)
    try simp only [Act.put, List.getElem_toArray, List.getElem_cons_succ, List.getElem_cons_zero, List.setIfInBounds_toArray, List.set_cons_zero, List.set_cons_succ]
    refine wpAnyH_take (i := 3) (oi := { dst := some 35, op := Go.Op.convert 26 67 (Go.Operand.tmp 34), type := 67, pos := "ref.go:43", after := #[{ on := 2, ground := Go.Ground.data }], guard := none }) (v := ?_) rfl (by kernel_rfl) (by kernel_rfl) (by kernel_rfl) (fun _ _ _ h => h) (Or.inl ⟨by rfl, ?_⟩) (by assumption) ?_
    rotate_left 1
    · intro w' hSw
      first | (go_simp; done) | (go_simp; with_reducible rfl)
    try simp only [Act.put, List.getElem_toArray, List.getElem_cons_succ, List.getElem_cons_zero, List.setIfInBounds_toArray, List.set_cons_zero, List.set_cons_succ]
    refine wpAnyH_take (i := 5) (oi := { dst := some 37, op := Go.Op.move (Go.Operand.tmp 0), type := 29, pos := "ref.go:43", after := #[], guard := none }) (v := ?_) rfl (by kernel_rfl) (by kernel_rfl) (by kernel_rfl) (fun _ _ _ h => h) (Or.inl ⟨by rfl, ?_⟩) (by assumption) ?_
    rotate_left 1
    · intro w' hSw
      first | (go_simp; done) | (go_simp; with_reducible rfl)
    try simp only [Act.put, List.getElem_toArray, List.getElem_cons_succ, List.getElem_cons_zero, List.setIfInBounds_toArray, List.set_cons_zero, List.set_cons_succ]
    refine wpAnyH_take (i := 6) (oi := { dst := some 38, op := Go.Op.indexAddr 29 (Go.Operand.tmp 37) (Go.Operand.const (Go.Value.int Go.IntKind.i64 2)), type := 0, pos := "ref.go:43", after := #[{ on := 5, ground := Go.Ground.data }], guard := none }) (v := ?_) rfl (by kernel_rfl) (by kernel_rfl) (by kernel_rfl) (fun _ _ _ h => h) (Or.inl ⟨by rfl, ?_⟩) (by assumption) ?_
    rotate_left 1
    · intro w' hSw
      first | (go_simp; done) | (go_simp; with_reducible rfl)
    try simp only [Act.put, List.getElem_toArray, List.getElem_cons_succ, List.getElem_cons_zero, List.setIfInBounds_toArray, List.set_cons_zero, List.set_cons_succ]
    refine wpAnyH_take (i := 7) (oi := { dst := some 39, op := Go.Op.load 26 (Go.Operand.tmp 38), type := 26, pos := "ref.go:43", after := #[{ on := 6, ground := Go.Ground.data }], guard := none }) (v := ?_) rfl (by kernel_rfl) (by kernel_rfl) (by kernel_rfl) (fun _ _ _ h => h) (Or.inl ⟨by rfl, ?_⟩) (by assumption) ?_
    rotate_left 1
    · intro w' hSw
      obtain ⟨y0, y1, y2, y3, y4, y5, y6, y7, y8, y9⟩ := rd10 (hR0.out.below hSw)
      first | (go_simp; done) | (go_simp; with_reducible rfl)
    try simp only [Act.put, List.getElem_toArray, List.getElem_cons_succ, List.getElem_cons_zero, List.setIfInBounds_toArray, List.set_cons_zero, List.set_cons_succ]
    refine wpAnyH_take (i := 8) (oi := { dst := some 40, op := Go.Op.convert 26 3 (Go.Operand.tmp 39), type := 3, pos := "ref.go:43", after := #[{ on := 7, ground := Go.Ground.data }], guard := none }) (v := ?_) rfl (by kernel_rfl) (by kernel_rfl) (by kernel_rfl) (fun _ _ _ h => h) (Or.inl ⟨by rfl, ?_⟩) (by assumption) ?_
    rotate_left 1
    · intro w' hSw
      first | (go_simp; done) | (go_simp; with_reducible rfl)
    try simp only [Act.put, List.getElem_toArray, List.getElem_cons_succ, List.getElem_cons_zero, List.setIfInBounds_toArray, List.set_cons_zero, List.set_cons_succ]
    refine wpAnyH_ready (rs := [4]) (by kernel_rfl) (by simp) ?_
    refine (AllReadyH.cons (o := { dst := some 36, op := Go.Op.call { callee := Go.Callee.value (Go.Operand.func 37), args := #[Go.Operand.tmp 35], argTypes := #[67] }, type := 23, pos := "ref.go:43", after := #[{ on := 3, ground := Go.Ground.data }], guard := none }) rfl (fun K hK => ?_) AllReadyH.nil)
    go_simp
    try rw [hw1.out]
    go_at_call 37
    (with_reducible refine (rof_any a1 _ ⟨l1, by omega⟩).mono ?_)
    rintro e w2 ⟨rfl, hB2⟩
    obtain ⟨z0, z1, z2, z3, z4, z5, z6, z7, z8, z9, z10, z11, z12, f0, f1, f2, f3, f4, f5, f6, f7, f8, f9, f10, f11, f12⟩ := cells13 (bk_below hB2 (bk_drew hbp.out))
    go_wp2_with (fail)
    refine hK.out _ _ ?_ (fun hHeld => ?_)
    · first | (with_reducible exact bl_then hHeld hB2) | (exact bl_set (bl_set (bl_set (bl_set (bl_set hHeld hg1.out _) hg1.out _) hg1.out _) hg1.out _) hg1.out _)
    clear hK K
    try simp only [Act.put, List.getElem_toArray, List.getElem_cons_succ, List.getElem_cons_zero, List.setIfInBounds_toArray, List.set_cons_zero, List.set_cons_succ]
    refine wpAnyH_take (i := 9) (oi := { dst := some 41, op := Go.Op.build 25 #[(0, Go.Operand.tmp 36), (1, Go.Operand.tmp 40)], type := 25, pos := "ref.go:43", after := #[{ on := 4, ground := Go.Ground.data }, { on := 8, ground := Go.Ground.data }], guard := none }) (v := ?_) rfl (by kernel_rfl) (by kernel_rfl) (by kernel_rfl) (fun _ _ _ h => h) (Or.inl ⟨by rfl, ?_⟩) (by assumption) ?_
    rotate_left 1
    · intro w' hSw
      first | (go_simp; done) | (go_simp; with_reducible rfl)
    try simp only [Act.put, List.getElem_toArray, List.getElem_cons_succ, List.getElem_cons_zero, List.setIfInBounds_toArray, List.set_cons_zero, List.set_cons_succ]
    refine wpAnyH_take (i := 10) (oi := { dst := some 42, op := Go.Op.fieldAddr 28 (Go.Operand.tmp 4) 1, type := 0, pos := "ref.go:43", after := #[{ on := 0, ground := Go.Ground.phase }, { on := 1, ground := Go.Ground.phase }, { on := 2, ground := Go.Ground.phase }, { on := 3, ground := Go.Ground.phase }, { on := 4, ground := Go.Ground.phase }, { on := 5, ground := Go.Ground.phase }, { on := 6, ground := Go.Ground.phase }, { on := 7, ground := Go.Ground.phase }, { on := 8, ground := Go.Ground.phase }, { on := 9, ground := Go.Ground.phase }], guard := none }) (v := ?_) rfl (by kernel_rfl) (by kernel_rfl) (by kernel_rfl) (fun _ _ _ h => h) (Or.inl ⟨by rfl, ?_⟩) (by assumption) ?_
    rotate_left 1
    · intro w' hSw
      first | (go_simp; done) | (go_simp; with_reducible rfl)
    try simp only [Act.put, List.getElem_toArray, List.getElem_cons_succ, List.getElem_cons_zero, List.setIfInBounds_toArray, List.set_cons_zero, List.set_cons_succ]
    refine wpAnyH_ready (rs := [11]) (by kernel_rfl) (by simp) ?_
    refine (AllReadyH.cons (o := { dst := none, op := Go.Op.store 25 (Go.Operand.tmp 42) (Go.Operand.tmp 41), type := 0, pos := "ref.go:43", after := #[{ on := 10, ground := Go.Ground.data }, { on := 9, ground := Go.Ground.data }, { on := 4, ground := Go.Ground.chain }, { on := 0, ground := Go.Ground.phase }, { on := 1, ground := Go.Ground.phase }, { on := 2, ground := Go.Ground.phase }, { on := 3, ground := Go.Ground.phase }, { on := 4, ground := Go.Ground.phase }, { on := 5, ground := Go.Ground.phase }, { on := 6, ground := Go.Ground.phase }, { on := 7, ground := Go.Ground.phase }, { on := 8, ground := Go.Ground.phase }, { on := 9, ground := Go.Ground.phase }], guard := none }) rfl (fun K hK => ?_) AllReadyH.nil)
    go_simp
    skip
    refine hK.out _ _ ?_ (fun hHeld => ?_)
    · first | (with_reducible exact bl_then hHeld hB2) | (exact bl_set (bl_set (bl_set (bl_set (bl_set hHeld hg1.out _) hg1.out _) hg1.out _) hg1.out _) hg1.out _)
    clear hK K
    try simp only [Act.put, List.getElem_toArray, List.getElem_cons_succ, List.getElem_cons_zero, List.setIfInBounds_toArray, List.set_cons_zero, List.set_cons_succ]
    refine wpAnyH_done (by kernel_rfl) ?_ _
    refine NoPanic.normal ?_
    rw [hw2.out]
    have q5 := bl_set (bl_set (bl_set (bl_set (bl_set (bl_then (bl_drew (bl_alloc (Below.refl _ (w.alloc (.cells #[.int .i64 0, .int .u8 0, .int .u8 0, .int .u8 0, .int .u8 0, .int .i64 0, .int .u64 0, .int .u64 0, .int .u64 0, .int .u64 0, .int .u64 0, .int .u64 0, .int .u64 0] 28))) (.cells #[.int .i64 a0, .int .u8 0, .int .u8 0, .int .u8 0, .int .u8 0, .int .i64 0, .int .u64 0, .int .u64 0, .int .u64 0, .int .u64 0, .int .u64 0, .int .u64 0, .int .u64 0] 28))) hB2) hg1.out (.int .u8 (a1 / 16777216)) (p := ⟨w.heap.size + 1, 1, none⟩)) hg1.out (.int .u8 (a1 / 65536 % 256)) (p := ⟨w.heap.size + 1, 2, none⟩)) hg1.out (.int .u8 (a1 / 256 % 256)) (p := ⟨w.heap.size + 1, 3, none⟩)) hg1.out (.int .u8 (a1 % 256)) (p := ⟨w.heap.size + 1, 4, none⟩)) hg1.out (.int .i64 a2) (p := ⟨w.heap.size + 1, 5, none⟩)
    have b1 : Bk _ (w.heap.size + 1) #[.int .i64 a0, .int .u8 (a1 / 16777216), .int .u8 0, .int .u8 0, .int .u8 0, .int .i64 0, .int .u64 0, .int .u64 0, .int .u64 0, .int .u64 0, .int .u64 0, .int .u64 0, .int .u64 0] 28 := bk_put (i := 1) (u := .int .u8 (a1 / 16777216)) (bk_below hB2 (bk_drew hbp.out)) rfl
    have b2 : Bk _ (w.heap.size + 1) #[.int .i64 a0, .int .u8 (a1 / 16777216), .int .u8 (a1 / 65536 % 256), .int .u8 0, .int .u8 0, .int .i64 0, .int .u64 0, .int .u64 0, .int .u64 0, .int .u64 0, .int .u64 0, .int .u64 0, .int .u64 0] 28 := bk_put (i := 2) (u := .int .u8 (a1 / 65536 % 256)) b1 rfl
    have b3 : Bk _ (w.heap.size + 1) #[.int .i64 a0, .int .u8 (a1 / 16777216), .int .u8 (a1 / 65536 % 256), .int .u8 (a1 / 256 % 256), .int .u8 0, .int .i64 0, .int .u64 0, .int .u64 0, .int .u64 0, .int .u64 0, .int .u64 0, .int .u64 0, .int .u64 0] 28 := bk_put (i := 3) (u := .int .u8 (a1 / 256 % 256)) b2 rfl
    have b4 : Bk _ (w.heap.size + 1) #[.int .i64 a0, .int .u8 (a1 / 16777216), .int .u8 (a1 / 65536 % 256), .int .u8 (a1 / 256 % 256), .int .u8 (a1 % 256), .int .i64 0, .int .u64 0, .int .u64 0, .int .u64 0, .int .u64 0, .int .u64 0, .int .u64 0, .int .u64 0] 28 := bk_put (i := 4) (u := .int .u8 (a1 % 256)) b3 rfl
    have b5 : Bk _ (w.heap.size + 1) #[.int .i64 a0, .int .u8 (a1 / 16777216), .int .u8 (a1 / 65536 % 256), .int .u8 (a1 / 256 % 256), .int .u8 (a1 % 256), .int .i64 a2, .int .u64 0, .int .u64 0, .int .u64 0, .int .u64 0, .int .u64 0, .int .u64 0, .int .u64 0] 28 := bk_put (i := 5) (u := .int .i64 a2) b4 rfl
    have y6 := (rd10 (hR0.out.below q5)).2.2.2.1
    have c6 := (bk_cell b5 6).trans (show _ = some (.int .u64 0) from rfl)
    have fz6 := bk_frozen b5 6
    have b6 : Bk _ (w.heap.size + 1) #[.int .i64 a0, .int .u8 (a1 / 16777216), .int .u8 (a1 / 65536 % 256), .int .u8 (a1 / 256 % 256), .int .u8 (a1 % 256), .int .i64 a2, .int .u64 a3, .int .u64 0, .int .u64 0, .int .u64 0, .int .u64 0, .int .u64 0, .int .u64 0] 28 := bk_put (i := 6) (u := .int .u64 a3) b5 rfl
    have q6 := bl_set (p := ⟨w.heap.size + 1, 6, none⟩) q5 hg1.out (.int .u64 a3)
    have y7 := (rd10 (hR0.out.below q6)).2.2.2.2.1
    have c7 := (bk_cell b6 7).trans (show _ = some (.int .u64 0) from rfl)
    have fz7 := bk_frozen b6 7
    have b7 : Bk _ (w.heap.size + 1) #[.int .i64 a0, .int .u8 (a1 / 16777216), .int .u8 (a1 / 65536 % 256), .int .u8 (a1 / 256 % 256), .int .u8 (a1 % 256), .int .i64 a2, .int .u64 a3, .int .u64 a4, .int .u64 0, .int .u64 0, .int .u64 0, .int .u64 0, .int .u64 0] 28 := bk_put (i := 7) (u := .int .u64 a4) b6 rfl
    have q7 := bl_set (p := ⟨w.heap.size + 1, 7, none⟩) q6 hg1.out (.int .u64 a4)
    have y8 := (rd10 (hR0.out.below q7)).2.2.2.2.2.1
    have c8 := (bk_cell b7 8).trans (show _ = some (.int .u64 0) from rfl)
    have fz8 := bk_frozen b7 8
    have b8 : Bk _ (w.heap.size + 1) #[.int .i64 a0, .int .u8 (a1 / 16777216), .int .u8 (a1 / 65536 % 256), .int .u8 (a1 / 256 % 256), .int .u8 (a1 % 256), .int .i64 a2, .int .u64 a3, .int .u64 a4, .int .u64 a5, .int .u64 0, .int .u64 0, .int .u64 0, .int .u64 0] 28 := bk_put (i := 8) (u := .int .u64 a5) b7 rfl
    have q8 := bl_set (p := ⟨w.heap.size + 1, 8, none⟩) q7 hg1.out (.int .u64 a5)
    have y9 := (rd10 (hR0.out.below q8)).2.2.2.2.2.2.1
    have c9 := (bk_cell b8 9).trans (show _ = some (.int .u64 0) from rfl)
    have fz9 := bk_frozen b8 9
    have b9 : Bk _ (w.heap.size + 1) #[.int .i64 a0, .int .u8 (a1 / 16777216), .int .u8 (a1 / 65536 % 256), .int .u8 (a1 / 256 % 256), .int .u8 (a1 % 256), .int .i64 a2, .int .u64 a3, .int .u64 a4, .int .u64 a5, .int .u64 a6, .int .u64 0, .int .u64 0, .int .u64 0] 28 := bk_put (i := 9) (u := .int .u64 a6) b8 rfl
    have q9 := bl_set (p := ⟨w.heap.size + 1, 9, none⟩) q8 hg1.out (.int .u64 a6)
    have y10 := (rd10 (hR0.out.below q9)).2.2.2.2.2.2.2.1
    have c10 := (bk_cell b9 10).trans (show _ = some (.int .u64 0) from rfl)
    have fz10 := bk_frozen b9 10
    have b10 : Bk _ (w.heap.size + 1) #[.int .i64 a0, .int .u8 (a1 / 16777216), .int .u8 (a1 / 65536 % 256), .int .u8 (a1 / 256 % 256), .int .u8 (a1 % 256), .int .i64 a2, .int .u64 a3, .int .u64 a4, .int .u64 a5, .int .u64 a6, .int .u64 a7, .int .u64 0, .int .u64 0] 28 := bk_put (i := 10) (u := .int .u64 a7) b9 rfl
    have q10 := bl_set (p := ⟨w.heap.size + 1, 10, none⟩) q9 hg1.out (.int .u64 a7)
    have y11 := (rd10 (hR0.out.below q10)).2.2.2.2.2.2.2.2.1
    have c11 := (bk_cell b10 11).trans (show _ = some (.int .u64 0) from rfl)
    have fz11 := bk_frozen b10 11
    have b11 : Bk _ (w.heap.size + 1) #[.int .i64 a0, .int .u8 (a1 / 16777216), .int .u8 (a1 / 65536 % 256), .int .u8 (a1 / 256 % 256), .int .u8 (a1 % 256), .int .i64 a2, .int .u64 a3, .int .u64 a4, .int .u64 a5, .int .u64 a6, .int .u64 a7, .int .u64 a8, .int .u64 0] 28 := bk_put (i := 11) (u := .int .u64 a8) b10 rfl
    have q11 := bl_set (p := ⟨w.heap.size + 1, 11, none⟩) q10 hg1.out (.int .u64 a8)
    have y12 := (rd10 (hR0.out.below q11)).2.2.2.2.2.2.2.2.2
    have c12 := (bk_cell b11 12).trans (show _ = some (.int .u64 0) from rfl)
    have fz12 := bk_frozen b11 12
    have b12 : Bk _ (w.heap.size + 1) #[.int .i64 a0, .int .u8 (a1 / 16777216), .int .u8 (a1 / 65536 % 256), .int .u8 (a1 / 256 % 256), .int .u8 (a1 % 256), .int .i64 a2, .int .u64 a3, .int .u64 a4, .int .u64 a5, .int .u64 a6, .int .u64 a7, .int .u64 a8, .int .u64 a9] 28 := bk_put (i := 12) (u := .int .u64 a9) b11 rfl
    have q12 := bl_set (p := ⟨w.heap.size + 1, 12, none⟩) q11 hg1.out (.int .u64 a9)
    clear b1 b2 b3 b4 b5 b6 b7 b8 b9 b10 b11
    obtain ⟨z0, z1, z2, z3, z4, z5, z6, z7, z8, z9, z10, z11, z12, f0, f1, f2, f3, f4, f5, f6, f7, f8, f9, f10, f11, f12⟩ := cells13 b12
    have hr2 := bk_below q12 hb2.out
    have hBf := bl_then hB2z.out q12
    clear q5 q6 q7 q8 q9 q10 q11 q12
    cases hv2 : rightP (a0, (a1 / 16777216, a1 / 65536 % 256, a1 / 256 % 256, a1 % 256, a2), a3, a4, a5, a6, a7, a8, a9) with
    | false =>
      obtain ⟨rfl, rfl⟩ := ofV_no hv.out (hB.out.trans hv2)
      replace hv2 := Lib.hid hv2
      go_wp2_with (go_at_call 18; (with_reducible refine (hpr.out _).mono ?_); rw [hv2.out]; rintro e w3 ⟨rfl, hB3⟩; have hr3 := bk_below hB3 hr2; obtain ⟨r0, r1, r2, r3, r4, r5, r6, r7, r8, r9, r10, r11, r12, g0, g1, g2, g3, g4, g5, g6, g7, g8, g9, g10, g11, g12⟩ := cells13 hr3)
      refine bodyPost_ret (res_rpof (put13 hr3) _ rfl rfl) rfl ⟨rfl, ?_⟩
      (with_reducible exact bl_put13 (bl_then hBf hB3) (Nat.le_refl _))
    | true =>
      obtain ⟨rfl, rfl⟩ := ofV_yes hv.out (hB.out.trans hv2)
      replace hv2 := Lib.hid hv2
      go_wp2_with (go_at_call 18; (with_reducible refine (hpr.out _).mono ?_); rw [hv2.out]; rintro e w3 ⟨rfl, hB3⟩; have hr3 := bk_below hB3 hr2; have hz3 := bk_below hB3 b12; obtain ⟨r0, r1, r2, r3, r4, r5, r6, r7, r8, r9, r10, r11, r12, g0, g1, g2, g3, g4, g5, g6, g7, g8, g9, g10, g11, g12⟩ := cells13 hr3; obtain ⟨z0, z1, z2, z3, z4, z5, z6, z7, z8, z9, z10, z11, z12, f0, f1, f2, f3, f4, f5, f6, f7, f8, f9, f10, f11, f12⟩ := cells13 hz3)
      refine bodyPost_ret (res_rpof (put13 hr3) _ rfl rfl) rfl ⟨rfl, ?_⟩
      (with_reducible exact bl_put13 (bl_then hBf hB3) (Nat.le_refl _))
  · have hB : ofB l = false := by unfold ofB; rw [decide_eq_false h10]; rfl
    obtain ⟨rfl, rfl⟩ := ofV_no hv hB
    have d0 : decide (l.length = 10) = false := decide_eq_false h10
    dsimp only
    go_enter Try.func16, Try.ntmps16
    go_wp2_with (fail)
    refine bodyPost_ret (res_rpof (bk_new _ _ _) _ rfl rfl) rfl ⟨rfl, hB2z⟩
end Go.Proofs.Ytfcekicjlgdmaaa
