/- The walk of PolicyTells. -/
import Derived.Test.YtfcekicjlgdmaaaPolicy7
import Derived.Test.YtfcekicjlgdmaaaRowIn
set_option linter.unusedVariables false
set_option linter.unusedSimpArgs false
set_option maxRecDepth 100000
namespace Go.Proofs.Ytfcekicjlgdmaaa
open Go.RowKit Go.Proofs.YtfcekicjlgdmaaaW.PrintWords
attribute [local go_sem] max2_int min2_int max_two min_two
attribute [local go_sem ↓] eql_nt neq_nt eql_ad net_addr net_bits eql_pol neq_pol

theorem ofV_ok {l : List Int} (hU : U64 l) : PolOk (ofV l).1 := by
  cases hb : ofB l with
  | false => unfold ofV; rw [hb, if_neg Bool.false_ne_true]; exact zeroP_ok
  | true =>
    have h10 : l.length = 10 := by
      unfold ofB at hb
      simp only [Bool.and_eq_true, decide_eq_true_eq] at hb
      exact hb.1.1
    obtain ⟨a0, a1, a2, a3, a4, a5, a6, a7, a8, a9, rfl⟩ := ten h10
    obtain ⟨⟨l0, m0⟩, ⟨l1, m1⟩, ⟨l2, m2⟩, ⟨l3, m3⟩, ⟨l4, m4⟩, ⟨l5, m5⟩, ⟨l6, m6⟩, ⟨l7, m7⟩, ⟨l8, m8⟩, ⟨l9, m9⟩⟩ := ten_ok hU
    have hx := hb
    rw [ofB_ten, Bool.and_eq_true] at hx
    obtain ⟨hx1, hx2⟩ := hx
    obtain ⟨⟨q1, q2⟩, _, q3, q4⟩ := rightP_bd hx2
    have q5 := of_decide_eq_true hx1
    dsimp only at q1 q2 q3 q4
    unfold ofV
    rw [hb, if_pos rfl]
    show PolOk (a0, (a1 / 16777216, a1 / 65536 % 256, a1 / 256 % 256, a1 % 256, a2), a3, a4, a5, a6, a7, a8, a9)
    exact ⟨⟨by dsimp only; omega, by dsimp only; omega⟩, ⟨by unfold AdOk; dsimp only; omega, by dsimp only; omega, by dsimp only; omega⟩, ⟨l3, m3⟩, ⟨l4, m4⟩, ⟨l5, m5⟩, ⟨l6, m6⟩, ⟨l7, m7⟩, ⟨l8, m8⟩, ⟨l9, m9⟩⟩
def B64 (x : Int) : Prop := 0 ≤ x ∧ x ≤ 18446744073709551615
set_option maxHeartbeats 3200000 in
theorem policyTells_walk (s a b c d n r1 r2 r3 r4 r5 r6 r7 : Int) (hp : (-9223372036854775808 ≤ s ∧ s ≤ 9223372036854775807) ∧ (0 ≤ a ∧ a ≤ 255) ∧ (0 ≤ b ∧ b ≤ 255) ∧ (0 ≤ c ∧ c ≤ 255) ∧ (0 ≤ d ∧ d ≤ 255) ∧ (-9223372036854775808 ≤ n ∧ n ≤ 9223372036854775807) ∧ (0 ≤ r1 ∧ r1 ≤ 18446744073709551615) ∧ (0 ≤ r2 ∧ r2 ≤ 18446744073709551615) ∧ (0 ≤ r3 ∧ r3 ≤ 18446744073709551615) ∧ (0 ≤ r4 ∧ r4 ≤ 18446744073709551615) ∧ (0 ≤ r5 ∧ r5 ≤ 18446744073709551615) ∧ (0 ≤ r6 ∧ r6 ≤ 18446744073709551615) ∧ (0 ≤ r7 ∧ r7 ≤ 18446744073709551615)) (A1 : Option Addr) (len1 cap1 : Nat) (zs1 : List Int) {w : World} (hz1 : IsRow .u64 w A1 len1 cap1 zs1) :
    Calls Try.prog 3 #[.agg #[.int .i64 s, .int .u8 a, .int .u8 b, .int .u8 c, .int .u8 d, .int .i64 n, .int .u64 r1, .int .u64 r2, .int .u64 r3, .int .u64 r4, .int .u64 r5, .int .u64 r6, .int .u64 r7], .slice A1 len1 cap1] w fun e w' => e = .returned (.bool true) ∧ Below w.heap.size w w' := by
  obtain ⟨l, rfl, hrl, hml, hwl, hcl⟩ := ReadsInt.ofRowC hz1
  have hcm1 := IsRow.cap_le hz1
  have hl : U64 l := fun x hx => bounds_u64 (hwl x hx)
  have hok : PolOk (s, (a, b, c, d, n), r1, r2, r3, r4, r5, r6, r7) := ⟨hp.1, ⟨⟨hp.2.1, hp.2.2.1, hp.2.2.2.1, hp.2.2.2.2.1⟩, hp.2.2.2.2.2.1⟩, hp.2.2.2.2.2.2⟩
  have hbx := bk_new w #[.int .i64 s, .int .u8 a, .int .u8 b, .int .u8 c, .int .u8 d, .int .i64 n, .int .u64 r1, .int .u64 r2, .int .u64 r3, .int .u64 r4, .int .u64 r5, .int .u64 r6, .int .u64 r7] 28
  have hBx := bl_alloc (Below.refl _ w) (.cells #[.int .i64 s, .int .u8 a, .int .u8 b, .int .u8 c, .int .u8 d, .int .i64 n, .int .u64 r1, .int .u64 r2, .int .u64 r3, .int .u64 r4, .int .u64 r5, .int .u64 r6, .int .u64 r7] 28)
  have hRl := Lib.hid hrl
  have hL := Lib.hid hl
  have hqok := ofV_ok hl
  clear hz1 hrl hwl hl hp
  have hr1 := fun w => pright_any (s, (a, b, c, d, n), r1, r2, r3, r4, r5, r6, r7) hok w
  have hr2 := fun w => rpright_any (s, (a, b, c, d, n), r1, r2, r3, r4, r5, r6, r7) hok w
  have hn1 := fun w => pnums_any (s, (a, b, c, d, n), r1, r2, r3, r4, r5, r6, r7) hok w
  have hn2 := fun w => rpnums_any (s, (a, b, c, d, n), r1, r2, r3, r4, r5, r6, r7) hok w
  have hle := polNums_len (s, (a, b, c, d, n), r1, r2, r3, r4, r5, r6, r7)
  have hnu := polNums_u64 hok
  obtain ⟨v, hv⟩ : ∃ v, rightP (s, (a, b, c, d, n), r1, r2, r3, r4, r5, r6, r7) = v := ⟨_, rfl⟩
  obtain ⟨M, hM⟩ : ∃ M, polNums (s, (a, b, c, d, n), r1, r2, r3, r4, r5, r6, r7) = M := ⟨_, rfl⟩
  rw [hM] at hn1 hn2 hle hnu
  rw [hv] at hr1 hr2
  dsimp only at hr1 hr2 hn1 hn2
  have hof := fun A cap w hr => pof_any A cap l w hr hL.out hml
  have hrof := fun A cap w hr => rpof_any A cap l w hr hL.out hml
  obtain ⟨V, hV⟩ : ∃ V, ofV l = V := ⟨_, rfl⟩
  rw [hV] at hof hrof hqok
  obtain ⟨⟨q0, ⟨q1, q2, q3, q4, q5⟩, q6, q7, q8, q9, q10, q11, q12⟩, cc⟩ := V
  dsimp only at hof hrof hqok
  have hE : eqP (q0, (q1, q2, q3, q4, q5), q6, q7, q8, q9, q10, q11, q12) (q0, (q1, q2, q3, q4, q5), q6, q7, q8, q9, q10, q11, q12) = true := eqP_iff.2 rfl
  have hvv : (v == v) = true := beq_self_eq_true v
  have hvd : decide (v = v) = true := decide_eq_true rfl
  have hcd : decide (cc = cc) = true := decide_eq_true rfl
  have hMM : decide (M = M) = true := decide_eq_true rfl
  replace hr1 := Lib.hid hr1
  replace hr2 := Lib.hid hr2
  replace hn1 := Lib.hid hn1
  replace hn2 := Lib.hid hn2
  replace hof := Lib.hid hof
  replace hrof := Lib.hid hrof
  replace hbx := Lib.hid hbx
  replace hBx := Lib.hid hBx
  clear hv hM hV hnu hok
  by_cases c1 : 100 < (l.length : Int)
  · have d1 : decide ((100 : Int) < (l.length : Int)) = true := decide_eq_true c1
    go_enter Try.func3, Try.ntmps3
    go_wp2_with (go_at_call 14; refine (palive_any _).mono ?_; rintro e w0 ⟨rfl, hB0⟩)
    go_ret
    exact ⟨rfl, bl_then hBx.out hB0⟩
  have d1 : decide ((100 : Int) < (l.length : Int)) = false := decide_eq_false c1
  go_enter Try.func3, Try.ntmps3
  go_wp2_with (first | (go_at_call 14; refine (palive_any _).mono ?_; rintro e w0 ⟨rfl, hB0⟩; have hBa := bl_then hBx.out hB0) | (at_builtin; refine print_append_row (w0 := w.alloc (.cells #[.int .i64 s, .int .u8 a, .int .u8 b, .int .u8 c, .int .u8 d, .int .i64 n, .int .u64 r1, .int .u64 r2, .int .u64 r3, .int .u64 r4, .int .u64 r5, .int .u64 r6, .int .u64 r7] 28)) (w.alloc (.cells #[.int .i64 s, .int .u8 a, .int .u8 b, .int .u8 c, .int .u8 d, .int .i64 n, .int .u64 r1, .int .u64 r2, .int .u64 r3, .int .u64 r4, .int .u64 r5, .int .u64 r6, .int .u64 r7] 28)).heap.size rfl (.tmp 15) (.tmp 16) 29 26 .u64 8 rfl Try.underlying29 inf_u64 (by decide) _ [] l A1 _ cap1 rfl rfl (empty_own w0 (w.alloc (.cells #[.int .i64 s, .int .u8 a, .int .u8 b, .int .u8 c, .int .u8 d, .int .i64 n, .int .u64 r1, .int .u64 r2, .int .u64 r3, .int .u64 r4, .int .u64 r5, .int .u64 r6, .int .u64 r7] 28)).heap.size 26 .u64 hB0.size) ((hRl.out.below hBa).below (bl_alloc (Below.refl _ _) _)) (bl_alloc hB0 _) (bl_alloc hB0 _).size (by simp; omega) ?_; rw [List.nil_append]; intro v1 w1 ho1 hB1' hg1 hat1; have hB1 := bl_then hBx.out hB1'; obtain ⟨A3, c3, rfl, hr3⟩ := own_reads ho1) | (go_at_call 15; (with_reducible refine (hof.out A3 c3 _ hr3).mono ?_); rintro e w2 ⟨rfl, hB2⟩) | (go_at_call 16; (with_reducible refine (hrof.out A1 cap1 _ (hRl.out.below (bl_alloc (bl_then hB1 hB2) (.cells #[.int .i64 q0, .int .u8 q1, .int .u8 q2, .int .u8 q3, .int .u8 q4, .int .i64 q5, .int .u64 q6, .int .u64 q7, .int .u64 q8, .int .u64 q9, .int .u64 q10, .int .u64 q11, .int .u64 q12] 28)))).mono ?_); rintro e w3 ⟨rfl, hB3⟩))
  have hB4 := bl_then (bl_alloc (bl_then hB1 hB2) (.cells #[.int .i64 q0, .int .u8 q1, .int .u8 q2, .int .u8 q3, .int .u8 q4, .int .i64 q5, .int .u64 q6, .int .u64 q7, .int .u64 q8, .int .u64 q9, .int .u64 q10, .int .u64 q11, .int .u64 q12] 28)) hB3
  have hz5 := bk_alloc (bk_below hB3 (bk_new w2 #[.int .i64 q0, .int .u8 q1, .int .u8 q2, .int .u8 q3, .int .u8 q4, .int .i64 q5, .int .u64 q6, .int .u64 q7, .int .u64 q8, .int .u64 q9, .int .u64 q10, .int .u64 q11, .int .u64 q12] 28)) (.cells #[.int .i64 q0, .int .u8 q1, .int .u8 q2, .int .u8 q3, .int .u8 q4, .int .i64 q5, .int .u64 q6, .int .u64 q7, .int .u64 q8, .int .u64 q9, .int .u64 q10, .int .u64 q11, .int .u64 q12] 28)
  have hz7 := bk_new w3 #[.int .i64 q0, .int .u8 q1, .int .u8 q2, .int .u8 q3, .int .u8 q4, .int .i64 q5, .int .u64 q6, .int .u64 q7, .int .u64 q8, .int .u64 q9, .int .u64 q10, .int .u64 q11, .int .u64 q12] 28
  have hzp := bk_alloc (bk_below hB3 (bk_alloc (bk_below hB2 (bk_below hB1' hbx.out)) (.cells #[.int .i64 q0, .int .u8 q1, .int .u8 q2, .int .u8 q3, .int .u8 q4, .int .i64 q5, .int .u64 q6, .int .u64 q7, .int .u64 q8, .int .u64 q9, .int .u64 q10, .int .u64 q11, .int .u64 q12] 28))) (.cells #[.int .i64 q0, .int .u8 q1, .int .u8 q2, .int .u8 q3, .int .u8 q4, .int .i64 q5, .int .u64 q6, .int .u64 q7, .int .u64 q8, .int .u64 q9, .int .u64 q10, .int .u64 q11, .int .u64 q12] 28)
  have hBf := bl_alloc hB4 (.cells #[.int .i64 q0, .int .u8 q1, .int .u8 q2, .int .u8 q3, .int .u8 q4, .int .i64 q5, .int .u64 q6, .int .u64 q7, .int .u64 q8, .int .u64 q9, .int .u64 q10, .int .u64 q11, .int .u64 q12] 28)
  replace hz5 := Lib.hid hz5
  replace hz7 := Lib.hid hz7
  replace hzp := Lib.hid hzp
  replace hBf := Lib.hid hBf
  clear ho1 hr3 hB1 hB1' hB2 hB3 hB4 hg1 hat1 hBa hB0
  refine wp_region_noPanic ?_
  refine wp_region_held_drew (S := fun w' => Bk w' w.heap.size #[.int .i64 s, .int .u8 a, .int .u8 b, .int .u8 c, .int .u8 d, .int .i64 n, .int .u64 r1, .int .u64 r2, .int .u64 r3, .int .u64 r4, .int .u64 r5, .int .u64 r6, .int .u64 r7] 28 ∧ Bk w' w2.heap.size #[.int .i64 q0, .int .u8 q1, .int .u8 q2, .int .u8 q3, .int .u8 q4, .int .i64 q5, .int .u64 q6, .int .u64 q7, .int .u64 q8, .int .u64 q9, .int .u64 q10, .int .u64 q11, .int .u64 q12] 28 ∧ Bk w' w3.heap.size #[.int .i64 q0, .int .u8 q1, .int .u8 q2, .int .u8 q3, .int .u8 q4, .int .i64 q5, .int .u64 q6, .int .u64 q7, .int .u64 q8, .int .u64 q9, .int .u64 q10, .int .u64 q11, .int .u64 q12] 28 ∧ Below w.heap.size w w') (by kernel_rfl) (⟨bk_drew hzp.out, bk_drew hz5.out, bk_drew hz7.out, bl_drew hBf.out⟩) (fun hHeld => ?_)
  refine wpAnyH_take (i := 0) (oi := { dst := some 26, op := Go.Op.load 28 (Go.Operand.tmp 2), type := 28, pos := "law.go:40", after := #[], guard := none }) (v := ?_) rfl (by kernel_rfl) (by kernel_rfl) (by kernel_rfl) (fun _ _ _ h => h) (Or.inl ⟨by rfl, ?_⟩) (by assumption) ?_
  rotate_left 1
  · intro w' hSw
    obtain ⟨z0, z1, z2, z3, z4, z5, z6, z7, z8, z9, z10, z11, z12, zf0, zf1, zf2, zf3, zf4, zf5, zf6, zf7, zf8, zf9, zf10, zf11, zf12⟩ := cells13 hSw.1
    first | (go_simp; done) | (go_simp; with_reducible rfl)
  try simp only [Act.put, List.getElem_toArray, List.getElem_cons_succ, List.getElem_cons_zero, List.setIfInBounds_toArray, List.set_cons_zero, List.set_cons_succ]
  refine wpAnyH_take (i := 2) (oi := { dst := some 28, op := Go.Op.load 28 (Go.Operand.tmp 2), type := 28, pos := "law.go:40", after := #[], guard := none }) (v := ?_) rfl (by kernel_rfl) (by kernel_rfl) (by kernel_rfl) (fun _ _ _ h => h) (Or.inl ⟨by rfl, ?_⟩) (by assumption) ?_
  rotate_left 1
  · intro w' hSw
    obtain ⟨z0, z1, z2, z3, z4, z5, z6, z7, z8, z9, z10, z11, z12, zf0, zf1, zf2, zf3, zf4, zf5, zf6, zf7, zf8, zf9, zf10, zf11, zf12⟩ := cells13 hSw.1
    first | (go_simp; done) | (go_simp; with_reducible rfl)
  try simp only [Act.put, List.getElem_toArray, List.getElem_cons_succ, List.getElem_cons_zero, List.setIfInBounds_toArray, List.set_cons_zero, List.set_cons_succ]
  refine wpAnyH_ready (rs := [1]) (by kernel_rfl) (by simp) ?_
  refine (AllReadyH.cons (o := { dst := some 27, op := Go.Op.call { callee := Go.Callee.value (Go.Operand.func 17), args := #[Go.Operand.tmp 26], argTypes := #[28] }, type := 4, pos := "law.go:40", after := #[{ on := 0, ground := Go.Ground.data }], guard := none }) rfl (fun K hK => ?_) AllReadyH.nil)
  go_simp
  go_at_call 17
  (with_reducible refine (hr1.out _).mono ?_)
  rintro e w4 ⟨rfl, hBz⟩
  go_wp2_with (fail)
  refine hK.out _ _ ?_ (fun hHeld => ?_)
  · first | exact ⟨bk_below hBz hHeld.1, bk_below hBz hHeld.2.1, bk_below hBz hHeld.2.2.1, bl_then hHeld.2.2.2 hBz⟩ | exact ⟨bk_drewN hHeld.1 _, bk_drewN hHeld.2.1 _, bk_drewN hHeld.2.2.1 _, bl_drewN hHeld.2.2.2 _⟩
  clear hK K
  try simp only [Act.put, List.getElem_toArray, List.getElem_cons_succ, List.getElem_cons_zero, List.setIfInBounds_toArray, List.set_cons_zero, List.set_cons_succ]
  refine wpAnyH_ready (rs := [3]) (by kernel_rfl) (by simp) ?_
  refine (AllReadyH.cons (o := { dst := some 29, op := Go.Op.call { callee := Go.Callee.value (Go.Operand.func 18), args := #[Go.Operand.tmp 28], argTypes := #[28] }, type := 4, pos := "law.go:40", after := #[{ on := 2, ground := Go.Ground.data }, { on := 1, ground := Go.Ground.chain }], guard := none }) rfl (fun K hK => ?_) AllReadyH.nil)
  go_simp
  go_at_call 18
  (with_reducible refine (hr2.out _).mono ?_)
  rintro e w5 ⟨rfl, hBz⟩
  go_wp2_with (fail)
  refine hK.out _ _ ?_ (fun hHeld => ?_)
  · first | exact ⟨bk_below hBz hHeld.1, bk_below hBz hHeld.2.1, bk_below hBz hHeld.2.2.1, bl_then hHeld.2.2.2 hBz⟩ | exact ⟨bk_drewN hHeld.1 _, bk_drewN hHeld.2.1 _, bk_drewN hHeld.2.2.1 _, bl_drewN hHeld.2.2.2 _⟩
  clear hK K
  try simp only [Act.put, List.getElem_toArray, List.getElem_cons_succ, List.getElem_cons_zero, List.setIfInBounds_toArray, List.set_cons_zero, List.set_cons_succ]
  refine wpAnyH_take (i := 4) (oi := { dst := some 30, op := Go.Op.binOp Go.BinOp.eql 4 (Go.Operand.tmp 27) (Go.Operand.tmp 29) 4, type := 4, pos := "law.go:40", after := #[{ on := 1, ground := Go.Ground.data }, { on := 3, ground := Go.Ground.data }], guard := none }) (v := ?_) rfl (by kernel_rfl) (by kernel_rfl) (by kernel_rfl) (fun _ _ _ h => h) (Or.inl ⟨by rfl, ?_⟩) (by assumption) ?_
  rotate_left 1
  · intro w' hSw
    first | (go_simp; done) | (go_simp; with_reducible rfl)
  try simp only [Act.put, List.getElem_toArray, List.getElem_cons_succ, List.getElem_cons_zero, List.setIfInBounds_toArray, List.set_cons_zero, List.set_cons_succ]
  refine wpAnyH_take (i := 5) (oi := { dst := some 31, op := Go.Op.move (Go.Operand.tmp 30), type := 4, pos := "law.go:40", after := #[{ on := 4, ground := Go.Ground.data }, { on := 3, ground := Go.Ground.chain }], guard := none }) (v := ?_) rfl (by kernel_rfl) (by kernel_rfl) (by kernel_rfl) (fun _ _ _ h => h) (Or.inl ⟨by rfl, ?_⟩) (by assumption) ?_
  rotate_left 1
  · intro w' hSw
    first | (go_simp; done) | (go_simp; with_reducible rfl)
  try simp only [Act.put, List.getElem_toArray, List.getElem_cons_succ, List.getElem_cons_zero, List.setIfInBounds_toArray, List.set_cons_zero, List.set_cons_succ]
  refine wpAnyH_take (i := 6) (oi := { dst := some 32, op := Go.Op.load 28 (Go.Operand.tmp 2), type := 28, pos := "law.go:40", after := #[{ on := 5, ground := Go.Ground.guard }], guard := some (5, true) }) (v := ?_) rfl (by kernel_rfl) (by kernel_rfl) (by kernel_rfl) (fun _ _ _ h => h) (Or.inl ⟨by rfl, ?_⟩) (by assumption) ?_
  rotate_left 1
  · intro w' hSw
    obtain ⟨z0, z1, z2, z3, z4, z5, z6, z7, z8, z9, z10, z11, z12, zf0, zf1, zf2, zf3, zf4, zf5, zf6, zf7, zf8, zf9, zf10, zf11, zf12⟩ := cells13 hSw.1
    first | (go_simp; done) | (go_simp; with_reducible rfl)
  try simp only [Act.put, List.getElem_toArray, List.getElem_cons_succ, List.getElem_cons_zero, List.setIfInBounds_toArray, List.set_cons_zero, List.set_cons_succ]
  refine wpAnyH_take (i := 8) (oi := { dst := some 34, op := Go.Op.load 28 (Go.Operand.tmp 2), type := 28, pos := "law.go:40", after := #[{ on := 5, ground := Go.Ground.guard }], guard := some (5, true) }) (v := ?_) rfl (by kernel_rfl) (by kernel_rfl) (by kernel_rfl) (fun _ _ _ h => h) (Or.inl ⟨by rfl, ?_⟩) (by assumption) ?_
  rotate_left 1
  · intro w' hSw
    obtain ⟨z0, z1, z2, z3, z4, z5, z6, z7, z8, z9, z10, z11, z12, zf0, zf1, zf2, zf3, zf4, zf5, zf6, zf7, zf8, zf9, zf10, zf11, zf12⟩ := cells13 hSw.1
    first | (go_simp; done) | (go_simp; with_reducible rfl)
  try simp only [Act.put, List.getElem_toArray, List.getElem_cons_succ, List.getElem_cons_zero, List.setIfInBounds_toArray, List.set_cons_zero, List.set_cons_succ]
  refine wpAnyH_ready (rs := [7]) (by kernel_rfl) (by simp) ?_
  refine (AllReadyH.cons (o := { dst := some 33, op := Go.Op.call { callee := Go.Callee.value (Go.Operand.func 20), args := #[Go.Operand.tmp 32], argTypes := #[28] }, type := 29, pos := "law.go:40", after := #[{ on := 6, ground := Go.Ground.data }, { on := 5, ground := Go.Ground.chain }, { on := 5, ground := Go.Ground.guard }], guard := some (5, true) }) rfl (fun K hK => ?_) AllReadyH.nil)
  go_simp
  go_at_call 20
  (with_reducible refine (hn1.out _).mono ?_)
  rintro e w6 ⟨v6, rfl, ho6, hBz⟩
  obtain ⟨A6, c6, rfl, hr6⟩ := own_reads ho6
  go_wp2_with (fail)
  refine hK.out _ _ ?_ (fun hHeld => ?_)
  · first | exact ⟨bk_below hBz hHeld.1, bk_below hBz hHeld.2.1, bk_below hBz hHeld.2.2.1, bl_then hHeld.2.2.2 hBz⟩ | exact ⟨bk_drewN hHeld.1 _, bk_drewN hHeld.2.1 _, bk_drewN hHeld.2.2.1 _, bl_drewN hHeld.2.2.2 _⟩
  clear hK K
  try simp only [Act.put, List.getElem_toArray, List.getElem_cons_succ, List.getElem_cons_zero, List.setIfInBounds_toArray, List.set_cons_zero, List.set_cons_succ]
  refine wpAnyH_ready (rs := [9]) (by kernel_rfl) (by simp) ?_
  refine (AllReadyH.cons (o := { dst := some 35, op := Go.Op.call { callee := Go.Callee.value (Go.Operand.func 21), args := #[Go.Operand.tmp 34], argTypes := #[28] }, type := 29, pos := "law.go:40", after := #[{ on := 8, ground := Go.Ground.data }, { on := 7, ground := Go.Ground.chain }, { on := 5, ground := Go.Ground.guard }], guard := some (5, true) }) rfl (fun K hK => ?_) AllReadyH.nil)
  go_simp
  go_at_call 21
  (with_reducible refine (hn2.out _).mono ?_)
  rintro e w7 ⟨v7, rfl, ho7, hBz⟩
  obtain ⟨A7, c7, rfl, hr7⟩ := own_reads ho7
  have hr6' := hr6.below hBz
  go_wp2_with (fail)
  refine hK.out _ _ ?_ (fun hHeld => ?_)
  · first | exact ⟨bk_below hBz hHeld.1, bk_below hBz hHeld.2.1, bk_below hBz hHeld.2.2.1, bl_then hHeld.2.2.2 hBz⟩ | exact ⟨bk_drewN hHeld.1 _, bk_drewN hHeld.2.1 _, bk_drewN hHeld.2.2.1 _, bl_drewN hHeld.2.2.2 _⟩
  clear hK K
  try simp only [Act.put, List.getElem_toArray, List.getElem_cons_succ, List.getElem_cons_zero, List.setIfInBounds_toArray, List.set_cons_zero, List.set_cons_succ]
  refine wpAnyH_ready (rs := [10]) (by kernel_rfl) (by simp) ?_
  refine (AllReadyH.cons (o := { dst := some 36, op := Go.Op.call { callee := Go.Callee.value (Go.Operand.func 19), args := #[Go.Operand.tmp 33, Go.Operand.tmp 35], argTypes := #[29, 29] }, type := 4, pos := "law.go:40", after := #[{ on := 7, ground := Go.Ground.data }, { on := 9, ground := Go.Ground.data }, { on := 9, ground := Go.Ground.chain }, { on := 5, ground := Go.Ground.guard }], guard := some (5, true) }) rfl (fun K hK => ?_) AllReadyH.nil)
  go_simp
  go_at_call 19
  (with_reducible refine (same_any A6 A7 c6 c7 M M _ hr6' hr7 (by omega) (by omega)).mono ?_)
  rintro e w8 ⟨rfl, nd, rfl⟩
  go_wp2_with (fail)
  refine hK.out _ _ ?_ (fun hHeld => ?_)
  · first | exact ⟨bk_below hBz hHeld.1, bk_below hBz hHeld.2.1, bk_below hBz hHeld.2.2.1, bl_then hHeld.2.2.2 hBz⟩ | exact ⟨bk_drewN hHeld.1 _, bk_drewN hHeld.2.1 _, bk_drewN hHeld.2.2.1 _, bl_drewN hHeld.2.2.2 _⟩
  clear hK K
  try simp only [Act.put, List.getElem_toArray, List.getElem_cons_succ, List.getElem_cons_zero, List.setIfInBounds_toArray, List.set_cons_zero, List.set_cons_succ]
  refine wpAnyH_take (i := 11) (oi := { dst := some 37, op := Go.Op.pick (Go.Operand.tmp 31) (Go.Operand.tmp 36) (Go.Operand.const (Go.Value.bool false)), type := 4, pos := "law.go:40", after := #[{ on := 5, ground := Go.Ground.data }, { on := 10, ground := Go.Ground.data }], guard := none }) (v := ?_) rfl (by kernel_rfl) (by kernel_rfl) (by kernel_rfl) (fun _ _ _ h => h) (Or.inl ⟨by rfl, ?_⟩) (by assumption) ?_
  rotate_left 1
  · intro w' hSw
    first | (go_simp; done) | (go_simp; with_reducible rfl)
  try simp only [Act.put, List.getElem_toArray, List.getElem_cons_succ, List.getElem_cons_zero, List.setIfInBounds_toArray, List.set_cons_zero, List.set_cons_succ]
  refine wpAnyH_take (i := 12) (oi := { dst := some 38, op := Go.Op.move (Go.Operand.tmp 37), type := 4, pos := "law.go:40", after := #[{ on := 11, ground := Go.Ground.data }, { on := 10, ground := Go.Ground.chain }], guard := none }) (v := ?_) rfl (by kernel_rfl) (by kernel_rfl) (by kernel_rfl) (fun _ _ _ h => h) (Or.inl ⟨by rfl, ?_⟩) (by assumption) ?_
  rotate_left 1
  · intro w' hSw
    first | (go_simp; done) | (go_simp; with_reducible rfl)
  try simp only [Act.put, List.getElem_toArray, List.getElem_cons_succ, List.getElem_cons_zero, List.setIfInBounds_toArray, List.set_cons_zero, List.set_cons_succ]
  refine wpAnyH_take (i := 13) (oi := { dst := some 39, op := Go.Op.load 28 (Go.Operand.tmp 5), type := 28, pos := "law.go:40", after := #[{ on := 12, ground := Go.Ground.guard }], guard := some (12, true) }) (v := ?_) rfl (by kernel_rfl) (by kernel_rfl) (by kernel_rfl) (fun _ _ _ h => h) (Or.inl ⟨by rfl, ?_⟩) (by assumption) ?_
  rotate_left 1
  · intro w' hSw
    obtain ⟨z0, z1, z2, z3, z4, z5, z6, z7, z8, z9, z10, z11, z12, zf0, zf1, zf2, zf3, zf4, zf5, zf6, zf7, zf8, zf9, zf10, zf11, zf12⟩ := cells13 hSw.2.1
    first | (go_simp; done) | (go_simp; with_reducible rfl)
  try simp only [Act.put, List.getElem_toArray, List.getElem_cons_succ, List.getElem_cons_zero, List.setIfInBounds_toArray, List.set_cons_zero, List.set_cons_succ]
  refine wpAnyH_take (i := 14) (oi := { dst := some 40, op := Go.Op.load 28 (Go.Operand.tmp 7), type := 28, pos := "law.go:40", after := #[{ on := 12, ground := Go.Ground.guard }], guard := some (12, true) }) (v := ?_) rfl (by kernel_rfl) (by kernel_rfl) (by kernel_rfl) (fun _ _ _ h => h) (Or.inl ⟨by rfl, ?_⟩) (by assumption) ?_
  rotate_left 1
  · intro w' hSw
    obtain ⟨z0, z1, z2, z3, z4, z5, z6, z7, z8, z9, z10, z11, z12, zf0, zf1, zf2, zf3, zf4, zf5, zf6, zf7, zf8, zf9, zf10, zf11, zf12⟩ := cells13 hSw.2.2.1
    first | (go_simp; done) | (go_simp; with_reducible rfl)
  try simp only [Act.put, List.getElem_toArray, List.getElem_cons_succ, List.getElem_cons_zero, List.setIfInBounds_toArray, List.set_cons_zero, List.set_cons_succ]
  refine wpAnyH_take (i := 15) (oi := { dst := some 41, op := Go.Op.binOp Go.BinOp.eql 28 (Go.Operand.tmp 39) (Go.Operand.tmp 40) 28, type := 4, pos := "law.go:40", after := #[{ on := 13, ground := Go.Ground.data }, { on := 14, ground := Go.Ground.data }, { on := 12, ground := Go.Ground.guard }], guard := some (12, true) }) (v := ?_) rfl (by kernel_rfl) (by kernel_rfl) (by kernel_rfl) (fun _ _ _ h => h) (Or.inl ⟨by rfl, ?_⟩) (by assumption) ?_
  rotate_left 1
  · intro w' hSw
    first | (go_simp; done) | (go_simp; with_reducible rfl)
  try simp only [Act.put, List.getElem_toArray, List.getElem_cons_succ, List.getElem_cons_zero, List.setIfInBounds_toArray, List.set_cons_zero, List.set_cons_succ]
  refine wpAnyH_take (i := 16) (oi := { dst := some 42, op := Go.Op.pick (Go.Operand.tmp 38) (Go.Operand.tmp 41) (Go.Operand.const (Go.Value.bool false)), type := 4, pos := "law.go:40", after := #[{ on := 12, ground := Go.Ground.data }, { on := 15, ground := Go.Ground.data }], guard := none }) (v := ?_) rfl (by kernel_rfl) (by kernel_rfl) (by kernel_rfl) (fun _ _ _ h => h) (Or.inl ⟨by rfl, ?_⟩) (by assumption) ?_
  rotate_left 1
  · intro w' hSw
    first | (go_simp; done) | (go_simp; with_reducible rfl)
  try simp only [Act.put, List.getElem_toArray, List.getElem_cons_succ, List.getElem_cons_zero, List.setIfInBounds_toArray, List.set_cons_zero, List.set_cons_succ]
  refine wpAnyH_take (i := 17) (oi := { dst := some 43, op := Go.Op.move (Go.Operand.tmp 42), type := 4, pos := "law.go:40", after := #[{ on := 16, ground := Go.Ground.data }, { on := 12, ground := Go.Ground.chain }], guard := none }) (v := ?_) rfl (by kernel_rfl) (by kernel_rfl) (by kernel_rfl) (fun _ _ _ h => h) (Or.inl ⟨by rfl, ?_⟩) (by assumption) ?_
  rotate_left 1
  · intro w' hSw
    first | (go_simp; done) | (go_simp; with_reducible rfl)
  try simp only [Act.put, List.getElem_toArray, List.getElem_cons_succ, List.getElem_cons_zero, List.setIfInBounds_toArray, List.set_cons_zero, List.set_cons_succ]
  refine wpAnyH_take (i := 18) (oi := { dst := some 44, op := Go.Op.move (Go.Operand.tmp 6), type := 31, pos := "law.go:40", after := #[{ on := 17, ground := Go.Ground.guard }], guard := some (17, true) }) (v := ?_) rfl (by kernel_rfl) (by kernel_rfl) (by kernel_rfl) (fun _ _ _ h => h) (Or.inl ⟨by rfl, ?_⟩) (by assumption) ?_
  rotate_left 1
  · intro w' hSw
    first | (go_simp; done) | (go_simp; with_reducible rfl)
  try simp only [Act.put, List.getElem_toArray, List.getElem_cons_succ, List.getElem_cons_zero, List.setIfInBounds_toArray, List.set_cons_zero, List.set_cons_succ]
  refine wpAnyH_take (i := 19) (oi := { dst := some 45, op := Go.Op.move (Go.Operand.tmp 8), type := 3, pos := "law.go:40", after := #[{ on := 17, ground := Go.Ground.guard }], guard := some (17, true) }) (v := ?_) rfl (by kernel_rfl) (by kernel_rfl) (by kernel_rfl) (fun _ _ _ h => h) (Or.inl ⟨by rfl, ?_⟩) (by assumption) ?_
  rotate_left 1
  · intro w' hSw
    first | (go_simp; done) | (go_simp; with_reducible rfl)
  try simp only [Act.put, List.getElem_toArray, List.getElem_cons_succ, List.getElem_cons_zero, List.setIfInBounds_toArray, List.set_cons_zero, List.set_cons_succ]
  refine wpAnyH_take (i := 20) (oi := { dst := some 46, op := Go.Op.binOp Go.BinOp.eql 3 (Go.Operand.tmp 44) (Go.Operand.tmp 45) 3, type := 4, pos := "law.go:40", after := #[{ on := 18, ground := Go.Ground.data }, { on := 19, ground := Go.Ground.data }, { on := 17, ground := Go.Ground.guard }], guard := some (17, true) }) (v := ?_) rfl (by kernel_rfl) (by kernel_rfl) (by kernel_rfl) (fun _ _ _ h => h) (Or.inl ⟨by rfl, ?_⟩) (by assumption) ?_
  rotate_left 1
  · intro w' hSw
    first | (go_simp; done) | (go_simp; with_reducible rfl)
  try simp only [Act.put, List.getElem_toArray, List.getElem_cons_succ, List.getElem_cons_zero, List.setIfInBounds_toArray, List.set_cons_zero, List.set_cons_succ]
  refine wpAnyH_take (i := 21) (oi := { dst := some 47, op := Go.Op.pick (Go.Operand.tmp 43) (Go.Operand.tmp 46) (Go.Operand.const (Go.Value.bool false)), type := 4, pos := "law.go:40", after := #[{ on := 17, ground := Go.Ground.data }, { on := 20, ground := Go.Ground.data }], guard := none }) (v := ?_) rfl (by kernel_rfl) (by kernel_rfl) (by kernel_rfl) (fun _ _ _ h => h) (Or.inl ⟨by rfl, ?_⟩) (by assumption) ?_
  rotate_left 1
  · intro w' hSw
    first | (go_simp; done) | (go_simp; with_reducible rfl)
  try simp only [Act.put, List.getElem_toArray, List.getElem_cons_succ, List.getElem_cons_zero, List.setIfInBounds_toArray, List.set_cons_zero, List.set_cons_succ]
  refine wpAnyH_take (i := 22) (oi := { dst := some 4, op := Go.Op.assign (Go.Operand.tmp 47), type := 4, pos := "law.go:40", after := #[{ on := 21, ground := Go.Ground.data }, { on := 17, ground := Go.Ground.chain }, { on := 0, ground := Go.Ground.phase }, { on := 1, ground := Go.Ground.phase }, { on := 2, ground := Go.Ground.phase }, { on := 3, ground := Go.Ground.phase }, { on := 4, ground := Go.Ground.phase }, { on := 5, ground := Go.Ground.phase }, { on := 6, ground := Go.Ground.phase }, { on := 7, ground := Go.Ground.phase }, { on := 8, ground := Go.Ground.phase }, { on := 9, ground := Go.Ground.phase }, { on := 10, ground := Go.Ground.phase }, { on := 11, ground := Go.Ground.phase }, { on := 12, ground := Go.Ground.phase }, { on := 13, ground := Go.Ground.phase }, { on := 14, ground := Go.Ground.phase }, { on := 15, ground := Go.Ground.phase }, { on := 16, ground := Go.Ground.phase }, { on := 17, ground := Go.Ground.phase }, { on := 18, ground := Go.Ground.phase }, { on := 19, ground := Go.Ground.phase }, { on := 20, ground := Go.Ground.phase }, { on := 21, ground := Go.Ground.phase }], guard := none }) (v := ?_) rfl (by kernel_rfl) (by kernel_rfl) (by kernel_rfl) (fun _ _ _ h => h) (Or.inl ⟨by rfl, ?_⟩) (by assumption) ?_
  rotate_left 1
  · intro w' hSw
    first | (go_simp; done) | (go_simp; with_reducible rfl)
  try simp only [Act.put, List.getElem_toArray, List.getElem_cons_succ, List.getElem_cons_zero, List.setIfInBounds_toArray, List.set_cons_zero, List.set_cons_succ]
  refine wpAnyH_done (by kernel_rfl) ?_ _
  refine NoPanic.normal ?_
  go_wp2
  go_ret
  exact ⟨rfl, hHeld.2.2.2⟩
end Go.Proofs.Ytfcekicjlgdmaaa
