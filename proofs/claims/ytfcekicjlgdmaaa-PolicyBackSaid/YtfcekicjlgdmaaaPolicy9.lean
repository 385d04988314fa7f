/- The walk of PolicyBack. -/
import Derived.Test.YtfcekicjlgdmaaaPolicy8
import Derived.Test.YtfcekicjlgdmaaaRowIn
set_option linter.unusedVariables false
set_option linter.unusedSimpArgs false
set_option maxRecDepth 100000
namespace Go.Proofs.Ytfcekicjlgdmaaa
open Go.RowKit Go.Proofs.YtfcekicjlgdmaaaW.PrintWords
attribute [local go_sem] max2_int min2_int max_two min_two
attribute [local go_sem ↓] eql_nt neq_nt eql_ad net_addr net_bits eql_pol neq_pol

theorem nums_of {l : List Int} (hU : U64 l) (hb : ofB l = true) : polNums (polOf l) = l ∧ rightP (polOf l) = true ∧ ofV l = (polOf l, 0) := by
  have h10 : l.length = 10 := by
    unfold ofB at hb
    simp only [Bool.and_eq_true, decide_eq_true_eq] at hb
    exact hb.1.1
  obtain ⟨a0, a1, a2, a3, a4, a5, a6, a7, a8, a9, rfl⟩ := ten h10
  obtain ⟨⟨l0, m0⟩, ⟨l1, m1⟩, ⟨l2, m2⟩, ⟨l3, m3⟩, ⟨l4, m4⟩, ⟨l5, m5⟩, ⟨l6, m6⟩, ⟨l7, m7⟩, ⟨l8, m8⟩, ⟨l9, m9⟩⟩ := ten_ok hU
  have hx := hb
  rw [ofB_ten, Bool.and_eq_true] at hx
  obtain ⟨hx1, hx2⟩ := hx
  have q5 := of_decide_eq_true hx1
  have hr : rightP (polOf [a0, a1, a2, a3, a4, a5, a6, a7, a8, a9]) = true := hx2
  refine ⟨?_, hr, by unfold ofV; rw [hb, if_pos rfl]⟩
  unfold polNums
  rw [hr, if_pos rfl]
  unfold polOf numN numA
  simp only [List.getD_cons_zero, List.getD_cons_succ]
  have : ((a1 / 16777216 * 256 + a1 / 65536 % 256) * 256 + a1 / 256 % 256) * 256 + a1 % 256 = a1 := by omega
  rw [this]
theorem nums_eq {x y : Pol} (hx : PolOk x) (hy : PolOk y) (h : rightP x = true) (h' : rightP y = true) : decide (polNums x = polNums y) = eqP x y := by
  unfold eqP
  by_cases he : x = y
  · subst he; simp
  · have : polNums x ≠ polNums y := fun hn => he (by
      have e1 := of_nums hx h
      rw [hn, of_nums hy h'] at e1
      exact (Prod.mk.inj e1).1.symm)
    rw [decide_eq_false this, decide_eq_false he]
theorem nums_no {x : Pol} (h : rightP x = false) : polNums x = [] := by unfold polNums; rw [h]; rfl
set_option maxHeartbeats 6400000 in
theorem policyBack_walk (s a b c d n r1 r2 r3 r4 r5 r6 r7 : Int) (hp : (-9223372036854775808 ≤ s ∧ s ≤ 9223372036854775807) ∧ (0 ≤ a ∧ a ≤ 255) ∧ (0 ≤ b ∧ b ≤ 255) ∧ (0 ≤ c ∧ c ≤ 255) ∧ (0 ≤ d ∧ d ≤ 255) ∧ (-9223372036854775808 ≤ n ∧ n ≤ 9223372036854775807) ∧ (0 ≤ r1 ∧ r1 ≤ 18446744073709551615) ∧ (0 ≤ r2 ∧ r2 ≤ 18446744073709551615) ∧ (0 ≤ r3 ∧ r3 ≤ 18446744073709551615) ∧ (0 ≤ r4 ∧ r4 ≤ 18446744073709551615) ∧ (0 ≤ r5 ∧ r5 ≤ 18446744073709551615) ∧ (0 ≤ r6 ∧ r6 ≤ 18446744073709551615) ∧ (0 ≤ r7 ∧ r7 ≤ 18446744073709551615)) (e0 e1 e2 e3 e4 e5 e6 e7 e8 e9 e10 e11 e12 : Int) (hq : (-9223372036854775808 ≤ e0 ∧ e0 ≤ 9223372036854775807) ∧ (0 ≤ e1 ∧ e1 ≤ 255) ∧ (0 ≤ e2 ∧ e2 ≤ 255) ∧ (0 ≤ e3 ∧ e3 ≤ 255) ∧ (0 ≤ e4 ∧ e4 ≤ 255) ∧ (-9223372036854775808 ≤ e5 ∧ e5 ≤ 9223372036854775807) ∧ (0 ≤ e6 ∧ e6 ≤ 18446744073709551615) ∧ (0 ≤ e7 ∧ e7 ≤ 18446744073709551615) ∧ (0 ≤ e8 ∧ e8 ≤ 18446744073709551615) ∧ (0 ≤ e9 ∧ e9 ≤ 18446744073709551615) ∧ (0 ≤ e10 ∧ e10 ≤ 18446744073709551615) ∧ (0 ≤ e11 ∧ e11 ≤ 18446744073709551615) ∧ (0 ≤ e12 ∧ e12 ≤ 18446744073709551615)) (A1 : Option Addr) (len1 cap1 : Nat) (zs1 : List Int) {w : World} (hz1 : IsRow .u64 w A1 len1 cap1 zs1) :
    Calls Try.prog 4 #[.agg #[.int .i64 s, .int .u8 a, .int .u8 b, .int .u8 c, .int .u8 d, .int .i64 n, .int .u64 r1, .int .u64 r2, .int .u64 r3, .int .u64 r4, .int .u64 r5, .int .u64 r6, .int .u64 r7], .agg #[.int .i64 e0, .int .u8 e1, .int .u8 e2, .int .u8 e3, .int .u8 e4, .int .i64 e5, .int .u64 e6, .int .u64 e7, .int .u64 e8, .int .u64 e9, .int .u64 e10, .int .u64 e11, .int .u64 e12], .slice A1 len1 cap1] w fun e w' => e = .returned (.bool true) ∧ Below w.heap.size w w' := by
  obtain ⟨l, rfl, hrl, hml, hwl, hcl⟩ := ReadsInt.ofRowC hz1
  have hcm1 := IsRow.cap_le hz1
  have hl : U64 l := fun x hx => bounds_u64 (hwl x hx)
  have hok : PolOk (s, (a, b, c, d, n), r1, r2, r3, r4, r5, r6, r7) := ⟨hp.1, ⟨⟨hp.2.1, hp.2.2.1, hp.2.2.2.1, hp.2.2.2.2.1⟩, hp.2.2.2.2.2.1⟩, hp.2.2.2.2.2.2⟩
  have hokY : PolOk (e0, (e1, e2, e3, e4, e5), e6, e7, e8, e9, e10, e11, e12) := ⟨hq.1, ⟨⟨hq.2.1, hq.2.2.1, hq.2.2.2.1, hq.2.2.2.2.1⟩, hq.2.2.2.2.2.1⟩, hq.2.2.2.2.2.2⟩
  have hbx : Bk ((w.alloc (.cells #[.int .i64 s, .int .u8 a, .int .u8 b, .int .u8 c, .int .u8 d, .int .i64 n, .int .u64 r1, .int .u64 r2, .int .u64 r3, .int .u64 r4, .int .u64 r5, .int .u64 r6, .int .u64 r7] 28)).alloc (.cells #[.int .i64 e0, .int .u8 e1, .int .u8 e2, .int .u8 e3, .int .u8 e4, .int .i64 e5, .int .u64 e6, .int .u64 e7, .int .u64 e8, .int .u64 e9, .int .u64 e10, .int .u64 e11, .int .u64 e12] 28)) w.heap.size #[.int .i64 s, .int .u8 a, .int .u8 b, .int .u8 c, .int .u8 d, .int .i64 n, .int .u64 r1, .int .u64 r2, .int .u64 r3, .int .u64 r4, .int .u64 r5, .int .u64 r6, .int .u64 r7] 28 := bk_alloc (bk_new w #[.int .i64 s, .int .u8 a, .int .u8 b, .int .u8 c, .int .u8 d, .int .i64 n, .int .u64 r1, .int .u64 r2, .int .u64 r3, .int .u64 r4, .int .u64 r5, .int .u64 r6, .int .u64 r7] 28) _
  have hby : Bk ((w.alloc (.cells #[.int .i64 s, .int .u8 a, .int .u8 b, .int .u8 c, .int .u8 d, .int .i64 n, .int .u64 r1, .int .u64 r2, .int .u64 r3, .int .u64 r4, .int .u64 r5, .int .u64 r6, .int .u64 r7] 28)).alloc (.cells #[.int .i64 e0, .int .u8 e1, .int .u8 e2, .int .u8 e3, .int .u8 e4, .int .i64 e5, .int .u64 e6, .int .u64 e7, .int .u64 e8, .int .u64 e9, .int .u64 e10, .int .u64 e11, .int .u64 e12] 28)) (w.heap.size + 1) #[.int .i64 e0, .int .u8 e1, .int .u8 e2, .int .u8 e3, .int .u8 e4, .int .i64 e5, .int .u64 e6, .int .u64 e7, .int .u64 e8, .int .u64 e9, .int .u64 e10, .int .u64 e11, .int .u64 e12] 28 := bk_at (by simp)
  have hBx := bl_alloc (bl_alloc (Below.refl _ w) (.cells #[.int .i64 s, .int .u8 a, .int .u8 b, .int .u8 c, .int .u8 d, .int .i64 n, .int .u64 r1, .int .u64 r2, .int .u64 r3, .int .u64 r4, .int .u64 r5, .int .u64 r6, .int .u64 r7] 28)) (.cells #[.int .i64 e0, .int .u8 e1, .int .u8 e2, .int .u8 e3, .int .u8 e4, .int .i64 e5, .int .u64 e6, .int .u64 e7, .int .u64 e8, .int .u64 e9, .int .u64 e10, .int .u64 e11, .int .u64 e12] 28)
  have hRl := Lib.hid hrl
  clear hz1 hrl hwl hp hq
  have hr1 := fun w => pright_any (s, (a, b, c, d, n), r1, r2, r3, r4, r5, r6, r7) hok w
  have hr2 := fun w => pright_any (e0, (e1, e2, e3, e4, e5), e6, e7, e8, e9, e10, e11, e12) hokY w
  have hn1 := fun w => pnums_any (s, (a, b, c, d, n), r1, r2, r3, r4, r5, r6, r7) hok w
  have hn2 := fun w => pnums_any (e0, (e1, e2, e3, e4, e5), e6, e7, e8, e9, e10, e11, e12) hokY w
  have hle := polNums_len (s, (a, b, c, d, n), r1, r2, r3, r4, r5, r6, r7)
  have hle2 := polNums_len (e0, (e1, e2, e3, e4, e5), e6, e7, e8, e9, e10, e11, e12)
  have hnu := polNums_u64 hok
  have hofM := fun A cap w hr => pof_any A cap (polNums (s, (a, b, c, d, n), r1, r2, r3, r4, r5, r6, r7)) w hr hnu (by omega)
  have hof := fun A cap w hr => pof_any A cap l w hr hl hml
  have hnn := fun h h' => nums_eq hok hokY h h'
  have hon := fun h => of_nums hok h
  have hno := fun h => nums_no (x := (s, (a, b, c, d, n), r1, r2, r3, r4, r5, r6, r7)) h
  have hlo := fun h => nums_of hl h
  obtain ⟨M, hM⟩ : ∃ M, polNums (s, (a, b, c, d, n), r1, r2, r3, r4, r5, r6, r7) = M := ⟨_, rfl⟩
  obtain ⟨M2, hM2⟩ : ∃ M, polNums (e0, (e1, e2, e3, e4, e5), e6, e7, e8, e9, e10, e11, e12) = M := ⟨_, rfl⟩
  rw [hM] at hn1 hle hnu hofM hnn hon hno
  rw [hM2] at hn2 hle2 hnn
  obtain ⟨rq, hrq⟩ : ∃ v, rightP (e0, (e1, e2, e3, e4, e5), e6, e7, e8, e9, e10, e11, e12) = v := ⟨_, rfl⟩
  rw [hrq] at hr2 hnn
  dsimp only at hr1 hr2 hn1 hn2
  have hEX : eqP (s, (a, b, c, d, n), r1, r2, r3, r4, r5, r6, r7) (s, (a, b, c, d, n), r1, r2, r3, r4, r5, r6, r7) = true := eqP_iff.2 rfl
  have hMl : decide (l = l) = true := decide_eq_true rfl
  replace hn1 := Lib.hid hn1
  replace hn2 := Lib.hid hn2
  replace hbx := Lib.hid hbx
  replace hby := Lib.hid hby
  replace hBx := Lib.hid hBx
  replace hr2 := Lib.hid hr2
  clear hM2 hnu
  by_cases c1 : 100 < (l.length : Int)
  · have d1 : decide ((100 : Int) < (l.length : Int)) = true := decide_eq_true c1
    clear hr1 hofM hof hnn hon hno hlo
    go_enter Try.func4, Try.ntmps4
    go_wp2_with (go_at_call 14; refine (palive_any _).mono ?_; rintro e w0 ⟨rfl, hB0⟩)
    go_ret
    exact ⟨rfl, bl_then hBx.out hB0⟩
  have d1 : decide ((100 : Int) < (l.length : Int)) = false := decide_eq_false c1
  cases hrp : rightP (s, (a, b, c, d, n), r1, r2, r3, r4, r5, r6, r7) with
  | false =>
    have hM0 := hno hrp
    rw [show ofV M = (zeroP, 111) by rw [hM0]; exact of_nil] at hofM
    clear hM0
    rw [hrp] at hr1
    unfold zeroP at hofM
    dsimp only at hofM
    clear hnn hon hno hrp
    replace hr1 := Lib.hid hr1
    replace hofM := Lib.hid hofM
    replace hof := Lib.hid hof
    replace hlo := Lib.hid hlo
    replace hl := Lib.hid hl
    go_enter Try.func4, Try.ntmps4
    go_wp2_with (first | (go_at_call 14; refine (palive_any _).mono ?_; rintro e w0 ⟨rfl, hB0⟩; have hB0' := bl_then hBx.out hB0; have hbx1 := bk_below hB0 hbx.out; have hby1 := bk_below hB0 hby.out; obtain ⟨zx0, zx1, zx2, zx3, zx4, zx5, zx6, zx7, zx8, zx9, zx10, zx11, zx12, zxf0, zxf1, zxf2, zxf3, zxf4, zxf5, zxf6, zxf7, zxf8, zxf9, zxf10, zxf11, zxf12⟩ := cells13 hbx1) | (go_at_call 20; (with_reducible refine (hn1.out _).mono ?_); rintro e w1 ⟨v1, rfl, ho1, hB1⟩; obtain ⟨A3, c3, rfl, hr3⟩ := own_reads ho1) | (go_at_call 15; (with_reducible refine (hofM.out A3 c3 _ hr3).mono ?_); rintro e w2 ⟨rfl, hB2⟩; have hB2' := bl_alloc (bl_then (bl_then hB0' hB1) hB2) (.cells #[.int .i64 0, .int .u8 0, .int .u8 0, .int .u8 0, .int .u8 0, .int .i64 0, .int .u64 0, .int .u64 0, .int .u64 0, .int .u64 0, .int .u64 0, .int .u64 0, .int .u64 0] 28); have hbx2 := bk_alloc (bk_below hB2 (bk_below hB1 hbx1)) (.cells #[.int .i64 0, .int .u8 0, .int .u8 0, .int .u8 0, .int .u8 0, .int .i64 0, .int .u64 0, .int .u64 0, .int .u64 0, .int .u64 0, .int .u64 0, .int .u64 0, .int .u64 0] 28); have hby2 := bk_alloc (bk_below hB2 (bk_below hB1 hby1)) (.cells #[.int .i64 0, .int .u8 0, .int .u8 0, .int .u8 0, .int .u8 0, .int .i64 0, .int .u64 0, .int .u64 0, .int .u64 0, .int .u64 0, .int .u64 0, .int .u64 0, .int .u64 0] 28); have hz2 := bk_new w2 #[.int .i64 0, .int .u8 0, .int .u8 0, .int .u8 0, .int .u8 0, .int .i64 0, .int .u64 0, .int .u64 0, .int .u64 0, .int .u64 0, .int .u64 0, .int .u64 0, .int .u64 0] 28; clear ho1 hr3; obtain ⟨zy0, zy1, zy2, zy3, zy4, zy5, zy6, zy7, zy8, zy9, zy10, zy11, zy12, zyf0, zyf1, zyf2, zyf3, zyf4, zyf5, zyf6, zyf7, zyf8, zyf9, zyf10, zyf11, zyf12⟩ := cells13 hbx2) | (go_at_call 17; (with_reducible refine (hr1.out _).mono ?_); rintro e w3 ⟨rfl, hB3⟩; have hB3' := bl_then hB2' hB3; have hbx3 := bk_below hB3 hbx2; have hby3 := bk_below hB3 hby2; have hz3 := bk_below hB3 hz2; obtain ⟨zw0, zw1, zw2, zw3, zw4, zw5, zw6, zw7, zw8, zw9, zw10, zw11, zw12, zwf0, zwf1, zwf2, zwf3, zwf4, zwf5, zwf6, zwf7, zwf8, zwf9, zwf10, zwf11, zwf12⟩ := cells13 hbx3; obtain ⟨zv0, zv1, zv2, zv3, zv4, zv5, zv6, zv7, zv8, zv9, zv10, zv11, zv12, zvf0, zvf1, zvf2, zvf3, zvf4, zvf5, zvf6, zvf7, zvf8, zvf9, zvf10, zvf11, zvf12⟩ := cells13 hz3; clear hB0 hB1 hB2 hB3))
    replace hB3' := Lib.hid hB3'
    replace hbx3 := Lib.hid hbx3
    replace hby3 := Lib.hid hby3
    clear hbx1 hby1 hbx2 hby2 hz2 hz3 hB0' hB2'
    clear zx0 zx1 zx2 zx3 zx4 zx5 zx6 zx7 zx8 zx9 zx10 zx11 zx12 zxf0 zxf1 zxf2 zxf3 zxf4 zxf5 zxf6 zxf7 zxf8 zxf9 zxf10 zxf11 zxf12 zv0 zv1 zv2 zv3 zv4 zv5 zv6 zv7 zv8 zv9 zv10 zv11 zv12 zvf0 zvf1 zvf2 zvf3 zvf4 zvf5 zvf6 zvf7 zvf8 zvf9 zvf10 zvf11 zvf12 zw0 zw1 zw2 zw3 zw4 zw5 zw6 zw7 zw8 zw9 zw10 zw11 zw12 zwf0 zwf1 zwf2 zwf3 zwf4 zwf5 zwf6 zwf7 zwf8 zwf9 zwf10 zwf11 zwf12 zy0 zy1 zy2 zy3 zy4 zy5 zy6 zy7 zy8 zy9 zy10 zy11 zy12 zyf0 zyf1 zyf2 zyf3 zyf4 zyf5 zyf6 zyf7 zyf8 zyf9 zyf10 zyf11 zyf12
    refine wp_region_noPanic ?_
    refine wp_region_held_drew (S := fun w' => Bk w' w.heap.size #[.int .i64 s, .int .u8 a, .int .u8 b, .int .u8 c, .int .u8 d, .int .i64 n, .int .u64 r1, .int .u64 r2, .int .u64 r3, .int .u64 r4, .int .u64 r5, .int .u64 r6, .int .u64 r7] 28 ∧ Bk w' (w.heap.size + 1) #[.int .i64 e0, .int .u8 e1, .int .u8 e2, .int .u8 e3, .int .u8 e4, .int .i64 e5, .int .u64 e6, .int .u64 e7, .int .u64 e8, .int .u64 e9, .int .u64 e10, .int .u64 e11, .int .u64 e12] 28 ∧ Below w.heap.size w w') (by kernel_rfl) (⟨bk_drew hbx3.out, bk_drew hby3.out, bl_drew hB3'.out⟩) (fun hHeld => ?_)
    refine wpAnyH_take (i := 0) (oi := { dst := some 36, op := Go.Op.load 28 (Go.Operand.tmp 3), type := 28, pos := "law.go:63", after := #[], guard := none }) (v := ?_) rfl (by kernel_rfl) (by kernel_rfl) (by kernel_rfl) (fun _ _ _ h => h) (Or.inl ⟨by rfl, ?_⟩) (by assumption) ?_
    rotate_left 1
    · intro w' hSw
      obtain ⟨zx0, zx1, zx2, zx3, zx4, zx5, zx6, zx7, zx8, zx9, zx10, zx11, zx12, zxf0, zxf1, zxf2, zxf3, zxf4, zxf5, zxf6, zxf7, zxf8, zxf9, zxf10, zxf11, zxf12⟩ := cells13 hSw.1
      first | (go_simp; done) | (go_simp; with_reducible rfl)
    try simp only [Act.put, List.getElem_toArray, List.getElem_cons_succ, List.getElem_cons_zero, List.setIfInBounds_toArray, List.set_cons_zero, List.set_cons_succ]
    refine wpAnyH_ready (rs := [1]) (by kernel_rfl) (by simp) ?_
    refine (AllReadyH.cons (o := { dst := some 37, op := Go.Op.call { callee := Go.Callee.value (Go.Operand.func 17), args := #[Go.Operand.tmp 36], argTypes := #[28] }, type := 4, pos := "law.go:63", after := #[{ on := 0, ground := Go.Ground.data }], guard := none }) rfl (fun K hK => ?_) AllReadyH.nil)
    go_simp
    go_at_call 17
    (with_reducible refine (hr1.out _).mono ?_)
    rintro e w4 ⟨rfl, hBz⟩
    go_wp2_with (fail)
    refine hK.out _ _ ?_ (fun hHeld => ?_)
    · first | exact ⟨bk_below hBz hHeld.1, bk_below hBz hHeld.2.1, bl_then hHeld.2.2 hBz⟩ | exact ⟨bk_drewN hHeld.1 _, bk_drewN hHeld.2.1 _, bl_drewN hHeld.2.2 _⟩
    clear hK K
    try simp only [Act.put, List.getElem_toArray, List.getElem_cons_succ, List.getElem_cons_zero, List.setIfInBounds_toArray, List.set_cons_zero, List.set_cons_succ]
    refine wpAnyH_take (i := 2) (oi := { dst := some 38, op := Go.Op.move (Go.Operand.tmp 37), type := 4, pos := "law.go:63", after := #[{ on := 1, ground := Go.Ground.data }, { on := 1, ground := Go.Ground.chain }], guard := none }) (v := ?_) rfl (by kernel_rfl) (by kernel_rfl) (by kernel_rfl) (fun _ _ _ h => h) (Or.inl ⟨by rfl, ?_⟩) (by assumption) ?_
    rotate_left 1
    · intro w' hSw
      first | (go_simp; done) | (go_simp; with_reducible rfl)
    try simp only [Act.put, List.getElem_toArray, List.getElem_cons_succ, List.getElem_cons_zero, List.setIfInBounds_toArray, List.set_cons_zero, List.set_cons_succ]
    refine wpAnyH_take (i := 3) (oi := { dst := some 39, op := Go.Op.load 28 (Go.Operand.tmp 4), type := 28, pos := "law.go:63", after := #[{ on := 2, ground := Go.Ground.guard }], guard := some (2, true) }) (v := undef) rfl (by kernel_rfl) (by kernel_rfl) (by kernel_rfl) (fun _ _ _ h => h) (Or.inr ⟨by rfl, rfl⟩) (by assumption) ?_
    try simp only [Act.put, List.getElem_toArray, List.getElem_cons_succ, List.getElem_cons_zero, List.setIfInBounds_toArray, List.set_cons_zero, List.set_cons_succ]
    refine wpAnyH_take (i := 4) (oi := { dst := some 40, op := Go.Op.call { callee := Go.Callee.value (Go.Operand.func 17), args := #[Go.Operand.tmp 39], argTypes := #[28] }, type := 4, pos := "law.go:63", after := #[{ on := 3, ground := Go.Ground.data }, { on := 2, ground := Go.Ground.chain }, { on := 2, ground := Go.Ground.guard }], guard := some (2, true) }) (v := undef) rfl (by kernel_rfl) (by kernel_rfl) (by kernel_rfl) (fun _ _ _ h => h) (Or.inr ⟨by rfl, rfl⟩) (by assumption) ?_
    try simp only [Act.put, List.getElem_toArray, List.getElem_cons_succ, List.getElem_cons_zero, List.setIfInBounds_toArray, List.set_cons_zero, List.set_cons_succ]
    refine wpAnyH_take (i := 5) (oi := { dst := some 41, op := Go.Op.pick (Go.Operand.tmp 38) (Go.Operand.tmp 40) (Go.Operand.const (Go.Value.bool false)), type := 4, pos := "law.go:63", after := #[{ on := 2, ground := Go.Ground.data }, { on := 4, ground := Go.Ground.data }], guard := none }) (v := ?_) rfl (by kernel_rfl) (by kernel_rfl) (by kernel_rfl) (fun _ _ _ h => h) (Or.inl ⟨by rfl, ?_⟩) (by assumption) ?_
    rotate_left 1
    · intro w' hSw
      first | (go_simp; done) | (go_simp; with_reducible rfl)
    try simp only [Act.put, List.getElem_toArray, List.getElem_cons_succ, List.getElem_cons_zero, List.setIfInBounds_toArray, List.set_cons_zero, List.set_cons_succ]
    refine wpAnyH_take (i := 6) (oi := { dst := some 42, op := Go.Op.move (Go.Operand.tmp 41), type := 4, pos := "law.go:63", after := #[{ on := 5, ground := Go.Ground.data }, { on := 4, ground := Go.Ground.chain }], guard := none }) (v := ?_) rfl (by kernel_rfl) (by kernel_rfl) (by kernel_rfl) (fun _ _ _ h => h) (Or.inl ⟨by rfl, ?_⟩) (by assumption) ?_
    rotate_left 1
    · intro w' hSw
      first | (go_simp; done) | (go_simp; with_reducible rfl)
    try simp only [Act.put, List.getElem_toArray, List.getElem_cons_succ, List.getElem_cons_zero, List.setIfInBounds_toArray, List.set_cons_zero, List.set_cons_succ]
    refine wpAnyH_take (i := 7) (oi := { dst := some 43, op := Go.Op.load 28 (Go.Operand.tmp 3), type := 28, pos := "law.go:63", after := #[{ on := 6, ground := Go.Ground.guard }], guard := some (6, true) }) (v := undef) rfl (by kernel_rfl) (by kernel_rfl) (by kernel_rfl) (fun _ _ _ h => h) (Or.inr ⟨by rfl, rfl⟩) (by assumption) ?_
    try simp only [Act.put, List.getElem_toArray, List.getElem_cons_succ, List.getElem_cons_zero, List.setIfInBounds_toArray, List.set_cons_zero, List.set_cons_succ]
    refine wpAnyH_take (i := 8) (oi := { dst := some 44, op := Go.Op.load 28 (Go.Operand.tmp 4), type := 28, pos := "law.go:63", after := #[{ on := 6, ground := Go.Ground.guard }], guard := some (6, true) }) (v := undef) rfl (by kernel_rfl) (by kernel_rfl) (by kernel_rfl) (fun _ _ _ h => h) (Or.inr ⟨by rfl, rfl⟩) (by assumption) ?_
    try simp only [Act.put, List.getElem_toArray, List.getElem_cons_succ, List.getElem_cons_zero, List.setIfInBounds_toArray, List.set_cons_zero, List.set_cons_succ]
    refine wpAnyH_take (i := 9) (oi := { dst := some 45, op := Go.Op.binOp Go.BinOp.eql 28 (Go.Operand.tmp 43) (Go.Operand.tmp 44) 28, type := 4, pos := "law.go:63", after := #[{ on := 7, ground := Go.Ground.data }, { on := 8, ground := Go.Ground.data }, { on := 6, ground := Go.Ground.guard }], guard := some (6, true) }) (v := undef) rfl (by kernel_rfl) (by kernel_rfl) (by kernel_rfl) (fun _ _ _ h => h) (Or.inr ⟨by rfl, rfl⟩) (by assumption) ?_
    try simp only [Act.put, List.getElem_toArray, List.getElem_cons_succ, List.getElem_cons_zero, List.setIfInBounds_toArray, List.set_cons_zero, List.set_cons_succ]
    refine wpAnyH_take (i := 10) (oi := { dst := some 46, op := Go.Op.load 28 (Go.Operand.tmp 3), type := 28, pos := "law.go:63", after := #[{ on := 6, ground := Go.Ground.guard }], guard := some (6, true) }) (v := undef) rfl (by kernel_rfl) (by kernel_rfl) (by kernel_rfl) (fun _ _ _ h => h) (Or.inr ⟨by rfl, rfl⟩) (by assumption) ?_
    try simp only [Act.put, List.getElem_toArray, List.getElem_cons_succ, List.getElem_cons_zero, List.setIfInBounds_toArray, List.set_cons_zero, List.set_cons_succ]
    refine wpAnyH_take (i := 11) (oi := { dst := some 47, op := Go.Op.call { callee := Go.Callee.value (Go.Operand.func 20), args := #[Go.Operand.tmp 46], argTypes := #[28] }, type := 29, pos := "law.go:63", after := #[{ on := 10, ground := Go.Ground.data }, { on := 6, ground := Go.Ground.chain }, { on := 6, ground := Go.Ground.guard }], guard := some (6, true) }) (v := undef) rfl (by kernel_rfl) (by kernel_rfl) (by kernel_rfl) (fun _ _ _ h => h) (Or.inr ⟨by rfl, rfl⟩) (by assumption) ?_
    try simp only [Act.put, List.getElem_toArray, List.getElem_cons_succ, List.getElem_cons_zero, List.setIfInBounds_toArray, List.set_cons_zero, List.set_cons_succ]
    refine wpAnyH_take (i := 12) (oi := { dst := some 48, op := Go.Op.load 28 (Go.Operand.tmp 4), type := 28, pos := "law.go:63", after := #[{ on := 6, ground := Go.Ground.guard }], guard := some (6, true) }) (v := undef) rfl (by kernel_rfl) (by kernel_rfl) (by kernel_rfl) (fun _ _ _ h => h) (Or.inr ⟨by rfl, rfl⟩) (by assumption) ?_
    try simp only [Act.put, List.getElem_toArray, List.getElem_cons_succ, List.getElem_cons_zero, List.setIfInBounds_toArray, List.set_cons_zero, List.set_cons_succ]
    refine wpAnyH_take (i := 13) (oi := { dst := some 49, op := Go.Op.call { callee := Go.Callee.value (Go.Operand.func 20), args := #[Go.Operand.tmp 48], argTypes := #[28] }, type := 29, pos := "law.go:63", after := #[{ on := 12, ground := Go.Ground.data }, { on := 11, ground := Go.Ground.chain }, { on := 6, ground := Go.Ground.guard }], guard := some (6, true) }) (v := undef) rfl (by kernel_rfl) (by kernel_rfl) (by kernel_rfl) (fun _ _ _ h => h) (Or.inr ⟨by rfl, rfl⟩) (by assumption) ?_
    try simp only [Act.put, List.getElem_toArray, List.getElem_cons_succ, List.getElem_cons_zero, List.setIfInBounds_toArray, List.set_cons_zero, List.set_cons_succ]
    refine wpAnyH_take (i := 14) (oi := { dst := some 50, op := Go.Op.call { callee := Go.Callee.value (Go.Operand.func 19), args := #[Go.Operand.tmp 47, Go.Operand.tmp 49], argTypes := #[29, 29] }, type := 4, pos := "law.go:63", after := #[{ on := 11, ground := Go.Ground.data }, { on := 13, ground := Go.Ground.data }, { on := 13, ground := Go.Ground.chain }, { on := 6, ground := Go.Ground.guard }], guard := some (6, true) }) (v := undef) rfl (by kernel_rfl) (by kernel_rfl) (by kernel_rfl) (fun _ _ _ h => h) (Or.inr ⟨by rfl, rfl⟩) (by assumption) ?_
    try simp only [Act.put, List.getElem_toArray, List.getElem_cons_succ, List.getElem_cons_zero, List.setIfInBounds_toArray, List.set_cons_zero, List.set_cons_succ]
    refine wpAnyH_take (i := 15) (oi := { dst := some 51, op := Go.Op.binOp Go.BinOp.neq 4 (Go.Operand.tmp 45) (Go.Operand.tmp 50) 4, type := 4, pos := "law.go:63", after := #[{ on := 9, ground := Go.Ground.data }, { on := 14, ground := Go.Ground.data }, { on := 6, ground := Go.Ground.guard }], guard := some (6, true) }) (v := undef) rfl (by kernel_rfl) (by kernel_rfl) (by kernel_rfl) (fun _ _ _ h => h) (Or.inr ⟨by rfl, rfl⟩) (by assumption) ?_
    try simp only [Act.put, List.getElem_toArray, List.getElem_cons_succ, List.getElem_cons_zero, List.setIfInBounds_toArray, List.set_cons_zero, List.set_cons_succ]
    refine wpAnyH_take (i := 16) (oi := { dst := some 52, op := Go.Op.pick (Go.Operand.tmp 42) (Go.Operand.tmp 51) (Go.Operand.const (Go.Value.bool false)), type := 4, pos := "law.go:63", after := #[{ on := 6, ground := Go.Ground.data }, { on := 15, ground := Go.Ground.data }], guard := none }) (v := ?_) rfl (by kernel_rfl) (by kernel_rfl) (by kernel_rfl) (fun _ _ _ h => h) (Or.inl ⟨by rfl, ?_⟩) (by assumption) ?_
    rotate_left 1
    · intro w' hSw
      first | (go_simp; done) | (go_simp; with_reducible rfl)
    try simp only [Act.put, List.getElem_toArray, List.getElem_cons_succ, List.getElem_cons_zero, List.setIfInBounds_toArray, List.set_cons_zero, List.set_cons_succ]
    refine wpAnyH_done (by kernel_rfl) ?_ _
    refine NoPanic.normal ?_
    have hRf := Lib.hid (hRl.out.below hHeld.2.2)
    have hBf := Lib.hid hHeld.2.2
    clear hHeld
    cases hb : ofB l with
    | false =>
      have hVl : ofV l = (zeroP, 111) := by unfold ofV; rw [hb, if_neg Bool.false_ne_true]
      have hof2 := hof.out
      rw [hVl] at hof2
      unfold zeroP at hof2
      dsimp only at hof2
      replace hof2 := Lib.hid hof2
      clear hVl hb
      go_wp2_with (go_at_call 15; (with_reducible refine (hof2.out A1 cap1 _ hRf.out).mono ?_); rintro e w9 ⟨rfl, hB9⟩)
      go_ret
      exact ⟨rfl, bl_alloc (bl_then hBf.out hB9) _⟩
    | true =>
      obtain ⟨hln, hlr, hVl⟩ := hlo.out hb
      have hof2 := hof.out
      rw [hVl] at hof2
      have hqok := ofV_ok hl.out
      rw [hVl] at hqok
      dsimp only at hqok
      obtain ⟨X', hX'⟩ : ∃ X', polOf l = X' := ⟨_, rfl⟩
      rw [hX'] at hof2 hqok hln hlr
      clear hX' hVl hb
      obtain ⟨q0, ⟨q1, q2, q3, q4, q5⟩, q6, q7, q8, q9, q10, q11, q12⟩ := X'
      have hr5 := fun w => pright_any (q0, (q1, q2, q3, q4, q5), q6, q7, q8, q9, q10, q11, q12) hqok w
      have hn5 := fun w => pnums_any (q0, (q1, q2, q3, q4, q5), q6, q7, q8, q9, q10, q11, q12) hqok w
      rw [hlr] at hr5
      rw [hln] at hn5
      dsimp only at hr5 hn5 hof2
      replace hof2 := Lib.hid hof2
      replace hr5 := Lib.hid hr5
      replace hn5 := Lib.hid hn5
      clear hln hlr hqok
      go_wp2_with (first | (go_at_call 15; (with_reducible refine (hof2.out A1 cap1 _ hRf.out).mono ?_); rintro e w9 ⟨rfl, hB9⟩; have hz9 := bk_new w9 #[.int .i64 q0, .int .u8 q1, .int .u8 q2, .int .u8 q3, .int .u8 q4, .int .i64 q5, .int .u64 q6, .int .u64 q7, .int .u64 q8, .int .u64 q9, .int .u64 q10, .int .u64 q11, .int .u64 q12] 28; have hB9' := bl_alloc hB9 (.cells #[.int .i64 q0, .int .u8 q1, .int .u8 q2, .int .u8 q3, .int .u8 q4, .int .i64 q5, .int .u64 q6, .int .u64 q7, .int .u64 q8, .int .u64 q9, .int .u64 q10, .int .u64 q11, .int .u64 q12] 28); have hR9 := (hRf.out.below hB9'); obtain ⟨zx0, zx1, zx2, zx3, zx4, zx5, zx6, zx7, zx8, zx9, zx10, zx11, zx12, zxf0, zxf1, zxf2, zxf3, zxf4, zxf5, zxf6, zxf7, zxf8, zxf9, zxf10, zxf11, zxf12⟩ := cells13 hz9) | (go_at_call 17; (with_reducible refine (hr5.out _).mono ?_); rintro e w10 ⟨rfl, hB10⟩; have hz10 := bk_below hB10 hz9; have hR10 := hR9.below hB10; obtain ⟨zy0, zy1, zy2, zy3, zy4, zy5, zy6, zy7, zy8, zy9, zy10, zy11, zy12, zyf0, zyf1, zyf2, zyf3, zyf4, zyf5, zyf6, zyf7, zyf8, zyf9, zyf10, zyf11, zyf12⟩ := cells13 hz10) | (go_at_call 20; (with_reducible refine (hn5.out _).mono ?_); rintro e w11 ⟨v11, rfl, ho11, hB11⟩; obtain ⟨A11, c11, rfl, hr11⟩ := own_reads ho11; have hR11 := hR10.below hB11) | (go_at_call 19; (with_reducible refine (same_any A11 A1 c11 cap1 l l _ hr11 hR11 (by omega) (by omega)).mono ?_); rintro e w12 ⟨rfl, nd, rfl⟩))
      go_ret
      exact ⟨rfl, bl_drewN (bl_then (bl_then (bl_then hBf.out hB9') hB10) hB11) _⟩
  | true =>
    rw [hon hrp] at hofM
    rw [hrp] at hr1
    dsimp only at hofM
    have hnn2 := hnn hrp
    clear hnn hon hno hrp
    replace hr1 := Lib.hid hr1
    replace hofM := Lib.hid hofM
    replace hof := Lib.hid hof
    replace hlo := Lib.hid hlo
    replace hl := Lib.hid hl
    cases rq with
    | false =>
      clear hnn2
      go_enter Try.func4, Try.ntmps4
      go_wp2_with (first | (go_at_call 14; refine (palive_any _).mono ?_; rintro e w0 ⟨rfl, hB0⟩; have hB0' := bl_then hBx.out hB0; have hbx1 := bk_below hB0 hbx.out; have hby1 := bk_below hB0 hby.out; obtain ⟨zx0, zx1, zx2, zx3, zx4, zx5, zx6, zx7, zx8, zx9, zx10, zx11, zx12, zxf0, zxf1, zxf2, zxf3, zxf4, zxf5, zxf6, zxf7, zxf8, zxf9, zxf10, zxf11, zxf12⟩ := cells13 hbx1) | (go_at_call 20; (with_reducible refine (hn1.out _).mono ?_); rintro e w1 ⟨v1, rfl, ho1, hB1⟩; obtain ⟨A3, c3, rfl, hr3⟩ := own_reads ho1) | (go_at_call 15; (with_reducible refine (hofM.out A3 c3 _ hr3).mono ?_); rintro e w2 ⟨rfl, hB2⟩; have hB2' := bl_alloc (bl_then (bl_then hB0' hB1) hB2) (.cells #[.int .i64 s, .int .u8 a, .int .u8 b, .int .u8 c, .int .u8 d, .int .i64 n, .int .u64 r1, .int .u64 r2, .int .u64 r3, .int .u64 r4, .int .u64 r5, .int .u64 r6, .int .u64 r7] 28); have hbx2 := bk_alloc (bk_below hB2 (bk_below hB1 hbx1)) (.cells #[.int .i64 s, .int .u8 a, .int .u8 b, .int .u8 c, .int .u8 d, .int .i64 n, .int .u64 r1, .int .u64 r2, .int .u64 r3, .int .u64 r4, .int .u64 r5, .int .u64 r6, .int .u64 r7] 28); have hby2 := bk_alloc (bk_below hB2 (bk_below hB1 hby1)) (.cells #[.int .i64 s, .int .u8 a, .int .u8 b, .int .u8 c, .int .u8 d, .int .i64 n, .int .u64 r1, .int .u64 r2, .int .u64 r3, .int .u64 r4, .int .u64 r5, .int .u64 r6, .int .u64 r7] 28); have hz2 := bk_new w2 #[.int .i64 s, .int .u8 a, .int .u8 b, .int .u8 c, .int .u8 d, .int .i64 n, .int .u64 r1, .int .u64 r2, .int .u64 r3, .int .u64 r4, .int .u64 r5, .int .u64 r6, .int .u64 r7] 28; clear ho1 hr3; obtain ⟨zy0, zy1, zy2, zy3, zy4, zy5, zy6, zy7, zy8, zy9, zy10, zy11, zy12, zyf0, zyf1, zyf2, zyf3, zyf4, zyf5, zyf6, zyf7, zyf8, zyf9, zyf10, zyf11, zyf12⟩ := cells13 hbx2) | (go_at_call 17; (with_reducible refine (hr1.out _).mono ?_); rintro e w3 ⟨rfl, hB3⟩; have hB3' := bl_then hB2' hB3; have hbx3 := bk_below hB3 hbx2; have hby3 := bk_below hB3 hby2; have hz3 := bk_below hB3 hz2; obtain ⟨zw0, zw1, zw2, zw3, zw4, zw5, zw6, zw7, zw8, zw9, zw10, zw11, zw12, zwf0, zwf1, zwf2, zwf3, zwf4, zwf5, zwf6, zwf7, zwf8, zwf9, zwf10, zwf11, zwf12⟩ := cells13 hbx3; obtain ⟨zv0, zv1, zv2, zv3, zv4, zv5, zv6, zv7, zv8, zv9, zv10, zv11, zv12, zvf0, zvf1, zvf2, zvf3, zvf4, zvf5, zvf6, zvf7, zvf8, zvf9, zvf10, zvf11, zvf12⟩ := cells13 hz3; clear hB0 hB1 hB2 hB3))
      replace hB3' := Lib.hid hB3'
      replace hbx3 := Lib.hid hbx3
      replace hby3 := Lib.hid hby3
      clear hbx1 hby1 hbx2 hby2 hz2 hz3 hB0' hB2'
      clear zx0 zx1 zx2 zx3 zx4 zx5 zx6 zx7 zx8 zx9 zx10 zx11 zx12 zxf0 zxf1 zxf2 zxf3 zxf4 zxf5 zxf6 zxf7 zxf8 zxf9 zxf10 zxf11 zxf12 zv0 zv1 zv2 zv3 zv4 zv5 zv6 zv7 zv8 zv9 zv10 zv11 zv12 zvf0 zvf1 zvf2 zvf3 zvf4 zvf5 zvf6 zvf7 zvf8 zvf9 zvf10 zvf11 zvf12 zw0 zw1 zw2 zw3 zw4 zw5 zw6 zw7 zw8 zw9 zw10 zw11 zw12 zwf0 zwf1 zwf2 zwf3 zwf4 zwf5 zwf6 zwf7 zwf8 zwf9 zwf10 zwf11 zwf12 zy0 zy1 zy2 zy3 zy4 zy5 zy6 zy7 zy8 zy9 zy10 zy11 zy12 zyf0 zyf1 zyf2 zyf3 zyf4 zyf5 zyf6 zyf7 zyf8 zyf9 zyf10 zyf11 zyf12
      refine wp_region_noPanic ?_
      refine wp_region_held_drew (S := fun w' => Bk w' w.heap.size #[.int .i64 s, .int .u8 a, .int .u8 b, .int .u8 c, .int .u8 d, .int .i64 n, .int .u64 r1, .int .u64 r2, .int .u64 r3, .int .u64 r4, .int .u64 r5, .int .u64 r6, .int .u64 r7] 28 ∧ Bk w' (w.heap.size + 1) #[.int .i64 e0, .int .u8 e1, .int .u8 e2, .int .u8 e3, .int .u8 e4, .int .i64 e5, .int .u64 e6, .int .u64 e7, .int .u64 e8, .int .u64 e9, .int .u64 e10, .int .u64 e11, .int .u64 e12] 28 ∧ Below w.heap.size w w') (by kernel_rfl) (⟨bk_drew hbx3.out, bk_drew hby3.out, bl_drew hB3'.out⟩) (fun hHeld => ?_)
      refine wpAnyH_take (i := 0) (oi := { dst := some 36, op := Go.Op.load 28 (Go.Operand.tmp 3), type := 28, pos := "law.go:63", after := #[], guard := none }) (v := ?_) rfl (by kernel_rfl) (by kernel_rfl) (by kernel_rfl) (fun _ _ _ h => h) (Or.inl ⟨by rfl, ?_⟩) (by assumption) ?_
      rotate_left 1
      · intro w' hSw
        obtain ⟨zx0, zx1, zx2, zx3, zx4, zx5, zx6, zx7, zx8, zx9, zx10, zx11, zx12, zxf0, zxf1, zxf2, zxf3, zxf4, zxf5, zxf6, zxf7, zxf8, zxf9, zxf10, zxf11, zxf12⟩ := cells13 hSw.1
        first | (go_simp; done) | (go_simp; with_reducible rfl)
      try simp only [Act.put, List.getElem_toArray, List.getElem_cons_succ, List.getElem_cons_zero, List.setIfInBounds_toArray, List.set_cons_zero, List.set_cons_succ]
      refine wpAnyH_ready (rs := [1]) (by kernel_rfl) (by simp) ?_
      refine (AllReadyH.cons (o := { dst := some 37, op := Go.Op.call { callee := Go.Callee.value (Go.Operand.func 17), args := #[Go.Operand.tmp 36], argTypes := #[28] }, type := 4, pos := "law.go:63", after := #[{ on := 0, ground := Go.Ground.data }], guard := none }) rfl (fun K hK => ?_) AllReadyH.nil)
      go_simp
      go_at_call 17
      (with_reducible refine (hr1.out _).mono ?_)
      rintro e w4 ⟨rfl, hBz⟩
      go_wp2_with (fail)
      refine hK.out _ _ ?_ (fun hHeld => ?_)
      · first | exact ⟨bk_below hBz hHeld.1, bk_below hBz hHeld.2.1, bl_then hHeld.2.2 hBz⟩ | exact ⟨bk_drewN hHeld.1 _, bk_drewN hHeld.2.1 _, bl_drewN hHeld.2.2 _⟩
      clear hK K
      try simp only [Act.put, List.getElem_toArray, List.getElem_cons_succ, List.getElem_cons_zero, List.setIfInBounds_toArray, List.set_cons_zero, List.set_cons_succ]
      refine wpAnyH_take (i := 2) (oi := { dst := some 38, op := Go.Op.move (Go.Operand.tmp 37), type := 4, pos := "law.go:63", after := #[{ on := 1, ground := Go.Ground.data }, { on := 1, ground := Go.Ground.chain }], guard := none }) (v := ?_) rfl (by kernel_rfl) (by kernel_rfl) (by kernel_rfl) (fun _ _ _ h => h) (Or.inl ⟨by rfl, ?_⟩) (by assumption) ?_
      rotate_left 1
      · intro w' hSw
        first | (go_simp; done) | (go_simp; with_reducible rfl)
      try simp only [Act.put, List.getElem_toArray, List.getElem_cons_succ, List.getElem_cons_zero, List.setIfInBounds_toArray, List.set_cons_zero, List.set_cons_succ]
      refine wpAnyH_take (i := 3) (oi := { dst := some 39, op := Go.Op.load 28 (Go.Operand.tmp 4), type := 28, pos := "law.go:63", after := #[{ on := 2, ground := Go.Ground.guard }], guard := some (2, true) }) (v := ?_) rfl (by kernel_rfl) (by kernel_rfl) (by kernel_rfl) (fun _ _ _ h => h) (Or.inl ⟨by rfl, ?_⟩) (by assumption) ?_
      rotate_left 1
      · intro w' hSw
        obtain ⟨zx0, zx1, zx2, zx3, zx4, zx5, zx6, zx7, zx8, zx9, zx10, zx11, zx12, zxf0, zxf1, zxf2, zxf3, zxf4, zxf5, zxf6, zxf7, zxf8, zxf9, zxf10, zxf11, zxf12⟩ := cells13 hSw.2.1
        first | (go_simp; done) | (go_simp; with_reducible rfl)
      try simp only [Act.put, List.getElem_toArray, List.getElem_cons_succ, List.getElem_cons_zero, List.setIfInBounds_toArray, List.set_cons_zero, List.set_cons_succ]
      refine wpAnyH_ready (rs := [4]) (by kernel_rfl) (by simp) ?_
      refine (AllReadyH.cons (o := { dst := some 40, op := Go.Op.call { callee := Go.Callee.value (Go.Operand.func 17), args := #[Go.Operand.tmp 39], argTypes := #[28] }, type := 4, pos := "law.go:63", after := #[{ on := 3, ground := Go.Ground.data }, { on := 2, ground := Go.Ground.chain }, { on := 2, ground := Go.Ground.guard }], guard := some (2, true) }) rfl (fun K hK => ?_) AllReadyH.nil)
      go_simp
      go_at_call 17
      (with_reducible refine (hr2.out _).mono ?_)
      rintro e w5 ⟨rfl, hBz⟩
      go_wp2_with (fail)
      refine hK.out _ _ ?_ (fun hHeld => ?_)
      · first | exact ⟨bk_below hBz hHeld.1, bk_below hBz hHeld.2.1, bl_then hHeld.2.2 hBz⟩ | exact ⟨bk_drewN hHeld.1 _, bk_drewN hHeld.2.1 _, bl_drewN hHeld.2.2 _⟩
      clear hK K
      try simp only [Act.put, List.getElem_toArray, List.getElem_cons_succ, List.getElem_cons_zero, List.setIfInBounds_toArray, List.set_cons_zero, List.set_cons_succ]
      refine wpAnyH_take (i := 5) (oi := { dst := some 41, op := Go.Op.pick (Go.Operand.tmp 38) (Go.Operand.tmp 40) (Go.Operand.const (Go.Value.bool false)), type := 4, pos := "law.go:63", after := #[{ on := 2, ground := Go.Ground.data }, { on := 4, ground := Go.Ground.data }], guard := none }) (v := ?_) rfl (by kernel_rfl) (by kernel_rfl) (by kernel_rfl) (fun _ _ _ h => h) (Or.inl ⟨by rfl, ?_⟩) (by assumption) ?_
      rotate_left 1
      · intro w' hSw
        first | (go_simp; done) | (go_simp; with_reducible rfl)
      try simp only [Act.put, List.getElem_toArray, List.getElem_cons_succ, List.getElem_cons_zero, List.setIfInBounds_toArray, List.set_cons_zero, List.set_cons_succ]
      refine wpAnyH_take (i := 6) (oi := { dst := some 42, op := Go.Op.move (Go.Operand.tmp 41), type := 4, pos := "law.go:63", after := #[{ on := 5, ground := Go.Ground.data }, { on := 4, ground := Go.Ground.chain }], guard := none }) (v := ?_) rfl (by kernel_rfl) (by kernel_rfl) (by kernel_rfl) (fun _ _ _ h => h) (Or.inl ⟨by rfl, ?_⟩) (by assumption) ?_
      rotate_left 1
      · intro w' hSw
        first | (go_simp; done) | (go_simp; with_reducible rfl)
      try simp only [Act.put, List.getElem_toArray, List.getElem_cons_succ, List.getElem_cons_zero, List.setIfInBounds_toArray, List.set_cons_zero, List.set_cons_succ]
      refine wpAnyH_take (i := 7) (oi := { dst := some 43, op := Go.Op.load 28 (Go.Operand.tmp 3), type := 28, pos := "law.go:63", after := #[{ on := 6, ground := Go.Ground.guard }], guard := some (6, true) }) (v := undef) rfl (by kernel_rfl) (by kernel_rfl) (by kernel_rfl) (fun _ _ _ h => h) (Or.inr ⟨by rfl, rfl⟩) (by assumption) ?_
      try simp only [Act.put, List.getElem_toArray, List.getElem_cons_succ, List.getElem_cons_zero, List.setIfInBounds_toArray, List.set_cons_zero, List.set_cons_succ]
      refine wpAnyH_take (i := 8) (oi := { dst := some 44, op := Go.Op.load 28 (Go.Operand.tmp 4), type := 28, pos := "law.go:63", after := #[{ on := 6, ground := Go.Ground.guard }], guard := some (6, true) }) (v := undef) rfl (by kernel_rfl) (by kernel_rfl) (by kernel_rfl) (fun _ _ _ h => h) (Or.inr ⟨by rfl, rfl⟩) (by assumption) ?_
      try simp only [Act.put, List.getElem_toArray, List.getElem_cons_succ, List.getElem_cons_zero, List.setIfInBounds_toArray, List.set_cons_zero, List.set_cons_succ]
      refine wpAnyH_take (i := 9) (oi := { dst := some 45, op := Go.Op.binOp Go.BinOp.eql 28 (Go.Operand.tmp 43) (Go.Operand.tmp 44) 28, type := 4, pos := "law.go:63", after := #[{ on := 7, ground := Go.Ground.data }, { on := 8, ground := Go.Ground.data }, { on := 6, ground := Go.Ground.guard }], guard := some (6, true) }) (v := undef) rfl (by kernel_rfl) (by kernel_rfl) (by kernel_rfl) (fun _ _ _ h => h) (Or.inr ⟨by rfl, rfl⟩) (by assumption) ?_
      try simp only [Act.put, List.getElem_toArray, List.getElem_cons_succ, List.getElem_cons_zero, List.setIfInBounds_toArray, List.set_cons_zero, List.set_cons_succ]
      refine wpAnyH_take (i := 10) (oi := { dst := some 46, op := Go.Op.load 28 (Go.Operand.tmp 3), type := 28, pos := "law.go:63", after := #[{ on := 6, ground := Go.Ground.guard }], guard := some (6, true) }) (v := undef) rfl (by kernel_rfl) (by kernel_rfl) (by kernel_rfl) (fun _ _ _ h => h) (Or.inr ⟨by rfl, rfl⟩) (by assumption) ?_
      try simp only [Act.put, List.getElem_toArray, List.getElem_cons_succ, List.getElem_cons_zero, List.setIfInBounds_toArray, List.set_cons_zero, List.set_cons_succ]
      refine wpAnyH_take (i := 11) (oi := { dst := some 47, op := Go.Op.call { callee := Go.Callee.value (Go.Operand.func 20), args := #[Go.Operand.tmp 46], argTypes := #[28] }, type := 29, pos := "law.go:63", after := #[{ on := 10, ground := Go.Ground.data }, { on := 6, ground := Go.Ground.chain }, { on := 6, ground := Go.Ground.guard }], guard := some (6, true) }) (v := undef) rfl (by kernel_rfl) (by kernel_rfl) (by kernel_rfl) (fun _ _ _ h => h) (Or.inr ⟨by rfl, rfl⟩) (by assumption) ?_
      try simp only [Act.put, List.getElem_toArray, List.getElem_cons_succ, List.getElem_cons_zero, List.setIfInBounds_toArray, List.set_cons_zero, List.set_cons_succ]
      refine wpAnyH_take (i := 12) (oi := { dst := some 48, op := Go.Op.load 28 (Go.Operand.tmp 4), type := 28, pos := "law.go:63", after := #[{ on := 6, ground := Go.Ground.guard }], guard := some (6, true) }) (v := undef) rfl (by kernel_rfl) (by kernel_rfl) (by kernel_rfl) (fun _ _ _ h => h) (Or.inr ⟨by rfl, rfl⟩) (by assumption) ?_
      try simp only [Act.put, List.getElem_toArray, List.getElem_cons_succ, List.getElem_cons_zero, List.setIfInBounds_toArray, List.set_cons_zero, List.set_cons_succ]
      refine wpAnyH_take (i := 13) (oi := { dst := some 49, op := Go.Op.call { callee := Go.Callee.value (Go.Operand.func 20), args := #[Go.Operand.tmp 48], argTypes := #[28] }, type := 29, pos := "law.go:63", after := #[{ on := 12, ground := Go.Ground.data }, { on := 11, ground := Go.Ground.chain }, { on := 6, ground := Go.Ground.guard }], guard := some (6, true) }) (v := undef) rfl (by kernel_rfl) (by kernel_rfl) (by kernel_rfl) (fun _ _ _ h => h) (Or.inr ⟨by rfl, rfl⟩) (by assumption) ?_
      try simp only [Act.put, List.getElem_toArray, List.getElem_cons_succ, List.getElem_cons_zero, List.setIfInBounds_toArray, List.set_cons_zero, List.set_cons_succ]
      refine wpAnyH_take (i := 14) (oi := { dst := some 50, op := Go.Op.call { callee := Go.Callee.value (Go.Operand.func 19), args := #[Go.Operand.tmp 47, Go.Operand.tmp 49], argTypes := #[29, 29] }, type := 4, pos := "law.go:63", after := #[{ on := 11, ground := Go.Ground.data }, { on := 13, ground := Go.Ground.data }, { on := 13, ground := Go.Ground.chain }, { on := 6, ground := Go.Ground.guard }], guard := some (6, true) }) (v := undef) rfl (by kernel_rfl) (by kernel_rfl) (by kernel_rfl) (fun _ _ _ h => h) (Or.inr ⟨by rfl, rfl⟩) (by assumption) ?_
      try simp only [Act.put, List.getElem_toArray, List.getElem_cons_succ, List.getElem_cons_zero, List.setIfInBounds_toArray, List.set_cons_zero, List.set_cons_succ]
      refine wpAnyH_take (i := 15) (oi := { dst := some 51, op := Go.Op.binOp Go.BinOp.neq 4 (Go.Operand.tmp 45) (Go.Operand.tmp 50) 4, type := 4, pos := "law.go:63", after := #[{ on := 9, ground := Go.Ground.data }, { on := 14, ground := Go.Ground.data }, { on := 6, ground := Go.Ground.guard }], guard := some (6, true) }) (v := undef) rfl (by kernel_rfl) (by kernel_rfl) (by kernel_rfl) (fun _ _ _ h => h) (Or.inr ⟨by rfl, rfl⟩) (by assumption) ?_
      try simp only [Act.put, List.getElem_toArray, List.getElem_cons_succ, List.getElem_cons_zero, List.setIfInBounds_toArray, List.set_cons_zero, List.set_cons_succ]
      refine wpAnyH_take (i := 16) (oi := { dst := some 52, op := Go.Op.pick (Go.Operand.tmp 42) (Go.Operand.tmp 51) (Go.Operand.const (Go.Value.bool false)), type := 4, pos := "law.go:63", after := #[{ on := 6, ground := Go.Ground.data }, { on := 15, ground := Go.Ground.data }], guard := none }) (v := ?_) rfl (by kernel_rfl) (by kernel_rfl) (by kernel_rfl) (fun _ _ _ h => h) (Or.inl ⟨by rfl, ?_⟩) (by assumption) ?_
      rotate_left 1
      · intro w' hSw
        first | (go_simp; done) | (go_simp; with_reducible rfl)
      try simp only [Act.put, List.getElem_toArray, List.getElem_cons_succ, List.getElem_cons_zero, List.setIfInBounds_toArray, List.set_cons_zero, List.set_cons_succ]
      refine wpAnyH_done (by kernel_rfl) ?_ _
      refine NoPanic.normal ?_
      have hRf := Lib.hid (hRl.out.below hHeld.2.2)
      have hBf := Lib.hid hHeld.2.2
      clear hHeld
      cases hb : ofB l with
      | false =>
        have hVl : ofV l = (zeroP, 111) := by unfold ofV; rw [hb, if_neg Bool.false_ne_true]
        have hof2 := hof.out
        rw [hVl] at hof2
        unfold zeroP at hof2
        dsimp only at hof2
        replace hof2 := Lib.hid hof2
        clear hVl hb
        go_wp2_with (go_at_call 15; (with_reducible refine (hof2.out A1 cap1 _ hRf.out).mono ?_); rintro e w9 ⟨rfl, hB9⟩)
        go_ret
        exact ⟨rfl, bl_alloc (bl_then hBf.out hB9) _⟩
      | true =>
        obtain ⟨hln, hlr, hVl⟩ := hlo.out hb
        have hof2 := hof.out
        rw [hVl] at hof2
        have hqok := ofV_ok hl.out
        rw [hVl] at hqok
        dsimp only at hqok
        obtain ⟨X', hX'⟩ : ∃ X', polOf l = X' := ⟨_, rfl⟩
        rw [hX'] at hof2 hqok hln hlr
        clear hX' hVl hb
        obtain ⟨q0, ⟨q1, q2, q3, q4, q5⟩, q6, q7, q8, q9, q10, q11, q12⟩ := X'
        have hr5 := fun w => pright_any (q0, (q1, q2, q3, q4, q5), q6, q7, q8, q9, q10, q11, q12) hqok w
        have hn5 := fun w => pnums_any (q0, (q1, q2, q3, q4, q5), q6, q7, q8, q9, q10, q11, q12) hqok w
        rw [hlr] at hr5
        rw [hln] at hn5
        dsimp only at hr5 hn5 hof2
        replace hof2 := Lib.hid hof2
        replace hr5 := Lib.hid hr5
        replace hn5 := Lib.hid hn5
        clear hln hlr hqok
        go_wp2_with (first | (go_at_call 15; (with_reducible refine (hof2.out A1 cap1 _ hRf.out).mono ?_); rintro e w9 ⟨rfl, hB9⟩; have hz9 := bk_new w9 #[.int .i64 q0, .int .u8 q1, .int .u8 q2, .int .u8 q3, .int .u8 q4, .int .i64 q5, .int .u64 q6, .int .u64 q7, .int .u64 q8, .int .u64 q9, .int .u64 q10, .int .u64 q11, .int .u64 q12] 28; have hB9' := bl_alloc hB9 (.cells #[.int .i64 q0, .int .u8 q1, .int .u8 q2, .int .u8 q3, .int .u8 q4, .int .i64 q5, .int .u64 q6, .int .u64 q7, .int .u64 q8, .int .u64 q9, .int .u64 q10, .int .u64 q11, .int .u64 q12] 28); have hR9 := (hRf.out.below hB9'); obtain ⟨zx0, zx1, zx2, zx3, zx4, zx5, zx6, zx7, zx8, zx9, zx10, zx11, zx12, zxf0, zxf1, zxf2, zxf3, zxf4, zxf5, zxf6, zxf7, zxf8, zxf9, zxf10, zxf11, zxf12⟩ := cells13 hz9) | (go_at_call 17; (with_reducible refine (hr5.out _).mono ?_); rintro e w10 ⟨rfl, hB10⟩; have hz10 := bk_below hB10 hz9; have hR10 := hR9.below hB10; obtain ⟨zy0, zy1, zy2, zy3, zy4, zy5, zy6, zy7, zy8, zy9, zy10, zy11, zy12, zyf0, zyf1, zyf2, zyf3, zyf4, zyf5, zyf6, zyf7, zyf8, zyf9, zyf10, zyf11, zyf12⟩ := cells13 hz10) | (go_at_call 20; (with_reducible refine (hn5.out _).mono ?_); rintro e w11 ⟨v11, rfl, ho11, hB11⟩; obtain ⟨A11, c11, rfl, hr11⟩ := own_reads ho11; have hR11 := hR10.below hB11) | (go_at_call 19; (with_reducible refine (same_any A11 A1 c11 cap1 l l _ hr11 hR11 (by omega) (by omega)).mono ?_); rintro e w12 ⟨rfl, nd, rfl⟩))
        go_ret
        exact ⟨rfl, bl_drewN (bl_then (bl_then (bl_then hBf.out hB9') hB10) hB11) _⟩
    | true =>
      have hnn3 := hnn2 rfl
      obtain ⟨u, hu⟩ : ∃ u, eqP (s, (a, b, c, d, n), r1, r2, r3, r4, r5, r6, r7) (e0, (e1, e2, e3, e4, e5), e6, e7, e8, e9, e10, e11, e12) = u := ⟨_, rfl⟩
      rw [hu] at hnn3
      have huu : (u == u) = true := beq_self_eq_true u
      clear hnn2
      go_enter Try.func4, Try.ntmps4
      go_wp2_with (first | (go_at_call 14; refine (palive_any _).mono ?_; rintro e w0 ⟨rfl, hB0⟩; have hB0' := bl_then hBx.out hB0; have hbx1 := bk_below hB0 hbx.out; have hby1 := bk_below hB0 hby.out; obtain ⟨zx0, zx1, zx2, zx3, zx4, zx5, zx6, zx7, zx8, zx9, zx10, zx11, zx12, zxf0, zxf1, zxf2, zxf3, zxf4, zxf5, zxf6, zxf7, zxf8, zxf9, zxf10, zxf11, zxf12⟩ := cells13 hbx1) | (go_at_call 20; (with_reducible refine (hn1.out _).mono ?_); rintro e w1 ⟨v1, rfl, ho1, hB1⟩; obtain ⟨A3, c3, rfl, hr3⟩ := own_reads ho1) | (go_at_call 15; (with_reducible refine (hofM.out A3 c3 _ hr3).mono ?_); rintro e w2 ⟨rfl, hB2⟩; have hB2' := bl_alloc (bl_then (bl_then hB0' hB1) hB2) (.cells #[.int .i64 s, .int .u8 a, .int .u8 b, .int .u8 c, .int .u8 d, .int .i64 n, .int .u64 r1, .int .u64 r2, .int .u64 r3, .int .u64 r4, .int .u64 r5, .int .u64 r6, .int .u64 r7] 28); have hbx2 := bk_alloc (bk_below hB2 (bk_below hB1 hbx1)) (.cells #[.int .i64 s, .int .u8 a, .int .u8 b, .int .u8 c, .int .u8 d, .int .i64 n, .int .u64 r1, .int .u64 r2, .int .u64 r3, .int .u64 r4, .int .u64 r5, .int .u64 r6, .int .u64 r7] 28); have hby2 := bk_alloc (bk_below hB2 (bk_below hB1 hby1)) (.cells #[.int .i64 s, .int .u8 a, .int .u8 b, .int .u8 c, .int .u8 d, .int .i64 n, .int .u64 r1, .int .u64 r2, .int .u64 r3, .int .u64 r4, .int .u64 r5, .int .u64 r6, .int .u64 r7] 28); have hz2 := bk_new w2 #[.int .i64 s, .int .u8 a, .int .u8 b, .int .u8 c, .int .u8 d, .int .i64 n, .int .u64 r1, .int .u64 r2, .int .u64 r3, .int .u64 r4, .int .u64 r5, .int .u64 r6, .int .u64 r7] 28; clear ho1 hr3; obtain ⟨zy0, zy1, zy2, zy3, zy4, zy5, zy6, zy7, zy8, zy9, zy10, zy11, zy12, zyf0, zyf1, zyf2, zyf3, zyf4, zyf5, zyf6, zyf7, zyf8, zyf9, zyf10, zyf11, zyf12⟩ := cells13 hbx2) | (go_at_call 17; (with_reducible refine (hr1.out _).mono ?_); rintro e w3 ⟨rfl, hB3⟩; have hB3' := bl_then hB2' hB3; have hbx3 := bk_below hB3 hbx2; have hby3 := bk_below hB3 hby2; have hz3 := bk_below hB3 hz2; obtain ⟨zw0, zw1, zw2, zw3, zw4, zw5, zw6, zw7, zw8, zw9, zw10, zw11, zw12, zwf0, zwf1, zwf2, zwf3, zwf4, zwf5, zwf6, zwf7, zwf8, zwf9, zwf10, zwf11, zwf12⟩ := cells13 hbx3; obtain ⟨zv0, zv1, zv2, zv3, zv4, zv5, zv6, zv7, zv8, zv9, zv10, zv11, zv12, zvf0, zvf1, zvf2, zvf3, zvf4, zvf5, zvf6, zvf7, zvf8, zvf9, zvf10, zvf11, zvf12⟩ := cells13 hz3; clear hB0 hB1 hB2 hB3))
      replace hB3' := Lib.hid hB3'
      replace hbx3 := Lib.hid hbx3
      replace hby3 := Lib.hid hby3
      clear hbx1 hby1 hbx2 hby2 hz2 hz3 hB0' hB2'
      clear zx0 zx1 zx2 zx3 zx4 zx5 zx6 zx7 zx8 zx9 zx10 zx11 zx12 zxf0 zxf1 zxf2 zxf3 zxf4 zxf5 zxf6 zxf7 zxf8 zxf9 zxf10 zxf11 zxf12 zv0 zv1 zv2 zv3 zv4 zv5 zv6 zv7 zv8 zv9 zv10 zv11 zv12 zvf0 zvf1 zvf2 zvf3 zvf4 zvf5 zvf6 zvf7 zvf8 zvf9 zvf10 zvf11 zvf12 zw0 zw1 zw2 zw3 zw4 zw5 zw6 zw7 zw8 zw9 zw10 zw11 zw12 zwf0 zwf1 zwf2 zwf3 zwf4 zwf5 zwf6 zwf7 zwf8 zwf9 zwf10 zwf11 zwf12 zy0 zy1 zy2 zy3 zy4 zy5 zy6 zy7 zy8 zy9 zy10 zy11 zy12 zyf0 zyf1 zyf2 zyf3 zyf4 zyf5 zyf6 zyf7 zyf8 zyf9 zyf10 zyf11 zyf12
      refine wp_region_noPanic ?_
      refine wp_region_held_drew (S := fun w' => Bk w' w.heap.size #[.int .i64 s, .int .u8 a, .int .u8 b, .int .u8 c, .int .u8 d, .int .i64 n, .int .u64 r1, .int .u64 r2, .int .u64 r3, .int .u64 r4, .int .u64 r5, .int .u64 r6, .int .u64 r7] 28 ∧ Bk w' (w.heap.size + 1) #[.int .i64 e0, .int .u8 e1, .int .u8 e2, .int .u8 e3, .int .u8 e4, .int .i64 e5, .int .u64 e6, .int .u64 e7, .int .u64 e8, .int .u64 e9, .int .u64 e10, .int .u64 e11, .int .u64 e12] 28 ∧ Below w.heap.size w w') (by kernel_rfl) (⟨bk_drew hbx3.out, bk_drew hby3.out, bl_drew hB3'.out⟩) (fun hHeld => ?_)
      refine wpAnyH_take (i := 0) (oi := { dst := some 36, op := Go.Op.load 28 (Go.Operand.tmp 3), type := 28, pos := "law.go:63", after := #[], guard := none }) (v := ?_) rfl (by kernel_rfl) (by kernel_rfl) (by kernel_rfl) (fun _ _ _ h => h) (Or.inl ⟨by rfl, ?_⟩) (by assumption) ?_
      rotate_left 1
      · intro w' hSw
        obtain ⟨zx0, zx1, zx2, zx3, zx4, zx5, zx6, zx7, zx8, zx9, zx10, zx11, zx12, zxf0, zxf1, zxf2, zxf3, zxf4, zxf5, zxf6, zxf7, zxf8, zxf9, zxf10, zxf11, zxf12⟩ := cells13 hSw.1
        first | (go_simp; done) | (go_simp; with_reducible rfl)
      try simp only [Act.put, List.getElem_toArray, List.getElem_cons_succ, List.getElem_cons_zero, List.setIfInBounds_toArray, List.set_cons_zero, List.set_cons_succ]
      refine wpAnyH_ready (rs := [1]) (by kernel_rfl) (by simp) ?_
      refine (AllReadyH.cons (o := { dst := some 37, op := Go.Op.call { callee := Go.Callee.value (Go.Operand.func 17), args := #[Go.Operand.tmp 36], argTypes := #[28] }, type := 4, pos := "law.go:63", after := #[{ on := 0, ground := Go.Ground.data }], guard := none }) rfl (fun K hK => ?_) AllReadyH.nil)
      go_simp
      go_at_call 17
      (with_reducible refine (hr1.out _).mono ?_)
      rintro e w4 ⟨rfl, hBz⟩
      go_wp2_with (fail)
      refine hK.out _ _ ?_ (fun hHeld => ?_)
      · first | exact ⟨bk_below hBz hHeld.1, bk_below hBz hHeld.2.1, bl_then hHeld.2.2 hBz⟩ | exact ⟨bk_drewN hHeld.1 _, bk_drewN hHeld.2.1 _, bl_drewN hHeld.2.2 _⟩
      clear hK K
      try simp only [Act.put, List.getElem_toArray, List.getElem_cons_succ, List.getElem_cons_zero, List.setIfInBounds_toArray, List.set_cons_zero, List.set_cons_succ]
      refine wpAnyH_take (i := 2) (oi := { dst := some 38, op := Go.Op.move (Go.Operand.tmp 37), type := 4, pos := "law.go:63", after := #[{ on := 1, ground := Go.Ground.data }, { on := 1, ground := Go.Ground.chain }], guard := none }) (v := ?_) rfl (by kernel_rfl) (by kernel_rfl) (by kernel_rfl) (fun _ _ _ h => h) (Or.inl ⟨by rfl, ?_⟩) (by assumption) ?_
      rotate_left 1
      · intro w' hSw
        first | (go_simp; done) | (go_simp; with_reducible rfl)
      try simp only [Act.put, List.getElem_toArray, List.getElem_cons_succ, List.getElem_cons_zero, List.setIfInBounds_toArray, List.set_cons_zero, List.set_cons_succ]
      refine wpAnyH_take (i := 3) (oi := { dst := some 39, op := Go.Op.load 28 (Go.Operand.tmp 4), type := 28, pos := "law.go:63", after := #[{ on := 2, ground := Go.Ground.guard }], guard := some (2, true) }) (v := ?_) rfl (by kernel_rfl) (by kernel_rfl) (by kernel_rfl) (fun _ _ _ h => h) (Or.inl ⟨by rfl, ?_⟩) (by assumption) ?_
      rotate_left 1
      · intro w' hSw
        obtain ⟨zx0, zx1, zx2, zx3, zx4, zx5, zx6, zx7, zx8, zx9, zx10, zx11, zx12, zxf0, zxf1, zxf2, zxf3, zxf4, zxf5, zxf6, zxf7, zxf8, zxf9, zxf10, zxf11, zxf12⟩ := cells13 hSw.2.1
        first | (go_simp; done) | (go_simp; with_reducible rfl)
      try simp only [Act.put, List.getElem_toArray, List.getElem_cons_succ, List.getElem_cons_zero, List.setIfInBounds_toArray, List.set_cons_zero, List.set_cons_succ]
      refine wpAnyH_ready (rs := [4]) (by kernel_rfl) (by simp) ?_
      refine (AllReadyH.cons (o := { dst := some 40, op := Go.Op.call { callee := Go.Callee.value (Go.Operand.func 17), args := #[Go.Operand.tmp 39], argTypes := #[28] }, type := 4, pos := "law.go:63", after := #[{ on := 3, ground := Go.Ground.data }, { on := 2, ground := Go.Ground.chain }, { on := 2, ground := Go.Ground.guard }], guard := some (2, true) }) rfl (fun K hK => ?_) AllReadyH.nil)
      go_simp
      go_at_call 17
      (with_reducible refine (hr2.out _).mono ?_)
      rintro e w5 ⟨rfl, hBz⟩
      go_wp2_with (fail)
      refine hK.out _ _ ?_ (fun hHeld => ?_)
      · first | exact ⟨bk_below hBz hHeld.1, bk_below hBz hHeld.2.1, bl_then hHeld.2.2 hBz⟩ | exact ⟨bk_drewN hHeld.1 _, bk_drewN hHeld.2.1 _, bl_drewN hHeld.2.2 _⟩
      clear hK K
      try simp only [Act.put, List.getElem_toArray, List.getElem_cons_succ, List.getElem_cons_zero, List.setIfInBounds_toArray, List.set_cons_zero, List.set_cons_succ]
      refine wpAnyH_take (i := 5) (oi := { dst := some 41, op := Go.Op.pick (Go.Operand.tmp 38) (Go.Operand.tmp 40) (Go.Operand.const (Go.Value.bool false)), type := 4, pos := "law.go:63", after := #[{ on := 2, ground := Go.Ground.data }, { on := 4, ground := Go.Ground.data }], guard := none }) (v := ?_) rfl (by kernel_rfl) (by kernel_rfl) (by kernel_rfl) (fun _ _ _ h => h) (Or.inl ⟨by rfl, ?_⟩) (by assumption) ?_
      rotate_left 1
      · intro w' hSw
        first | (go_simp; done) | (go_simp; with_reducible rfl)
      try simp only [Act.put, List.getElem_toArray, List.getElem_cons_succ, List.getElem_cons_zero, List.setIfInBounds_toArray, List.set_cons_zero, List.set_cons_succ]
      refine wpAnyH_take (i := 6) (oi := { dst := some 42, op := Go.Op.move (Go.Operand.tmp 41), type := 4, pos := "law.go:63", after := #[{ on := 5, ground := Go.Ground.data }, { on := 4, ground := Go.Ground.chain }], guard := none }) (v := ?_) rfl (by kernel_rfl) (by kernel_rfl) (by kernel_rfl) (fun _ _ _ h => h) (Or.inl ⟨by rfl, ?_⟩) (by assumption) ?_
      rotate_left 1
      · intro w' hSw
        first | (go_simp; done) | (go_simp; with_reducible rfl)
      try simp only [Act.put, List.getElem_toArray, List.getElem_cons_succ, List.getElem_cons_zero, List.setIfInBounds_toArray, List.set_cons_zero, List.set_cons_succ]
      refine wpAnyH_take (i := 7) (oi := { dst := some 43, op := Go.Op.load 28 (Go.Operand.tmp 3), type := 28, pos := "law.go:63", after := #[{ on := 6, ground := Go.Ground.guard }], guard := some (6, true) }) (v := ?_) rfl (by kernel_rfl) (by kernel_rfl) (by kernel_rfl) (fun _ _ _ h => h) (Or.inl ⟨by rfl, ?_⟩) (by assumption) ?_
      rotate_left 1
      · intro w' hSw
        obtain ⟨zx0, zx1, zx2, zx3, zx4, zx5, zx6, zx7, zx8, zx9, zx10, zx11, zx12, zxf0, zxf1, zxf2, zxf3, zxf4, zxf5, zxf6, zxf7, zxf8, zxf9, zxf10, zxf11, zxf12⟩ := cells13 hSw.1
        first | (go_simp; done) | (go_simp; with_reducible rfl)
      try simp only [Act.put, List.getElem_toArray, List.getElem_cons_succ, List.getElem_cons_zero, List.setIfInBounds_toArray, List.set_cons_zero, List.set_cons_succ]
      refine wpAnyH_take (i := 8) (oi := { dst := some 44, op := Go.Op.load 28 (Go.Operand.tmp 4), type := 28, pos := "law.go:63", after := #[{ on := 6, ground := Go.Ground.guard }], guard := some (6, true) }) (v := ?_) rfl (by kernel_rfl) (by kernel_rfl) (by kernel_rfl) (fun _ _ _ h => h) (Or.inl ⟨by rfl, ?_⟩) (by assumption) ?_
      rotate_left 1
      · intro w' hSw
        obtain ⟨zx0, zx1, zx2, zx3, zx4, zx5, zx6, zx7, zx8, zx9, zx10, zx11, zx12, zxf0, zxf1, zxf2, zxf3, zxf4, zxf5, zxf6, zxf7, zxf8, zxf9, zxf10, zxf11, zxf12⟩ := cells13 hSw.2.1
        first | (go_simp; done) | (go_simp; with_reducible rfl)
      try simp only [Act.put, List.getElem_toArray, List.getElem_cons_succ, List.getElem_cons_zero, List.setIfInBounds_toArray, List.set_cons_zero, List.set_cons_succ]
      refine wpAnyH_take (i := 9) (oi := { dst := some 45, op := Go.Op.binOp Go.BinOp.eql 28 (Go.Operand.tmp 43) (Go.Operand.tmp 44) 28, type := 4, pos := "law.go:63", after := #[{ on := 7, ground := Go.Ground.data }, { on := 8, ground := Go.Ground.data }, { on := 6, ground := Go.Ground.guard }], guard := some (6, true) }) (v := ?_) rfl (by kernel_rfl) (by kernel_rfl) (by kernel_rfl) (fun _ _ _ h => h) (Or.inl ⟨by rfl, ?_⟩) (by assumption) ?_
      rotate_left 1
      · intro w' hSw
        first | (go_simp; done) | (go_simp; with_reducible rfl)
      try simp only [Act.put, List.getElem_toArray, List.getElem_cons_succ, List.getElem_cons_zero, List.setIfInBounds_toArray, List.set_cons_zero, List.set_cons_succ]
      refine wpAnyH_take (i := 10) (oi := { dst := some 46, op := Go.Op.load 28 (Go.Operand.tmp 3), type := 28, pos := "law.go:63", after := #[{ on := 6, ground := Go.Ground.guard }], guard := some (6, true) }) (v := ?_) rfl (by kernel_rfl) (by kernel_rfl) (by kernel_rfl) (fun _ _ _ h => h) (Or.inl ⟨by rfl, ?_⟩) (by assumption) ?_
      rotate_left 1
      · intro w' hSw
        obtain ⟨zx0, zx1, zx2, zx3, zx4, zx5, zx6, zx7, zx8, zx9, zx10, zx11, zx12, zxf0, zxf1, zxf2, zxf3, zxf4, zxf5, zxf6, zxf7, zxf8, zxf9, zxf10, zxf11, zxf12⟩ := cells13 hSw.1
        first | (go_simp; done) | (go_simp; with_reducible rfl)
      try simp only [Act.put, List.getElem_toArray, List.getElem_cons_succ, List.getElem_cons_zero, List.setIfInBounds_toArray, List.set_cons_zero, List.set_cons_succ]
      refine wpAnyH_take (i := 12) (oi := { dst := some 48, op := Go.Op.load 28 (Go.Operand.tmp 4), type := 28, pos := "law.go:63", after := #[{ on := 6, ground := Go.Ground.guard }], guard := some (6, true) }) (v := ?_) rfl (by kernel_rfl) (by kernel_rfl) (by kernel_rfl) (fun _ _ _ h => h) (Or.inl ⟨by rfl, ?_⟩) (by assumption) ?_
      rotate_left 1
      · intro w' hSw
        obtain ⟨zx0, zx1, zx2, zx3, zx4, zx5, zx6, zx7, zx8, zx9, zx10, zx11, zx12, zxf0, zxf1, zxf2, zxf3, zxf4, zxf5, zxf6, zxf7, zxf8, zxf9, zxf10, zxf11, zxf12⟩ := cells13 hSw.2.1
        first | (go_simp; done) | (go_simp; with_reducible rfl)
      try simp only [Act.put, List.getElem_toArray, List.getElem_cons_succ, List.getElem_cons_zero, List.setIfInBounds_toArray, List.set_cons_zero, List.set_cons_succ]
      refine wpAnyH_ready (rs := [11]) (by kernel_rfl) (by simp) ?_
      refine (AllReadyH.cons (o := { dst := some 47, op := Go.Op.call { callee := Go.Callee.value (Go.Operand.func 20), args := #[Go.Operand.tmp 46], argTypes := #[28] }, type := 29, pos := "law.go:63", after := #[{ on := 10, ground := Go.Ground.data }, { on := 6, ground := Go.Ground.chain }, { on := 6, ground := Go.Ground.guard }], guard := some (6, true) }) rfl (fun K hK => ?_) AllReadyH.nil)
      go_simp
      go_at_call 20
      (with_reducible refine (hn1.out _).mono ?_)
      rintro e w6 ⟨v6, rfl, ho6, hBz⟩
      obtain ⟨A6, c6, rfl, hr6⟩ := own_reads ho6
      go_wp2_with (fail)
      refine hK.out _ _ ?_ (fun hHeld => ?_)
      · first | exact ⟨bk_below hBz hHeld.1, bk_below hBz hHeld.2.1, bl_then hHeld.2.2 hBz⟩ | exact ⟨bk_drewN hHeld.1 _, bk_drewN hHeld.2.1 _, bl_drewN hHeld.2.2 _⟩
      clear hK K
      try simp only [Act.put, List.getElem_toArray, List.getElem_cons_succ, List.getElem_cons_zero, List.setIfInBounds_toArray, List.set_cons_zero, List.set_cons_succ]
      refine wpAnyH_ready (rs := [13]) (by kernel_rfl) (by simp) ?_
      refine (AllReadyH.cons (o := { dst := some 49, op := Go.Op.call { callee := Go.Callee.value (Go.Operand.func 20), args := #[Go.Operand.tmp 48], argTypes := #[28] }, type := 29, pos := "law.go:63", after := #[{ on := 12, ground := Go.Ground.data }, { on := 11, ground := Go.Ground.chain }, { on := 6, ground := Go.Ground.guard }], guard := some (6, true) }) rfl (fun K hK => ?_) AllReadyH.nil)
      go_simp
      go_at_call 20
      (with_reducible refine (hn2.out _).mono ?_)
      rintro e w7 ⟨v7, rfl, ho7, hBz⟩
      obtain ⟨A7, c7, rfl, hr7⟩ := own_reads ho7
      have hr6' := hr6.below hBz
      go_wp2_with (fail)
      refine hK.out _ _ ?_ (fun hHeld => ?_)
      · first | exact ⟨bk_below hBz hHeld.1, bk_below hBz hHeld.2.1, bl_then hHeld.2.2 hBz⟩ | exact ⟨bk_drewN hHeld.1 _, bk_drewN hHeld.2.1 _, bl_drewN hHeld.2.2 _⟩
      clear hK K
      try simp only [Act.put, List.getElem_toArray, List.getElem_cons_succ, List.getElem_cons_zero, List.setIfInBounds_toArray, List.set_cons_zero, List.set_cons_succ]
      refine wpAnyH_ready (rs := [14]) (by kernel_rfl) (by simp) ?_
      refine (AllReadyH.cons (o := { dst := some 50, op := Go.Op.call { callee := Go.Callee.value (Go.Operand.func 19), args := #[Go.Operand.tmp 47, Go.Operand.tmp 49], argTypes := #[29, 29] }, type := 4, pos := "law.go:63", after := #[{ on := 11, ground := Go.Ground.data }, { on := 13, ground := Go.Ground.data }, { on := 13, ground := Go.Ground.chain }, { on := 6, ground := Go.Ground.guard }], guard := some (6, true) }) rfl (fun K hK => ?_) AllReadyH.nil)
      go_simp
      go_at_call 19
      (with_reducible refine (same_any A6 A7 c6 c7 M M2 _ hr6' hr7 (by omega) (by omega)).mono ?_)
      rintro e w8 ⟨rfl, nd, rfl⟩
      go_wp2_with (fail)
      refine hK.out _ _ ?_ (fun hHeld => ?_)
      · first | exact ⟨bk_below hBz hHeld.1, bk_below hBz hHeld.2.1, bl_then hHeld.2.2 hBz⟩ | exact ⟨bk_drewN hHeld.1 _, bk_drewN hHeld.2.1 _, bl_drewN hHeld.2.2 _⟩
      clear hK K
      try simp only [Act.put, List.getElem_toArray, List.getElem_cons_succ, List.getElem_cons_zero, List.setIfInBounds_toArray, List.set_cons_zero, List.set_cons_succ]
      refine wpAnyH_take (i := 15) (oi := { dst := some 51, op := Go.Op.binOp Go.BinOp.neq 4 (Go.Operand.tmp 45) (Go.Operand.tmp 50) 4, type := 4, pos := "law.go:63", after := #[{ on := 9, ground := Go.Ground.data }, { on := 14, ground := Go.Ground.data }, { on := 6, ground := Go.Ground.guard }], guard := some (6, true) }) (v := ?_) rfl (by kernel_rfl) (by kernel_rfl) (by kernel_rfl) (fun _ _ _ h => h) (Or.inl ⟨by rfl, ?_⟩) (by assumption) ?_
      rotate_left 1
      · intro w' hSw
        first | (go_simp; done) | (go_simp; with_reducible rfl)
      try simp only [Act.put, List.getElem_toArray, List.getElem_cons_succ, List.getElem_cons_zero, List.setIfInBounds_toArray, List.set_cons_zero, List.set_cons_succ]
      refine wpAnyH_take (i := 16) (oi := { dst := some 52, op := Go.Op.pick (Go.Operand.tmp 42) (Go.Operand.tmp 51) (Go.Operand.const (Go.Value.bool false)), type := 4, pos := "law.go:63", after := #[{ on := 6, ground := Go.Ground.data }, { on := 15, ground := Go.Ground.data }], guard := none }) (v := ?_) rfl (by kernel_rfl) (by kernel_rfl) (by kernel_rfl) (fun _ _ _ h => h) (Or.inl ⟨by rfl, ?_⟩) (by assumption) ?_
      rotate_left 1
      · intro w' hSw
        first | (go_simp; done) | (go_simp; with_reducible rfl)
      try simp only [Act.put, List.getElem_toArray, List.getElem_cons_succ, List.getElem_cons_zero, List.setIfInBounds_toArray, List.set_cons_zero, List.set_cons_succ]
      refine wpAnyH_done (by kernel_rfl) ?_ _
      refine NoPanic.normal ?_
      have hRf := Lib.hid (hRl.out.below hHeld.2.2)
      have hBf := Lib.hid hHeld.2.2
      clear hHeld
      cases hb : ofB l with
      | false =>
        have hVl : ofV l = (zeroP, 111) := by unfold ofV; rw [hb, if_neg Bool.false_ne_true]
        have hof2 := hof.out
        rw [hVl] at hof2
        unfold zeroP at hof2
        dsimp only at hof2
        replace hof2 := Lib.hid hof2
        clear hVl hb
        go_wp2_with (go_at_call 15; (with_reducible refine (hof2.out A1 cap1 _ hRf.out).mono ?_); rintro e w9 ⟨rfl, hB9⟩)
        go_ret
        exact ⟨rfl, bl_alloc (bl_then hBf.out hB9) _⟩
      | true =>
        obtain ⟨hln, hlr, hVl⟩ := hlo.out hb
        have hof2 := hof.out
        rw [hVl] at hof2
        have hqok := ofV_ok hl.out
        rw [hVl] at hqok
        dsimp only at hqok
        obtain ⟨X', hX'⟩ : ∃ X', polOf l = X' := ⟨_, rfl⟩
        rw [hX'] at hof2 hqok hln hlr
        clear hX' hVl hb
        obtain ⟨q0, ⟨q1, q2, q3, q4, q5⟩, q6, q7, q8, q9, q10, q11, q12⟩ := X'
        have hr5 := fun w => pright_any (q0, (q1, q2, q3, q4, q5), q6, q7, q8, q9, q10, q11, q12) hqok w
        have hn5 := fun w => pnums_any (q0, (q1, q2, q3, q4, q5), q6, q7, q8, q9, q10, q11, q12) hqok w
        rw [hlr] at hr5
        rw [hln] at hn5
        dsimp only at hr5 hn5 hof2
        replace hof2 := Lib.hid hof2
        replace hr5 := Lib.hid hr5
        replace hn5 := Lib.hid hn5
        clear hln hlr hqok
        go_wp2_with (first | (go_at_call 15; (with_reducible refine (hof2.out A1 cap1 _ hRf.out).mono ?_); rintro e w9 ⟨rfl, hB9⟩; have hz9 := bk_new w9 #[.int .i64 q0, .int .u8 q1, .int .u8 q2, .int .u8 q3, .int .u8 q4, .int .i64 q5, .int .u64 q6, .int .u64 q7, .int .u64 q8, .int .u64 q9, .int .u64 q10, .int .u64 q11, .int .u64 q12] 28; have hB9' := bl_alloc hB9 (.cells #[.int .i64 q0, .int .u8 q1, .int .u8 q2, .int .u8 q3, .int .u8 q4, .int .i64 q5, .int .u64 q6, .int .u64 q7, .int .u64 q8, .int .u64 q9, .int .u64 q10, .int .u64 q11, .int .u64 q12] 28); have hR9 := (hRf.out.below hB9'); obtain ⟨zx0, zx1, zx2, zx3, zx4, zx5, zx6, zx7, zx8, zx9, zx10, zx11, zx12, zxf0, zxf1, zxf2, zxf3, zxf4, zxf5, zxf6, zxf7, zxf8, zxf9, zxf10, zxf11, zxf12⟩ := cells13 hz9) | (go_at_call 17; (with_reducible refine (hr5.out _).mono ?_); rintro e w10 ⟨rfl, hB10⟩; have hz10 := bk_below hB10 hz9; have hR10 := hR9.below hB10; obtain ⟨zy0, zy1, zy2, zy3, zy4, zy5, zy6, zy7, zy8, zy9, zy10, zy11, zy12, zyf0, zyf1, zyf2, zyf3, zyf4, zyf5, zyf6, zyf7, zyf8, zyf9, zyf10, zyf11, zyf12⟩ := cells13 hz10) | (go_at_call 20; (with_reducible refine (hn5.out _).mono ?_); rintro e w11 ⟨v11, rfl, ho11, hB11⟩; obtain ⟨A11, c11, rfl, hr11⟩ := own_reads ho11; have hR11 := hR10.below hB11) | (go_at_call 19; (with_reducible refine (same_any A11 A1 c11 cap1 l l _ hr11 hR11 (by omega) (by omega)).mono ?_); rintro e w12 ⟨rfl, nd, rfl⟩))
        go_ret
        exact ⟨rfl, bl_drewN (bl_then (bl_then (bl_then hBf.out hB9') hB10) hB11) _⟩
end Go.Proofs.Ytfcekicjlgdmaaa
