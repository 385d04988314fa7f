/- Contracts: the policy of numbers. -/
import Derived.Test.YtfcekicjlgdmaaaPolicy4
set_option linter.unusedVariables false
set_option linter.unusedSimpArgs false
set_option maxRecDepth 100000
namespace Go.Proofs.Ytfcekicjlgdmaaa
open Go.RowKit Go.Proofs.YtfcekicjlgdmaaaW.PrintWords
attribute [local go_sem] max2_int min2_int max_two min_two
attribute [local go_sem ↓] eql_nt neq_nt eql_ad net_addr net_bits

/-- The policy that ten numbers spell. -/
def polOf (l : List Int) : Pol := (l.getD 0 0, (l.getD 1 0 / 16777216, l.getD 1 0 / 65536 % 256, l.getD 1 0 / 256 % 256, l.getD 1 0 % 256, l.getD 2 0), l.getD 3 0, l.getD 4 0, l.getD 5 0, l.getD 6 0, l.getD 7 0, l.getD 8 0, l.getD 9 0)
def ofB (l : List Int) : Bool := decide (l.length = 10) && decide (l.getD 1 0 ≤ 4294967295) && rightP (polOf l)
def ofV (l : List Int) : Pol × Int := if ofB l then (polOf l, 0) else (zeroP, 111)
theorem ofB_ten (a0 a1 a2 a3 a4 a5 a6 a7 a8 a9 : Int) : ofB [a0, a1, a2, a3, a4, a5, a6, a7, a8, a9] = (decide (a1 ≤ 4294967295) && rightP (a0, (a1 / 16777216, a1 / 65536 % 256, a1 / 256 % 256, a1 % 256, a2), a3, a4, a5, a6, a7, a8, a9)) := by
  unfold ofB polOf
  simp only [List.length_cons, List.length_nil, List.getD_cons_zero, List.getD_cons_succ]
  simp
theorem ofV_no {l : List Int} {p : Pol} {c : Int} (hv : ofV l = (p, c)) (h : ofB l = false) : p = (0, (0, 0, 0, 0, 0), 0, 0, 0, 0, 0, 0, 0) ∧ c = 111 := by
  unfold ofV at hv
  rw [h, if_neg Bool.false_ne_true] at hv
  obtain ⟨h1, h2⟩ := Prod.mk.inj hv
  exact ⟨h1.symm, h2.symm⟩
theorem ofV_yes {a0 a1 a2 a3 a4 a5 a6 a7 a8 a9 : Int} {p : Pol} {c : Int} (hv : ofV [a0, a1, a2, a3, a4, a5, a6, a7, a8, a9] = (p, c)) (h : ofB [a0, a1, a2, a3, a4, a5, a6, a7, a8, a9] = true) : p = (a0, (a1 / 16777216, a1 / 65536 % 256, a1 / 256 % 256, a1 % 256, a2), a3, a4, a5, a6, a7, a8, a9) ∧ c = 0 := by
  unfold ofV at hv
  rw [h, if_pos rfl] at hv
  obtain ⟨h1, h2⟩ := Prod.mk.inj hv
  exact ⟨h1.symm, h2.symm⟩
theorem rd10 {w : World} {ad : Addr} {a0 a1 a2 a3 a4 a5 a6 a7 a8 a9 : Int} (h : ReadsInt w .u64 (some ad) 10 [a0, a1, a2, a3, a4, a5, a6, a7, a8, a9]) :
    w.cell? ad = some (.int .u64 a0) ∧ w.cell? ⟨ad.block, ad.off + 1, none⟩ = some (.int .u64 a1) ∧ w.cell? ⟨ad.block, ad.off + 2, none⟩ = some (.int .u64 a2) ∧ w.cell? ⟨ad.block, ad.off + 3, none⟩ = some (.int .u64 a3) ∧ w.cell? ⟨ad.block, ad.off + 4, none⟩ = some (.int .u64 a4) ∧ w.cell? ⟨ad.block, ad.off + 5, none⟩ = some (.int .u64 a5) ∧ w.cell? ⟨ad.block, ad.off + 6, none⟩ = some (.int .u64 a6) ∧ w.cell? ⟨ad.block, ad.off + 7, none⟩ = some (.int .u64 a7) ∧ w.cell? ⟨ad.block, ad.off + 8, none⟩ = some (.int .u64 a8) ∧ w.cell? ⟨ad.block, ad.off + 9, none⟩ = some (.int .u64 a9) := by
  obtain ⟨ad', e1, hc⟩ := h.2.2 (by decide)
  obtain rfl := Option.some.inj e1
  exact ⟨hc 0 (by decide), hc 1 (by decide), hc 2 (by decide), hc 3 (by decide), hc 4 (by decide), hc 5 (by decide), hc 6 (by decide), hc 7 (by decide), hc 8 (by decide), hc 9 (by decide)⟩
theorem ten {l : List Int} (h : l.length = 10) : ∃ a0 a1 a2 a3 a4 a5 a6 a7 a8 a9, l = [a0, a1, a2, a3, a4, a5, a6, a7, a8, a9] := by
  match l, h with
  | [a0, a1, a2, a3, a4, a5, a6, a7, a8, a9], _ => exact ⟨a0, a1, a2, a3, a4, a5, a6, a7, a8, a9, rfl⟩
theorem ten_ok {a0 a1 a2 a3 a4 a5 a6 a7 a8 a9 : Int} (h : U64 [a0, a1, a2, a3, a4, a5, a6, a7, a8, a9]) : InU64 a0 ∧ InU64 a1 ∧ InU64 a2 ∧ InU64 a3 ∧ InU64 a4 ∧ InU64 a5 ∧ InU64 a6 ∧ InU64 a7 ∧ InU64 a8 ∧ InU64 a9 := by
  refine ⟨h a0 (by simp), h a1 (by simp), h a2 (by simp), h a3 (by simp), h a4 (by simp), h a5 (by simp), h a6 (by simp), h a7 (by simp), h a8 (by simp), h a9 (by simp)⟩
theorem bl_put13 {B : Nat} {w0 w : World} {g : Nat} {u0 u1 u2 u3 u4 u5 u6 u7 u8 u9 u10 u11 u12 : Value} (h : Below B w0 w) (hg : B ≤ g) : Below B w0 (((((((((((((w.setCell ⟨g, 0, none⟩ u0).setCell ⟨g, 1, none⟩ u1).setCell ⟨g, 2, none⟩ u2).setCell ⟨g, 3, none⟩ u3).setCell ⟨g, 4, none⟩ u4).setCell ⟨g, 5, none⟩ u5).setCell ⟨g, 6, none⟩ u6).setCell ⟨g, 7, none⟩ u7).setCell ⟨g, 8, none⟩ u8).setCell ⟨g, 9, none⟩ u9).setCell ⟨g, 10, none⟩ u10).setCell ⟨g, 11, none⟩ u11).setCell ⟨g, 12, none⟩ u12) :=
  bl_set (bl_set (bl_set (bl_set (bl_set (bl_set (bl_set (bl_set (bl_set (bl_set (bl_set (bl_set (bl_set h hg _) hg _) hg _) hg _) hg _) hg _) hg _) hg _) hg _) hg _) hg _) hg _) hg _
theorem put12 {w : World} {g : Nat} {v0 v1 v2 v3 v4 v5 v6 v7 v8 v9 v10 v11 v12 u1 u2 u3 u4 u5 u6 u7 u8 u9 u10 u11 u12 : Value} {t : TypeId} (h : Bk w g #[v0, v1, v2, v3, v4, v5, v6, v7, v8, v9, v10, v11, v12] t) : Bk ((((((((((((w.setCell ⟨g, 1, none⟩ u1).setCell ⟨g, 2, none⟩ u2).setCell ⟨g, 3, none⟩ u3).setCell ⟨g, 4, none⟩ u4).setCell ⟨g, 5, none⟩ u5).setCell ⟨g, 6, none⟩ u6).setCell ⟨g, 7, none⟩ u7).setCell ⟨g, 8, none⟩ u8).setCell ⟨g, 9, none⟩ u9).setCell ⟨g, 10, none⟩ u10).setCell ⟨g, 11, none⟩ u11).setCell ⟨g, 12, none⟩ u12) g #[v0, u1, u2, u3, u4, u5, u6, u7, u8, u9, u10, u11, u12] t := by
  have h1 : Bk _ g #[v0, u1, v2, v3, v4, v5, v6, v7, v8, v9, v10, v11, v12] t := bk_put (i := 1) (u := u1) h rfl
  have h2 : Bk _ g #[v0, u1, u2, v3, v4, v5, v6, v7, v8, v9, v10, v11, v12] t := bk_put (i := 2) (u := u2) h1 rfl
  have h3 : Bk _ g #[v0, u1, u2, u3, v4, v5, v6, v7, v8, v9, v10, v11, v12] t := bk_put (i := 3) (u := u3) h2 rfl
  have h4 : Bk _ g #[v0, u1, u2, u3, u4, v5, v6, v7, v8, v9, v10, v11, v12] t := bk_put (i := 4) (u := u4) h3 rfl
  have h5 : Bk _ g #[v0, u1, u2, u3, u4, u5, v6, v7, v8, v9, v10, v11, v12] t := bk_put (i := 5) (u := u5) h4 rfl
  have h6 : Bk _ g #[v0, u1, u2, u3, u4, u5, u6, v7, v8, v9, v10, v11, v12] t := bk_put (i := 6) (u := u6) h5 rfl
  have h7 : Bk _ g #[v0, u1, u2, u3, u4, u5, u6, u7, v8, v9, v10, v11, v12] t := bk_put (i := 7) (u := u7) h6 rfl
  have h8 : Bk _ g #[v0, u1, u2, u3, u4, u5, u6, u7, u8, v9, v10, v11, v12] t := bk_put (i := 8) (u := u8) h7 rfl
  have h9 : Bk _ g #[v0, u1, u2, u3, u4, u5, u6, u7, u8, u9, v10, v11, v12] t := bk_put (i := 9) (u := u9) h8 rfl
  have h10 : Bk _ g #[v0, u1, u2, u3, u4, u5, u6, u7, u8, u9, u10, v11, v12] t := bk_put (i := 10) (u := u10) h9 rfl
  have h11 : Bk _ g #[v0, u1, u2, u3, u4, u5, u6, u7, u8, u9, u10, u11, v12] t := bk_put (i := 11) (u := u11) h10 rfl
  have h12 : Bk _ g #[v0, u1, u2, u3, u4, u5, u6, u7, u8, u9, u10, u11, u12] t := bk_put (i := 12) (u := u12) h11 rfl
  exact h12
theorem res_pof {w : World} {g : Nat} {v0 v1 v2 v3 v4 v5 v6 v7 v8 v9 v10 v11 v12 : Value} {c : Int} {t : TypeId} (h : Bk w g #[v0, v1, v2, v3, v4, v5, v6, v7, v8, v9, v10, v11, v12] t) (tmps : Array Value) (h2 : tmps[2]?.getD undef = .pointer (some ⟨g, 0, none⟩)) (h3 : tmps[3]?.getD undef = .int .i64 c) :
    (results Try.f15 tmps).run Try.prog w = .ok (.tuple #[.agg #[v0, v1, v2, v3, v4, v5, v6, v7, v8, v9, v10, v11, v12], .int .i64 c]) w := by
  obtain ⟨z0, z1, z2, z3, z4, z5, z6, z7, z8, z9, z10, z11, z12, _⟩ := cells13 h
  simp [results, Try.results15, go_sem, h2, h3, z0, z1, z2, z3, z4, z5, z6, z7, z8, z9, z10, z11, z12]

set_option maxHeartbeats 3200000 in
theorem pof_core (A : Option Addr) (cap : Nat) (l : List Int) (w : World) (hr : ReadsInt w .u64 A l.length l) (hU : U64 l) (hlen : l.length ≤ 9223372036854775807) (p : Pol) (c : Int) (hv : ofV l = (p, c)) : Calls Try.prog 15 #[.slice A l.length cap] w fun e w' => e = .returned (.tuple #[.agg #[.int .i64 p.1, .int .u8 p.2.1.1, .int .u8 p.2.1.2.1, .int .u8 p.2.1.2.2.1, .int .u8 p.2.1.2.2.2.1, .int .i64 p.2.1.2.2.2.2, .int .u64 p.2.2.1, .int .u64 p.2.2.2.1, .int .u64 p.2.2.2.2.1, .int .u64 p.2.2.2.2.2.1, .int .u64 p.2.2.2.2.2.2.1, .int .u64 p.2.2.2.2.2.2.2.1, .int .u64 p.2.2.2.2.2.2.2.2], .int .i64 c]) ∧ Below w.heap.size w w' := by
  have hb2 := bk_new w #[.int .i64 0, .int .u8 0, .int .u8 0, .int .u8 0, .int .u8 0, .int .i64 0, .int .u64 0, .int .u64 0, .int .u64 0, .int .u64 0, .int .u64 0, .int .u64 0, .int .u64 0] 28
  have hB2z := bl_alloc (Below.refl _ w) (.cells #[.int .i64 0, .int .u8 0, .int .u8 0, .int .u8 0, .int .u8 0, .int .i64 0, .int .u64 0, .int .u64 0, .int .u64 0, .int .u64 0, .int .u64 0, .int .u64 0, .int .u64 0] 28)
  by_cases h10 : l.length = 10
  · obtain ⟨a0, a1, a2, a3, a4, a5, a6, a7, a8, a9, rfl⟩ := ten h10
    obtain ⟨ad, rfl⟩ : ∃ ad, A = some ad := by
      obtain ⟨ad, e, _⟩ := hr.2.2 (by simp)
      exact ⟨ad, e⟩
    have hR : ReadsInt (w.alloc (.cells #[.int .i64 0, .int .u8 0, .int .u8 0, .int .u8 0, .int .u8 0, .int .i64 0, .int .u64 0, .int .u64 0, .int .u64 0, .int .u64 0, .int .u64 0, .int .u64 0, .int .u64 0] 28)) .u64 (some ad) 10 [a0, a1, a2, a3, a4, a5, a6, a7, a8, a9] := ReadsInt.allocS hr _
    obtain ⟨y0, y1, y2, y3, y4, y5, y6, y7, y8, y9⟩ := rd10 hR
    obtain ⟨⟨l0, m0⟩, ⟨l1, m1⟩, ⟨l2, m2⟩, ⟨l3, m3⟩, ⟨l4, m4⟩, ⟨l5, m5⟩, ⟨l6, m6⟩, ⟨l7, m7⟩, ⟨l8, m8⟩, ⟨l9, m9⟩⟩ := ten_ok hU
    have hB := ofB_ten a0 a1 a2 a3 a4 a5 a6 a7 a8 a9
    by_cases h1 : 4294967295 < a1
    · have d1 : decide (4294967295 < a1) = true := decide_eq_true h1
      rw [decide_eq_false (show ¬ a1 ≤ 4294967295 by omega), Bool.false_and] at hB
      obtain ⟨rfl, rfl⟩ := ofV_no hv hB
      dsimp only [List.length_cons, List.length_nil]
      go_enter Try.func15, Try.ntmps15
      go_wp2_with (fail)
      refine bodyPost_ret (res_pof (bk_new _ _ _) _ rfl rfl) rfl ⟨rfl, hB2z⟩
    · have d1 : decide (4294967295 < a1) = false := decide_eq_false h1
      rw [decide_eq_true (show a1 ≤ 4294967295 by omega), Bool.true_and] at hB
      have hw : IntKind.u32.wrap a1 = a1 := by rw [IntKind.wrap_u32]; omega
      obtain ⟨s, hs⟩ : ∃ s, satInt a0 = s := ⟨_, rfl⟩
      obtain ⟨t, ht⟩ : ∃ t, satInt a2 = t := ⟨_, rfl⟩
      obtain ⟨o1, ho1⟩ : ∃ o, decide (a0 ≤ 9223372036854775807) = o := ⟨_, rfl⟩
      obtain ⟨o2, ho2⟩ : ∃ o, decide (a2 ≤ 9223372036854775807) = o := ⟨_, rfl⟩
      have hsI : InI64 s := by rw [← hs]; unfold InI64 satInt; split <;> omega
      have htI : InI64 t := by rw [← ht]; unfold InI64 satInt; split <;> omega
      have hp : PolOk (s, (a1 / 16777216, a1 / 65536 % 256, a1 / 256 % 256, a1 % 256, t), a3, a4, a5, a6, a7, a8, a9) := ⟨hsI, ⟨by unfold AdOk; dsimp only; omega, htI.1, htI.2⟩, ⟨l3, m3⟩, ⟨l4, m4⟩, ⟨l5, m5⟩, ⟨l6, m6⟩, ⟨l7, m7⟩, ⟨l8, m8⟩, ⟨l9, m9⟩⟩
      have hpr := fun w => pright_any (s, (a1 / 16777216, a1 / 65536 % 256, a1 / 256 % 256, a1 % 256, t), a3, a4, a5, a6, a7, a8, a9) hp w
      dsimp only at hpr
      have hbad : o1 = false ∨ o2 = false → ofB [a0, a1, a2, a3, a4, a5, a6, a7, a8, a9] = false := by
        intro h
        rw [hB]
        cases hx : rightP (a0, (a1 / 16777216, a1 / 65536 % 256, a1 / 256 % 256, a1 % 256, a2), a3, a4, a5, a6, a7, a8, a9) with
        | false => rfl
        | true =>
          exfalso
          obtain ⟨⟨q1, q2⟩, _, q3, q4⟩ := rightP_bd hx
          dsimp only at q1 q2 q3 q4
          rcases h with h | h
          · rw [h] at ho1; have := of_decide_eq_false ho1; omega
          · rw [h] at ho2; have := of_decide_eq_false ho2; omega
      have hgood : o1 = true → o2 = true → s = a0 ∧ t = a2 := by
        intro h h'
        rw [h] at ho1
        rw [h'] at ho2
        have e1 := of_decide_eq_true ho1
        have e2 := of_decide_eq_true ho2
        rw [← hs, ← ht]
        unfold satInt
        rw [if_pos e1, if_pos e2]
        exact ⟨rfl, rfl⟩
      replace hs := Lib.hid hs
      replace ht := Lib.hid ht
      replace ho1 := Lib.hid ho1
      replace ho2 := Lib.hid ho2
      replace hw := Lib.hid hw
      replace hB := Lib.hid hB
      replace hv := Lib.hid hv
      replace hpr := Lib.hid hpr
      replace hbad := Lib.hid hbad
      replace hgood := Lib.hid hgood
      replace hb2 := Lib.hid hb2
      replace hB2z := Lib.hid hB2z
      replace hR := Lib.hid hR
      replace hp := Lib.hid hp
      clear hr hU hsI htI
      dsimp only [List.length_cons, List.length_nil]
      go_enter Try.func15, Try.ntmps15
      go_wp2_with (first | (go_at_call 35; (with_reducible refine (int_any a0 _ l0 m0).mono ?_); rw [hs.out, ho1.out]; rintro e w' ⟨rfl, rfl⟩) | (go_at_call 35; (with_reducible refine (int_any a2 _ l2 m2).mono ?_); rw [ht.out, ho2.out]; rintro e w' ⟨rfl, rfl⟩))
      clear y0 y1 y2 y3 y4 y5 y6 y7 y8 y9
      refine wp_region_noPanic ?_
      refine wp_region_held_drew (S := fun w' => Below (w.alloc (.cells #[.int .i64 0, .int .u8 0, .int .u8 0, .int .u8 0, .int .u8 0, .int .i64 0, .int .u64 0, .int .u64 0, .int .u64 0, .int .u64 0, .int .u64 0, .int .u64 0, .int .u64 0] 28)).heap.size (w.alloc (.cells #[.int .i64 0, .int .u8 0, .int .u8 0, .int .u8 0, .int .u8 0, .int .i64 0, .int .u64 0, .int .u64 0, .int .u64 0, .int .u64 0, .int .u64 0, .int .u64 0, .int .u64 0] 28)) w') (by kernel_rfl) (bl_drew (Below.refl _ _)) (fun hHeld => ?_)
      refine wpAnyH_take (i := 0) (oi := { dst := some 33, op := Go.Op.move (Go.Operand.tmp 4), type := 3, pos := "policy.go:45", after := #[], guard := none }) (v := ?_) rfl (by kernel_rfl) (by kernel_rfl) (by kernel_rfl) (fun _ _ _ h => h) (Or.inl ⟨by rfl, ?_⟩) (by assumption) ?_
      rotate_left 1
      · intro w' hSw
        first | (go_simp; done) | (go_simp; with_reducible rfl)
      try simp only [Act.put, List.getElem_toArray, List.getElem_cons_succ, List.getElem_cons_zero, List.setIfInBounds_toArray, List.set_cons_zero, List.set_cons_succ]
      refine wpAnyH_take (i := 1) (oi := { dst := some 34, op := Go.Op.move (Go.Operand.tmp 0), type := 29, pos := "policy.go:45", after := #[], guard := none }) (v := ?_) rfl (by kernel_rfl) (by kernel_rfl) (by kernel_rfl) (fun _ _ _ h => h) (Or.inl ⟨by rfl, ?_⟩) (by assumption) ?_
      rotate_left 1
      · intro w' hSw
        first | (go_simp; done) | (go_simp; with_reducible rfl)
      try simp only [Act.put, List.getElem_toArray, List.getElem_cons_succ, List.getElem_cons_zero, List.setIfInBounds_toArray, List.set_cons_zero, List.set_cons_succ]
      refine wpAnyH_take (i := 2) (oi := { dst := some 35, op := Go.Op.indexAddr 29 (Go.Operand.tmp 34) (Go.Operand.const (Go.Value.int Go.IntKind.i64 1)), type := 0, pos := "policy.go:45", after := #[{ on := 1, ground := Go.Ground.data }], guard := none }) (v := ?_) rfl (by kernel_rfl) (by kernel_rfl) (by kernel_rfl) (fun _ _ _ h => h) (Or.inl ⟨by rfl, ?_⟩) (by assumption) ?_
      rotate_left 1
      · intro w' hSw
        first | (go_simp; done) | (go_simp; with_reducible rfl)
      try simp only [Act.put, List.getElem_toArray, List.getElem_cons_succ, List.getElem_cons_zero, List.setIfInBounds_toArray, List.set_cons_zero, List.set_cons_succ]
      refine wpAnyH_take (i := 3) (oi := { dst := some 36, op := Go.Op.load 26 (Go.Operand.tmp 35), type := 26, pos := "policy.go:45", after := #[{ on := 2, ground := Go.Ground.data }], guard := none }) (v := ?_) rfl (by kernel_rfl) (by kernel_rfl) (by kernel_rfl) (fun _ _ _ h => h) (Or.inl ⟨by rfl, ?_⟩) (by assumption) ?_
      rotate_left 1
      · intro w' hSw
        obtain ⟨y0, y1, y2, y3, y4, y5, y6, y7, y8, y9⟩ := rd10 (hR.out.below hSw)
        first | (go_simp; done) | (go_simp; with_reducible rfl)
      try simp only [Act.put, List.getElem_toArray, List.getElem_cons_succ, List.getElem_cons_zero, List.setIfInBounds_toArray, List.set_cons_zero, List.set_cons_succ]
      refine wpAnyH_take (i := 4) (oi := { dst := some 37, op := Go.Op.convert 26 67 (Go.Operand.tmp 36), type := 67, pos := "policy.go:45", after := #[{ on := 3, ground := Go.Ground.data }], guard := none }) (v := ?_) rfl (by kernel_rfl) (by kernel_rfl) (by kernel_rfl) (fun _ _ _ h => h) (Or.inl ⟨by rfl, ?_⟩) (by assumption) ?_
      rotate_left 1
      · intro w' hSw
        first | (go_simp; done) | (go_simp; with_reducible rfl)
      try simp only [Act.put, List.getElem_toArray, List.getElem_cons_succ, List.getElem_cons_zero, List.setIfInBounds_toArray, List.set_cons_zero, List.set_cons_succ]
      refine wpAnyH_take (i := 6) (oi := { dst := some 39, op := Go.Op.move (Go.Operand.tmp 6), type := 3, pos := "policy.go:45", after := #[], guard := none }) (v := ?_) rfl (by kernel_rfl) (by kernel_rfl) (by kernel_rfl) (fun _ _ _ h => h) (Or.inl ⟨by rfl, ?_⟩) (by assumption) ?_
      rotate_left 1
      · intro w' hSw
        first | (go_simp; done) | (go_simp; with_reducible rfl)
      try simp only [Act.put, List.getElem_toArray, List.getElem_cons_succ, List.getElem_cons_zero, List.setIfInBounds_toArray, List.set_cons_zero, List.set_cons_succ]
      refine wpAnyH_take (i := 8) (oi := { dst := some 41, op := Go.Op.move (Go.Operand.tmp 0), type := 29, pos := "policy.go:45", after := #[], guard := none }) (v := ?_) rfl (by kernel_rfl) (by kernel_rfl) (by kernel_rfl) (fun _ _ _ h => h) (Or.inl ⟨by rfl, ?_⟩) (by assumption) ?_
      rotate_left 1
      · intro w' hSw
        first | (go_simp; done) | (go_simp; with_reducible rfl)
      try simp only [Act.put, List.getElem_toArray, List.getElem_cons_succ, List.getElem_cons_zero, List.setIfInBounds_toArray, List.set_cons_zero, List.set_cons_succ]
      refine wpAnyH_take (i := 9) (oi := { dst := some 42, op := Go.Op.indexAddr 29 (Go.Operand.tmp 41) (Go.Operand.const (Go.Value.int Go.IntKind.i64 3)), type := 0, pos := "policy.go:45", after := #[{ on := 8, ground := Go.Ground.data }], guard := none }) (v := ?_) rfl (by kernel_rfl) (by kernel_rfl) (by kernel_rfl) (fun _ _ _ h => h) (Or.inl ⟨by rfl, ?_⟩) (by assumption) ?_
      rotate_left 1
      · intro w' hSw
        first | (go_simp; done) | (go_simp; with_reducible rfl)
      try simp only [Act.put, List.getElem_toArray, List.getElem_cons_succ, List.getElem_cons_zero, List.setIfInBounds_toArray, List.set_cons_zero, List.set_cons_succ]
      refine wpAnyH_take (i := 10) (oi := { dst := some 43, op := Go.Op.load 26 (Go.Operand.tmp 42), type := 26, pos := "policy.go:45", after := #[{ on := 9, ground := Go.Ground.data }], guard := none }) (v := ?_) rfl (by kernel_rfl) (by kernel_rfl) (by kernel_rfl) (fun _ _ _ h => h) (Or.inl ⟨by rfl, ?_⟩) (by assumption) ?_
      rotate_left 1
      · intro w' hSw
        obtain ⟨y0, y1, y2, y3, y4, y5, y6, y7, y8, y9⟩ := rd10 (hR.out.below hSw)
        first | (go_simp; done) | (go_simp; with_reducible rfl)
      try simp only [Act.put, List.getElem_toArray, List.getElem_cons_succ, List.getElem_cons_zero, List.setIfInBounds_toArray, List.set_cons_zero, List.set_cons_succ]
      refine wpAnyH_take (i := 11) (oi := { dst := some 44, op := Go.Op.move (Go.Operand.tmp 0), type := 29, pos := "policy.go:45", after := #[], guard := none }) (v := ?_) rfl (by kernel_rfl) (by kernel_rfl) (by kernel_rfl) (fun _ _ _ h => h) (Or.inl ⟨by rfl, ?_⟩) (by assumption) ?_
      rotate_left 1
      · intro w' hSw
        first | (go_simp; done) | (go_simp; with_reducible rfl)
      try simp only [Act.put, List.getElem_toArray, List.getElem_cons_succ, List.getElem_cons_zero, List.setIfInBounds_toArray, List.set_cons_zero, List.set_cons_succ]
      refine wpAnyH_take (i := 12) (oi := { dst := some 45, op := Go.Op.indexAddr 29 (Go.Operand.tmp 44) (Go.Operand.const (Go.Value.int Go.IntKind.i64 4)), type := 0, pos := "policy.go:45", after := #[{ on := 11, ground := Go.Ground.data }], guard := none }) (v := ?_) rfl (by kernel_rfl) (by kernel_rfl) (by kernel_rfl) (fun _ _ _ h => h) (Or.inl ⟨by rfl, ?_⟩) (by assumption) ?_
      rotate_left 1
      · intro w' hSw
        first | (go_simp; done) | (go_simp; with_reducible rfl)
      try simp only [Act.put, List.getElem_toArray, List.getElem_cons_succ, List.getElem_cons_zero, List.setIfInBounds_toArray, List.set_cons_zero, List.set_cons_succ]
      refine wpAnyH_take (i := 13) (oi := { dst := some 46, op := Go.Op.load 26 (Go.Operand.tmp 45), type := 26, pos := "policy.go:45", after := #[{ on := 12, ground := Go.Ground.data }], guard := none }) (v := ?_) rfl (by kernel_rfl) (by kernel_rfl) (by kernel_rfl) (fun _ _ _ h => h) (Or.inl ⟨by rfl, ?_⟩) (by assumption) ?_
      rotate_left 1
      · intro w' hSw
        obtain ⟨y0, y1, y2, y3, y4, y5, y6, y7, y8, y9⟩ := rd10 (hR.out.below hSw)
        first | (go_simp; done) | (go_simp; with_reducible rfl)
      try simp only [Act.put, List.getElem_toArray, List.getElem_cons_succ, List.getElem_cons_zero, List.setIfInBounds_toArray, List.set_cons_zero, List.set_cons_succ]
      refine wpAnyH_take (i := 14) (oi := { dst := some 47, op := Go.Op.move (Go.Operand.tmp 0), type := 29, pos := "policy.go:45", after := #[], guard := none }) (v := ?_) rfl (by kernel_rfl) (by kernel_rfl) (by kernel_rfl) (fun _ _ _ h => h) (Or.inl ⟨by rfl, ?_⟩) (by assumption) ?_
      rotate_left 1
      · intro w' hSw
        first | (go_simp; done) | (go_simp; with_reducible rfl)
      try simp only [Act.put, List.getElem_toArray, List.getElem_cons_succ, List.getElem_cons_zero, List.setIfInBounds_toArray, List.set_cons_zero, List.set_cons_succ]
      refine wpAnyH_take (i := 15) (oi := { dst := some 48, op := Go.Op.indexAddr 29 (Go.Operand.tmp 47) (Go.Operand.const (Go.Value.int Go.IntKind.i64 5)), type := 0, pos := "policy.go:45", after := #[{ on := 14, ground := Go.Ground.data }], guard := none }) (v := ?_) rfl (by kernel_rfl) (by kernel_rfl) (by kernel_rfl) (fun _ _ _ h => h) (Or.inl ⟨by rfl, ?_⟩) (by assumption) ?_
      rotate_left 1
      · intro w' hSw
        first | (go_simp; done) | (go_simp; with_reducible rfl)
      try simp only [Act.put, List.getElem_toArray, List.getElem_cons_succ, List.getElem_cons_zero, List.setIfInBounds_toArray, List.set_cons_zero, List.set_cons_succ]
      refine wpAnyH_take (i := 16) (oi := { dst := some 49, op := Go.Op.load 26 (Go.Operand.tmp 48), type := 26, pos := "policy.go:45", after := #[{ on := 15, ground := Go.Ground.data }], guard := none }) (v := ?_) rfl (by kernel_rfl) (by kernel_rfl) (by kernel_rfl) (fun _ _ _ h => h) (Or.inl ⟨by rfl, ?_⟩) (by assumption) ?_
      rotate_left 1
      · intro w' hSw
        obtain ⟨y0, y1, y2, y3, y4, y5, y6, y7, y8, y9⟩ := rd10 (hR.out.below hSw)
        first | (go_simp; done) | (go_simp; with_reducible rfl)
      try simp only [Act.put, List.getElem_toArray, List.getElem_cons_succ, List.getElem_cons_zero, List.setIfInBounds_toArray, List.set_cons_zero, List.set_cons_succ]
      refine wpAnyH_take (i := 17) (oi := { dst := some 50, op := Go.Op.move (Go.Operand.tmp 0), type := 29, pos := "policy.go:45", after := #[], guard := none }) (v := ?_) rfl (by kernel_rfl) (by kernel_rfl) (by kernel_rfl) (fun _ _ _ h => h) (Or.inl ⟨by rfl, ?_⟩) (by assumption) ?_
      rotate_left 1
      · intro w' hSw
        first | (go_simp; done) | (go_simp; with_reducible rfl)
      try simp only [Act.put, List.getElem_toArray, List.getElem_cons_succ, List.getElem_cons_zero, List.setIfInBounds_toArray, List.set_cons_zero, List.set_cons_succ]
      refine wpAnyH_take (i := 18) (oi := { dst := some 51, op := Go.Op.indexAddr 29 (Go.Operand.tmp 50) (Go.Operand.const (Go.Value.int Go.IntKind.i64 6)), type := 0, pos := "policy.go:45", after := #[{ on := 17, ground := Go.Ground.data }], guard := none }) (v := ?_) rfl (by kernel_rfl) (by kernel_rfl) (by kernel_rfl) (fun _ _ _ h => h) (Or.inl ⟨by rfl, ?_⟩) (by assumption) ?_
      rotate_left 1
      · intro w' hSw
        first | (go_simp; done) | (go_simp; with_reducible rfl)
      try simp only [Act.put, List.getElem_toArray, List.getElem_cons_succ, List.getElem_cons_zero, List.setIfInBounds_toArray, List.set_cons_zero, List.set_cons_succ]
      refine wpAnyH_take (i := 19) (oi := { dst := some 52, op := Go.Op.load 26 (Go.Operand.tmp 51), type := 26, pos := "policy.go:45", after := #[{ on := 18, ground := Go.Ground.data }], guard := none }) (v := ?_) rfl (by kernel_rfl) (by kernel_rfl) (by kernel_rfl) (fun _ _ _ h => h) (Or.inl ⟨by rfl, ?_⟩) (by assumption) ?_
      rotate_left 1
      · intro w' hSw
        obtain ⟨y0, y1, y2, y3, y4, y5, y6, y7, y8, y9⟩ := rd10 (hR.out.below hSw)
        first | (go_simp; done) | (go_simp; with_reducible rfl)
      try simp only [Act.put, List.getElem_toArray, List.getElem_cons_succ, List.getElem_cons_zero, List.setIfInBounds_toArray, List.set_cons_zero, List.set_cons_succ]
      refine wpAnyH_take (i := 20) (oi := { dst := some 53, op := Go.Op.move (Go.Operand.tmp 0), type := 29, pos := "policy.go:45", after := #[], guard := none }) (v := ?_) rfl (by kernel_rfl) (by kernel_rfl) (by kernel_rfl) (fun _ _ _ h => h) (Or.inl ⟨by rfl, ?_⟩) (by assumption) ?_
      rotate_left 1
      · intro w' hSw
        first | (go_simp; done) | (go_simp; with_reducible rfl)
      try simp only [Act.put, List.getElem_toArray, List.getElem_cons_succ, List.getElem_cons_zero, List.setIfInBounds_toArray, List.set_cons_zero, List.set_cons_succ]
      refine wpAnyH_take (i := 21) (oi := { dst := some 54, op := Go.Op.indexAddr 29 (Go.Operand.tmp 53) (Go.Operand.const (Go.Value.int Go.IntKind.i64 7)), type := 0, pos := "policy.go:45", after := #[{ on := 20, ground := Go.Ground.data }], guard := none }) (v := ?_) rfl (by kernel_rfl) (by kernel_rfl) (by kernel_rfl) (fun _ _ _ h => h) (Or.inl ⟨by rfl, ?_⟩) (by assumption) ?_
      rotate_left 1
      · intro w' hSw
        first | (go_simp; done) | (go_simp; with_reducible rfl)
      try simp only [Act.put, List.getElem_toArray, List.getElem_cons_succ, List.getElem_cons_zero, List.setIfInBounds_toArray, List.set_cons_zero, List.set_cons_succ]
      refine wpAnyH_take (i := 22) (oi := { dst := some 55, op := Go.Op.load 26 (Go.Operand.tmp 54), type := 26, pos := "policy.go:45", after := #[{ on := 21, ground := Go.Ground.data }], guard := none }) (v := ?_) rfl (by kernel_rfl) (by kernel_rfl) (by kernel_rfl) (fun _ _ _ h => h) (Or.inl ⟨by rfl, ?_⟩) (by assumption) ?_
      rotate_left 1
      · intro w' hSw
        obtain ⟨y0, y1, y2, y3, y4, y5, y6, y7, y8, y9⟩ := rd10 (hR.out.below hSw)
        first | (go_simp; done) | (go_simp; with_reducible rfl)
      try simp only [Act.put, List.getElem_toArray, List.getElem_cons_succ, List.getElem_cons_zero, List.setIfInBounds_toArray, List.set_cons_zero, List.set_cons_succ]
      refine wpAnyH_take (i := 23) (oi := { dst := some 56, op := Go.Op.move (Go.Operand.tmp 0), type := 29, pos := "policy.go:45", after := #[], guard := none }) (v := ?_) rfl (by kernel_rfl) (by kernel_rfl) (by kernel_rfl) (fun _ _ _ h => h) (Or.inl ⟨by rfl, ?_⟩) (by assumption) ?_
      rotate_left 1
      · intro w' hSw
        first | (go_simp; done) | (go_simp; with_reducible rfl)
      try simp only [Act.put, List.getElem_toArray, List.getElem_cons_succ, List.getElem_cons_zero, List.setIfInBounds_toArray, List.set_cons_zero, List.set_cons_succ]
      refine wpAnyH_take (i := 24) (oi := { dst := some 57, op := Go.Op.indexAddr 29 (Go.Operand.tmp 56) (Go.Operand.const (Go.Value.int Go.IntKind.i64 8)), type := 0, pos := "policy.go:45", after := #[{ on := 23, ground := Go.Ground.data }], guard := none }) (v := ?_) rfl (by kernel_rfl) (by kernel_rfl) (by kernel_rfl) (fun _ _ _ h => h) (Or.inl ⟨by rfl, ?_⟩) (by assumption) ?_
      rotate_left 1
      · intro w' hSw
        first | (go_simp; done) | (go_simp; with_reducible rfl)
      try simp only [Act.put, List.getElem_toArray, List.getElem_cons_succ, List.getElem_cons_zero, List.setIfInBounds_toArray, List.set_cons_zero, List.set_cons_succ]
      refine wpAnyH_take (i := 25) (oi := { dst := some 58, op := Go.Op.load 26 (Go.Operand.tmp 57), type := 26, pos := "policy.go:45", after := #[{ on := 24, ground := Go.Ground.data }], guard := none }) (v := ?_) rfl (by kernel_rfl) (by kernel_rfl) (by kernel_rfl) (fun _ _ _ h => h) (Or.inl ⟨by rfl, ?_⟩) (by assumption) ?_
      rotate_left 1
      · intro w' hSw
        obtain ⟨y0, y1, y2, y3, y4, y5, y6, y7, y8, y9⟩ := rd10 (hR.out.below hSw)
        first | (go_simp; done) | (go_simp; with_reducible rfl)
      try simp only [Act.put, List.getElem_toArray, List.getElem_cons_succ, List.getElem_cons_zero, List.setIfInBounds_toArray, List.set_cons_zero, List.set_cons_succ]
      refine wpAnyH_take (i := 26) (oi := { dst := some 59, op := Go.Op.move (Go.Operand.tmp 0), type := 29, pos := "policy.go:45", after := #[], guard := none }) (v := ?_) rfl (by kernel_rfl) (by kernel_rfl) (by kernel_rfl) (fun _ _ _ h => h) (Or.inl ⟨by rfl, ?_⟩) (by assumption) ?_
      rotate_left 1
      · intro w' hSw
        first | (go_simp; done) | (go_simp; with_reducible rfl)
      try simp only [Act.put, List.getElem_toArray, List.getElem_cons_succ, List.getElem_cons_zero, List.setIfInBounds_toArray, List.set_cons_zero, List.set_cons_succ]
      refine wpAnyH_take (i := 27) (oi := { dst := some 60, op := Go.Op.indexAddr 29 (Go.Operand.tmp 59) (Go.Operand.const (Go.Value.int Go.IntKind.i64 9)), type := 0, pos := "policy.go:45", after := #[{ on := 26, ground := Go.Ground.data }], guard := none }) (v := ?_) rfl (by kernel_rfl) (by kernel_rfl) (by kernel_rfl) (fun _ _ _ h => h) (Or.inl ⟨by rfl, ?_⟩) (by assumption) ?_
      rotate_left 1
      · intro w' hSw
        first | (go_simp; done) | (go_simp; with_reducible rfl)
      try simp only [Act.put, List.getElem_toArray, List.getElem_cons_succ, List.getElem_cons_zero, List.setIfInBounds_toArray, List.set_cons_zero, List.set_cons_succ]
      refine wpAnyH_take (i := 28) (oi := { dst := some 61, op := Go.Op.load 26 (Go.Operand.tmp 60), type := 26, pos := "policy.go:45", after := #[{ on := 27, ground := Go.Ground.data }], guard := none }) (v := ?_) rfl (by kernel_rfl) (by kernel_rfl) (by kernel_rfl) (fun _ _ _ h => h) (Or.inl ⟨by rfl, ?_⟩) (by assumption) ?_
      rotate_left 1
      · intro w' hSw
        obtain ⟨y0, y1, y2, y3, y4, y5, y6, y7, y8, y9⟩ := rd10 (hR.out.below hSw)
        first | (go_simp; done) | (go_simp; with_reducible rfl)
      try simp only [Act.put, List.getElem_toArray, List.getElem_cons_succ, List.getElem_cons_zero, List.setIfInBounds_toArray, List.set_cons_zero, List.set_cons_succ]
      refine wpAnyH_ready (rs := [5, 30]) (by kernel_rfl) (by simp) ?_
      refine (AllReadyH.cons (o := { dst := some 38, op := Go.Op.call { callee := Go.Callee.value (Go.Operand.func 36), args := #[Go.Operand.tmp 37], argTypes := #[67] }, type := 23, pos := "policy.go:45", after := #[{ on := 4, ground := Go.Ground.data }], guard := none }) rfl (fun K hK => ?_) (AllReadyH.cons (o := { dst := some 8, op := Go.Op.alloc 28, type := 0, pos := "policy.go:45", after := #[], guard := none }) rfl (fun K hK => ?_) AllReadyH.nil))
      ·
        go_simp
        rw [hw.out]
        go_at_call 36
        (with_reducible refine (aof_any a1 _ ⟨l1, by omega⟩).mono ?_)
        rintro e w2 ⟨rfl, hB2⟩
        first | (have hzz : Bk w2 (w.heap.size + 1) #[.int .i64 0, .int .u8 0, .int .u8 0, .int .u8 0, .int .u8 0, .int .i64 0, .int .u64 0, .int .u64 0, .int .u64 0, .int .u64 0, .int .u64 0, .int .u64 0, .int .u64 0] 28 := bk_below hB2 (show Bk ((w.alloc (.cells #[.int .i64 0, .int .u8 0, .int .u8 0, .int .u8 0, .int .u8 0, .int .i64 0, .int .u64 0, .int .u64 0, .int .u64 0, .int .u64 0, .int .u64 0, .int .u64 0, .int .u64 0] 28)).alloc (.cells #[.int .i64 0, .int .u8 0, .int .u8 0, .int .u8 0, .int .u8 0, .int .i64 0, .int .u64 0, .int .u64 0, .int .u64 0, .int .u64 0, .int .u64 0, .int .u64 0, .int .u64 0] 28)) (w.heap.size + 1) #[.int .i64 0, .int .u8 0, .int .u8 0, .int .u8 0, .int .u8 0, .int .i64 0, .int .u64 0, .int .u64 0, .int .u64 0, .int .u64 0, .int .u64 0, .int .u64 0, .int .u64 0] 28 from bk_at (by simp)); obtain ⟨z0, z1, z2, z3, z4, z5, z6, z7, z8, z9, z10, z11, z12, f0, f1, f2, f3, f4, f5, f6, f7, f8, f9, f10, f11, f12⟩ := cells13 hzz) | skip
        go_wp2_with (fail)
        refine hK.out _ _ ?_ (fun hHeld => ?_)
        · first | (with_reducible exact bl_alloc hHeld _) | (with_reducible exact bl_drew (bl_alloc (Below.refl _ _) _)) | (with_reducible exact bl_alloc (bl_then (bl_drew (Below.refl _ _)) hB2) _) | (with_reducible exact bl_then hHeld hB2) | (with_reducible exact bl_put13 hHeld (by rw [World.size_alloc]; exact Nat.le_refl _))
        clear hK K
        try simp only [Act.put, List.getElem_toArray, List.getElem_cons_succ, List.getElem_cons_zero, List.setIfInBounds_toArray, List.set_cons_zero, List.set_cons_succ]
        refine wpAnyH_take (i := 7) (oi := { dst := some 40, op := Go.Op.build 25 #[(0, Go.Operand.tmp 38), (1, Go.Operand.tmp 39)], type := 25, pos := "policy.go:45", after := #[{ on := 5, ground := Go.Ground.data }, { on := 6, ground := Go.Ground.data }], guard := none }) (v := ?_) rfl (by kernel_rfl) (by kernel_rfl) (by kernel_rfl) (fun _ _ _ h => h) (Or.inl ⟨by rfl, ?_⟩) (by assumption) ?_
        rotate_left 1
        · intro w' hSw
          first | (go_simp; done) | (go_simp; with_reducible rfl)
        try simp only [Act.put, List.getElem_toArray, List.getElem_cons_succ, List.getElem_cons_zero, List.setIfInBounds_toArray, List.set_cons_zero, List.set_cons_succ]
        refine wpAnyH_take (i := 29) (oi := { dst := some 62, op := Go.Op.build 28 #[(0, Go.Operand.tmp 33), (1, Go.Operand.tmp 40), (2, Go.Operand.tmp 43), (3, Go.Operand.tmp 46), (4, Go.Operand.tmp 49), (5, Go.Operand.tmp 52), (6, Go.Operand.tmp 55), (7, Go.Operand.tmp 58), (8, Go.Operand.tmp 61)], type := 28, pos := "policy.go:45", after := #[{ on := 0, ground := Go.Ground.data }, { on := 7, ground := Go.Ground.data }, { on := 10, ground := Go.Ground.data }, { on := 13, ground := Go.Ground.data }, { on := 16, ground := Go.Ground.data }, { on := 19, ground := Go.Ground.data }, { on := 22, ground := Go.Ground.data }, { on := 25, ground := Go.Ground.data }, { on := 28, ground := Go.Ground.data }], guard := none }) (v := ?_) rfl (by kernel_rfl) (by kernel_rfl) (by kernel_rfl) (fun _ _ _ h => h) (Or.inl ⟨by rfl, ?_⟩) (by assumption) ?_
        rotate_left 1
        · intro w' hSw
          first | (go_simp; done) | (go_simp; with_reducible rfl)
        try simp only [Act.put, List.getElem_toArray, List.getElem_cons_succ, List.getElem_cons_zero, List.setIfInBounds_toArray, List.set_cons_zero, List.set_cons_succ]
        refine wpAnyH_ready (rs := [30]) (by kernel_rfl) (by simp) ?_
        refine (AllReadyH.cons (o := { dst := some 8, op := Go.Op.alloc 28, type := 0, pos := "policy.go:45", after := #[], guard := none }) rfl (fun K hK => ?_) AllReadyH.nil)
        go_simp
        skip
        refine hK.out _ _ ?_ (fun hHeld => ?_)
        · first | (with_reducible exact bl_alloc hHeld _) | (with_reducible exact bl_drew (bl_alloc (Below.refl _ _) _)) | (with_reducible exact bl_alloc (bl_then (bl_drew (Below.refl _ _)) hB2) _) | (with_reducible exact bl_then hHeld hB2) | (with_reducible exact bl_put13 hHeld (by rw [World.size_alloc]; exact Nat.le_refl _))
        clear hK K
        try simp only [Act.put, List.getElem_toArray, List.getElem_cons_succ, List.getElem_cons_zero, List.setIfInBounds_toArray, List.set_cons_zero, List.set_cons_succ]
        refine wpAnyH_ready (rs := [31]) (by kernel_rfl) (by simp) ?_
        refine (AllReadyH.cons (o := { dst := none, op := Go.Op.store 28 (Go.Operand.tmp 8) (Go.Operand.tmp 62), type := 0, pos := "policy.go:45", after := #[{ on := 30, ground := Go.Ground.data }, { on := 29, ground := Go.Ground.data }, { on := 5, ground := Go.Ground.chain }, { on := 0, ground := Go.Ground.phase }, { on := 1, ground := Go.Ground.phase }, { on := 2, ground := Go.Ground.phase }, { on := 3, ground := Go.Ground.phase }, { on := 4, ground := Go.Ground.phase }, { on := 5, ground := Go.Ground.phase }, { on := 6, ground := Go.Ground.phase }, { on := 7, ground := Go.Ground.phase }, { on := 8, ground := Go.Ground.phase }, { on := 9, ground := Go.Ground.phase }, { on := 10, ground := Go.Ground.phase }, { on := 11, ground := Go.Ground.phase }, { on := 12, ground := Go.Ground.phase }, { on := 13, ground := Go.Ground.phase }, { on := 14, ground := Go.Ground.phase }, { on := 15, ground := Go.Ground.phase }, { on := 16, ground := Go.Ground.phase }, { on := 17, ground := Go.Ground.phase }, { on := 18, ground := Go.Ground.phase }, { on := 19, ground := Go.Ground.phase }, { on := 20, ground := Go.Ground.phase }, { on := 21, ground := Go.Ground.phase }, { on := 22, ground := Go.Ground.phase }, { on := 23, ground := Go.Ground.phase }, { on := 24, ground := Go.Ground.phase }, { on := 25, ground := Go.Ground.phase }, { on := 26, ground := Go.Ground.phase }, { on := 27, ground := Go.Ground.phase }, { on := 28, ground := Go.Ground.phase }, { on := 29, ground := Go.Ground.phase }, { on := 30, ground := Go.Ground.phase }], guard := none }) rfl (fun K hK => ?_) AllReadyH.nil)
        go_simp
        skip
        refine hK.out _ _ ?_ (fun hHeld => ?_)
        · first | (with_reducible exact bl_alloc hHeld _) | (with_reducible exact bl_drew (bl_alloc (Below.refl _ _) _)) | (with_reducible exact bl_alloc (bl_then (bl_drew (Below.refl _ _)) hB2) _) | (with_reducible exact bl_then hHeld hB2) | (with_reducible exact bl_put13 hHeld (by rw [World.size_alloc]; exact Nat.le_refl _))
        clear hK K
        try simp only [Act.put, List.getElem_toArray, List.getElem_cons_succ, List.getElem_cons_zero, List.setIfInBounds_toArray, List.set_cons_zero, List.set_cons_succ]
        refine wpAnyH_done (by kernel_rfl) ?_ _
        refine NoPanic.normal ?_
        first | have hz := put13 (u0 := .int .i64 s) (u1 := .int .u8 (a1 / 16777216)) (u2 := .int .u8 (a1 / 65536 % 256)) (u3 := .int .u8 (a1 / 256 % 256)) (u4 := .int .u8 (a1 % 256)) (u5 := .int .i64 t) (u6 := .int .u64 a3) (u7 := .int .u64 a4) (u8 := .int .u64 a5) (u9 := .int .u64 a6) (u10 := .int .u64 a7) (u11 := .int .u64 a8) (u12 := .int .u64 a9) hzz | have hz := bk_new w2 #[.int .i64 s, .int .u8 (a1 / 16777216), .int .u8 (a1 / 65536 % 256), .int .u8 (a1 / 256 % 256), .int .u8 (a1 % 256), .int .i64 t, .int .u64 a3, .int .u64 a4, .int .u64 a5, .int .u64 a6, .int .u64 a7, .int .u64 a8, .int .u64 a9] 28
        have hr2 := bk_below hHeld hb2.out
        have hBf := bl_then hB2z.out hHeld
        obtain ⟨z0, z1, z2, z3, z4, z5, z6, z7, z8, z9, z10, z11, z12, f0, f1, f2, f3, f4, f5, f6, f7, f8, f9, f10, f11, f12⟩ := cells13 hz
        obtain ⟨r0, r1, r2, r3, r4, r5, r6, r7, r8, r9, r10, r11, r12, g0, g1, g2, g3, g4, g5, g6, g7, g8, g9, g10, g11, g12⟩ := cells13 hr2
        cases o1 with
        | false =>
          obtain ⟨rfl, rfl⟩ := ofV_no hv.out (hbad.out (Or.inl rfl))
          go_wp2_with (fail)
          refine bodyPost_ret (res_pof (put13 hr2) _ rfl rfl) rfl ⟨rfl, ?_⟩
          (with_reducible exact bl_put13 hBf (Nat.le_refl _))
        | true =>
          cases o2 with
          | false =>
            obtain ⟨rfl, rfl⟩ := ofV_no hv.out (hbad.out (Or.inr rfl))
            go_wp2_with (fail)
            refine bodyPost_ret (res_pof (put13 hr2) _ rfl rfl) rfl ⟨rfl, ?_⟩
            (with_reducible exact bl_put13 hBf (Nat.le_refl _))
          | true =>
            have e12 := Lib.hid (hgood.out rfl rfl)
            have hB' : ofB [a0, a1, a2, a3, a4, a5, a6, a7, a8, a9] = rightP (s, (a1 / 16777216, a1 / 65536 % 256, a1 / 256 % 256, a1 % 256, t), a3, a4, a5, a6, a7, a8, a9) := by rw [hB.out, e12.out.1, e12.out.2]
            cases hv2 : rightP (s, (a1 / 16777216, a1 / 65536 % 256, a1 / 256 % 256, a1 % 256, t), a3, a4, a5, a6, a7, a8, a9) with
            | false =>
              obtain ⟨rfl, rfl⟩ := ofV_no hv.out (hB'.trans hv2)
              replace hv2 := Lib.hid hv2
              clear hB'
              go_wp2_with (go_at_call 17; (with_reducible refine (hpr.out _).mono ?_); rw [hv2.out]; rintro e w3 ⟨rfl, hB3⟩; have hr3 := bk_below hB3 hr2; obtain ⟨r0, r1, r2, r3, r4, r5, r6, r7, r8, r9, r10, r11, r12, g0, g1, g2, g3, g4, g5, g6, g7, g8, g9, g10, g11, g12⟩ := cells13 hr3)
              refine bodyPost_ret (res_pof (put13 hr3) _ rfl rfl) rfl ⟨rfl, ?_⟩
              (with_reducible exact bl_put13 (bl_then hBf hB3) (Nat.le_refl _))
            | true =>
              have hpc : p = (s, (a1 / 16777216, a1 / 65536 % 256, a1 / 256 % 256, a1 % 256, t), a3, a4, a5, a6, a7, a8, a9) ∧ c = 0 := by rw [e12.out.1, e12.out.2]; exact ofV_yes hv.out (hB'.trans hv2)
              obtain ⟨rfl, rfl⟩ := hpc
              replace hv2 := Lib.hid hv2
              clear hB'
              go_wp2_with (go_at_call 17; (with_reducible refine (hpr.out _).mono ?_); rw [hv2.out]; rintro e w3 ⟨rfl, hB3⟩; have hr3 := bk_below hB3 hr2; have hz3 := bk_below hB3 hz; obtain ⟨r0, r1, r2, r3, r4, r5, r6, r7, r8, r9, r10, r11, r12, g0, g1, g2, g3, g4, g5, g6, g7, g8, g9, g10, g11, g12⟩ := cells13 hr3; obtain ⟨z0, z1, z2, z3, z4, z5, z6, z7, z8, z9, z10, z11, z12, f0, f1, f2, f3, f4, f5, f6, f7, f8, f9, f10, f11, f12⟩ := cells13 hz3)
              refine bodyPost_ret (res_pof (put13 hr3) _ rfl rfl) rfl ⟨rfl, ?_⟩
              (with_reducible exact bl_put13 (bl_then hBf hB3) (Nat.le_refl _))
      ·
        go_simp
        skip
        refine hK.out _ _ ?_ (fun hHeld => ?_)
        · first | (with_reducible exact bl_alloc hHeld _) | (with_reducible exact bl_drew (bl_alloc (Below.refl _ _) _)) | (with_reducible exact bl_alloc (bl_then (bl_drew (Below.refl _ _)) hB2) _) | (with_reducible exact bl_then hHeld hB2) | (with_reducible exact bl_put13 hHeld (by rw [World.size_alloc]; exact Nat.le_refl _))
        clear hK K
        try simp only [Act.put, List.getElem_toArray, List.getElem_cons_succ, List.getElem_cons_zero, List.setIfInBounds_toArray, List.set_cons_zero, List.set_cons_succ]
        refine wpAnyH_ready (rs := [5]) (by kernel_rfl) (by simp) ?_
        refine (AllReadyH.cons (o := { dst := some 38, op := Go.Op.call { callee := Go.Callee.value (Go.Operand.func 36), args := #[Go.Operand.tmp 37], argTypes := #[67] }, type := 23, pos := "policy.go:45", after := #[{ on := 4, ground := Go.Ground.data }], guard := none }) rfl (fun K hK => ?_) AllReadyH.nil)
        go_simp
        rw [hw.out]
        go_at_call 36
        (with_reducible refine (aof_any a1 _ ⟨l1, by omega⟩).mono ?_)
        rintro e w2 ⟨rfl, hB2⟩
        first | (have hzz : Bk w2 (w.heap.size + 1) #[.int .i64 0, .int .u8 0, .int .u8 0, .int .u8 0, .int .u8 0, .int .i64 0, .int .u64 0, .int .u64 0, .int .u64 0, .int .u64 0, .int .u64 0, .int .u64 0, .int .u64 0] 28 := bk_below hB2 (show Bk ((w.alloc (.cells #[.int .i64 0, .int .u8 0, .int .u8 0, .int .u8 0, .int .u8 0, .int .i64 0, .int .u64 0, .int .u64 0, .int .u64 0, .int .u64 0, .int .u64 0, .int .u64 0, .int .u64 0] 28)).alloc (.cells #[.int .i64 0, .int .u8 0, .int .u8 0, .int .u8 0, .int .u8 0, .int .i64 0, .int .u64 0, .int .u64 0, .int .u64 0, .int .u64 0, .int .u64 0, .int .u64 0, .int .u64 0] 28)) (w.heap.size + 1) #[.int .i64 0, .int .u8 0, .int .u8 0, .int .u8 0, .int .u8 0, .int .i64 0, .int .u64 0, .int .u64 0, .int .u64 0, .int .u64 0, .int .u64 0, .int .u64 0, .int .u64 0] 28 from bk_at (by simp)); obtain ⟨z0, z1, z2, z3, z4, z5, z6, z7, z8, z9, z10, z11, z12, f0, f1, f2, f3, f4, f5, f6, f7, f8, f9, f10, f11, f12⟩ := cells13 hzz) | skip
        go_wp2_with (fail)
        refine hK.out _ _ ?_ (fun hHeld => ?_)
        · first | (with_reducible exact bl_alloc hHeld _) | (with_reducible exact bl_drew (bl_alloc (Below.refl _ _) _)) | (with_reducible exact bl_alloc (bl_then (bl_drew (Below.refl _ _)) hB2) _) | (with_reducible exact bl_then hHeld hB2) | (with_reducible exact bl_put13 hHeld (by rw [World.size_alloc]; exact Nat.le_refl _))
        clear hK K
        try simp only [Act.put, List.getElem_toArray, List.getElem_cons_succ, List.getElem_cons_zero, List.setIfInBounds_toArray, List.set_cons_zero, List.set_cons_succ]
        refine wpAnyH_take (i := 7) (oi := { dst := some 40, op := Go.Op.build 25 #[(0, Go.Operand.tmp 38), (1, Go.Operand.tmp 39)], type := 25, pos := "policy.go:45", after := #[{ on := 5, ground := Go.Ground.data }, { on := 6, ground := Go.Ground.data }], guard := none }) (v := ?_) rfl (by kernel_rfl) (by kernel_rfl) (by kernel_rfl) (fun _ _ _ h => h) (Or.inl ⟨by rfl, ?_⟩) (by assumption) ?_
        rotate_left 1
        · intro w' hSw
          first | (go_simp; done) | (go_simp; with_reducible rfl)
        try simp only [Act.put, List.getElem_toArray, List.getElem_cons_succ, List.getElem_cons_zero, List.setIfInBounds_toArray, List.set_cons_zero, List.set_cons_succ]
        refine wpAnyH_take (i := 29) (oi := { dst := some 62, op := Go.Op.build 28 #[(0, Go.Operand.tmp 33), (1, Go.Operand.tmp 40), (2, Go.Operand.tmp 43), (3, Go.Operand.tmp 46), (4, Go.Operand.tmp 49), (5, Go.Operand.tmp 52), (6, Go.Operand.tmp 55), (7, Go.Operand.tmp 58), (8, Go.Operand.tmp 61)], type := 28, pos := "policy.go:45", after := #[{ on := 0, ground := Go.Ground.data }, { on := 7, ground := Go.Ground.data }, { on := 10, ground := Go.Ground.data }, { on := 13, ground := Go.Ground.data }, { on := 16, ground := Go.Ground.data }, { on := 19, ground := Go.Ground.data }, { on := 22, ground := Go.Ground.data }, { on := 25, ground := Go.Ground.data }, { on := 28, ground := Go.Ground.data }], guard := none }) (v := ?_) rfl (by kernel_rfl) (by kernel_rfl) (by kernel_rfl) (fun _ _ _ h => h) (Or.inl ⟨by rfl, ?_⟩) (by assumption) ?_
        rotate_left 1
        · intro w' hSw
          first | (go_simp; done) | (go_simp; with_reducible rfl)
        try simp only [Act.put, List.getElem_toArray, List.getElem_cons_succ, List.getElem_cons_zero, List.setIfInBounds_toArray, List.set_cons_zero, List.set_cons_succ]
        refine wpAnyH_ready (rs := [31]) (by kernel_rfl) (by simp) ?_
        refine (AllReadyH.cons (o := { dst := none, op := Go.Op.store 28 (Go.Operand.tmp 8) (Go.Operand.tmp 62), type := 0, pos := "policy.go:45", after := #[{ on := 30, ground := Go.Ground.data }, { on := 29, ground := Go.Ground.data }, { on := 5, ground := Go.Ground.chain }, { on := 0, ground := Go.Ground.phase }, { on := 1, ground := Go.Ground.phase }, { on := 2, ground := Go.Ground.phase }, { on := 3, ground := Go.Ground.phase }, { on := 4, ground := Go.Ground.phase }, { on := 5, ground := Go.Ground.phase }, { on := 6, ground := Go.Ground.phase }, { on := 7, ground := Go.Ground.phase }, { on := 8, ground := Go.Ground.phase }, { on := 9, ground := Go.Ground.phase }, { on := 10, ground := Go.Ground.phase }, { on := 11, ground := Go.Ground.phase }, { on := 12, ground := Go.Ground.phase }, { on := 13, ground := Go.Ground.phase }, { on := 14, ground := Go.Ground.phase }, { on := 15, ground := Go.Ground.phase }, { on := 16, ground := Go.Ground.phase }, { on := 17, ground := Go.Ground.phase }, { on := 18, ground := Go.Ground.phase }, { on := 19, ground := Go.Ground.phase }, { on := 20, ground := Go.Ground.phase }, { on := 21, ground := Go.Ground.phase }, { on := 22, ground := Go.Ground.phase }, { on := 23, ground := Go.Ground.phase }, { on := 24, ground := Go.Ground.phase }, { on := 25, ground := Go.Ground.phase }, { on := 26, ground := Go.Ground.phase }, { on := 27, ground := Go.Ground.phase }, { on := 28, ground := Go.Ground.phase }, { on := 29, ground := Go.Ground.phase }, { on := 30, ground := Go.Ground.phase }], guard := none }) rfl (fun K hK => ?_) AllReadyH.nil)
        go_simp
        skip
        refine hK.out _ _ ?_ (fun hHeld => ?_)
        · first | (with_reducible exact bl_alloc hHeld _) | (with_reducible exact bl_drew (bl_alloc (Below.refl _ _) _)) | (with_reducible exact bl_alloc (bl_then (bl_drew (Below.refl _ _)) hB2) _) | (with_reducible exact bl_then hHeld hB2) | (with_reducible exact bl_put13 hHeld (by rw [World.size_alloc]; exact Nat.le_refl _))
        clear hK K
        try simp only [Act.put, List.getElem_toArray, List.getElem_cons_succ, List.getElem_cons_zero, List.setIfInBounds_toArray, List.set_cons_zero, List.set_cons_succ]
        refine wpAnyH_done (by kernel_rfl) ?_ _
        refine NoPanic.normal ?_
        first | have hz := put13 (u0 := .int .i64 s) (u1 := .int .u8 (a1 / 16777216)) (u2 := .int .u8 (a1 / 65536 % 256)) (u3 := .int .u8 (a1 / 256 % 256)) (u4 := .int .u8 (a1 % 256)) (u5 := .int .i64 t) (u6 := .int .u64 a3) (u7 := .int .u64 a4) (u8 := .int .u64 a5) (u9 := .int .u64 a6) (u10 := .int .u64 a7) (u11 := .int .u64 a8) (u12 := .int .u64 a9) hzz | have hz := bk_new w2 #[.int .i64 s, .int .u8 (a1 / 16777216), .int .u8 (a1 / 65536 % 256), .int .u8 (a1 / 256 % 256), .int .u8 (a1 % 256), .int .i64 t, .int .u64 a3, .int .u64 a4, .int .u64 a5, .int .u64 a6, .int .u64 a7, .int .u64 a8, .int .u64 a9] 28
        have hr2 := bk_below hHeld hb2.out
        have hBf := bl_then hB2z.out hHeld
        obtain ⟨z0, z1, z2, z3, z4, z5, z6, z7, z8, z9, z10, z11, z12, f0, f1, f2, f3, f4, f5, f6, f7, f8, f9, f10, f11, f12⟩ := cells13 hz
        obtain ⟨r0, r1, r2, r3, r4, r5, r6, r7, r8, r9, r10, r11, r12, g0, g1, g2, g3, g4, g5, g6, g7, g8, g9, g10, g11, g12⟩ := cells13 hr2
        cases o1 with
        | false =>
          obtain ⟨rfl, rfl⟩ := ofV_no hv.out (hbad.out (Or.inl rfl))
          go_wp2_with (fail)
          refine bodyPost_ret (res_pof (put13 hr2) _ rfl rfl) rfl ⟨rfl, ?_⟩
          (with_reducible exact bl_put13 hBf (Nat.le_refl _))
        | true =>
          cases o2 with
          | false =>
            obtain ⟨rfl, rfl⟩ := ofV_no hv.out (hbad.out (Or.inr rfl))
            go_wp2_with (fail)
            refine bodyPost_ret (res_pof (put13 hr2) _ rfl rfl) rfl ⟨rfl, ?_⟩
            (with_reducible exact bl_put13 hBf (Nat.le_refl _))
          | true =>
            have e12 := Lib.hid (hgood.out rfl rfl)
            have hB' : ofB [a0, a1, a2, a3, a4, a5, a6, a7, a8, a9] = rightP (s, (a1 / 16777216, a1 / 65536 % 256, a1 / 256 % 256, a1 % 256, t), a3, a4, a5, a6, a7, a8, a9) := by rw [hB.out, e12.out.1, e12.out.2]
            cases hv2 : rightP (s, (a1 / 16777216, a1 / 65536 % 256, a1 / 256 % 256, a1 % 256, t), a3, a4, a5, a6, a7, a8, a9) with
            | false =>
              obtain ⟨rfl, rfl⟩ := ofV_no hv.out (hB'.trans hv2)
              replace hv2 := Lib.hid hv2
              clear hB'
              go_wp2_with (go_at_call 17; (with_reducible refine (hpr.out _).mono ?_); rw [hv2.out]; rintro e w3 ⟨rfl, hB3⟩; have hr3 := bk_below hB3 hr2; obtain ⟨r0, r1, r2, r3, r4, r5, r6, r7, r8, r9, r10, r11, r12, g0, g1, g2, g3, g4, g5, g6, g7, g8, g9, g10, g11, g12⟩ := cells13 hr3)
              refine bodyPost_ret (res_pof (put13 hr3) _ rfl rfl) rfl ⟨rfl, ?_⟩
              (with_reducible exact bl_put13 (bl_then hBf hB3) (Nat.le_refl _))
            | true =>
              have hpc : p = (s, (a1 / 16777216, a1 / 65536 % 256, a1 / 256 % 256, a1 % 256, t), a3, a4, a5, a6, a7, a8, a9) ∧ c = 0 := by rw [e12.out.1, e12.out.2]; exact ofV_yes hv.out (hB'.trans hv2)
              obtain ⟨rfl, rfl⟩ := hpc
              replace hv2 := Lib.hid hv2
              clear hB'
              go_wp2_with (go_at_call 17; (with_reducible refine (hpr.out _).mono ?_); rw [hv2.out]; rintro e w3 ⟨rfl, hB3⟩; have hr3 := bk_below hB3 hr2; have hz3 := bk_below hB3 hz; obtain ⟨r0, r1, r2, r3, r4, r5, r6, r7, r8, r9, r10, r11, r12, g0, g1, g2, g3, g4, g5, g6, g7, g8, g9, g10, g11, g12⟩ := cells13 hr3; obtain ⟨z0, z1, z2, z3, z4, z5, z6, z7, z8, z9, z10, z11, z12, f0, f1, f2, f3, f4, f5, f6, f7, f8, f9, f10, f11, f12⟩ := cells13 hz3)
              refine bodyPost_ret (res_pof (put13 hr3) _ rfl rfl) rfl ⟨rfl, ?_⟩
              (with_reducible exact bl_put13 (bl_then hBf hB3) (Nat.le_refl _))
  · have hB : ofB l = false := by unfold ofB; rw [decide_eq_false h10]; rfl
    obtain ⟨rfl, rfl⟩ := ofV_no hv hB
    have d0 : decide (l.length = 10) = false := decide_eq_false h10
    dsimp only
    go_enter Try.func15, Try.ntmps15
    go_wp2_with (fail)
    refine bodyPost_ret (res_pof (bk_new _ _ _) _ rfl rfl) rfl ⟨rfl, hB2z⟩
end Go.Proofs.Ytfcekicjlgdmaaa
