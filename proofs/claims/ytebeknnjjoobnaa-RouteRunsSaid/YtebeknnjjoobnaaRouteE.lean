/- Rows of routes appended; floodgateref06.Delete. -/
import Derived.Test.YtebeknnjjoobnaaRouteQ
import Derived.Test.YtebeknnjjoobnaaRouteV
import Derived.Test.YtebeknnjjoobnaaWWords
import Derived.Maps.AppendAt
set_option linter.unusedVariables false
set_option linter.unusedSimpArgs false
set_option maxRecDepth 100000
namespace Go.Proofs.Ytebeknnjjoobnaa
open Go.RowKit Go.Proofs.YtebeknnjjoobnaaW.PrintWords
attribute [local go_sem] max2_int min2_int max_two min_two
attribute [local go_sem ↓] eql_nt neq_nt eql_ad net_addr net_bits eql_rt neq_rt

theorem rrows_app (xs ys : List Rt) : rrows (xs ++ ys) = rrows xs ++ rrows ys := by unfold rrows; rw [List.map_append, List.flatten_append]
theorem rrows_one {ps : List Rt} {u : Value} (h : u ∈ rrows ps) : u.oneCell' = true := by
  unfold rrows at h
  rw [List.mem_flatten] at h
  obtain ⟨r, hr, hu⟩ := h
  obtain ⟨p, _, rfl⟩ := List.mem_map.1 hr
  exact rt_one p u hu
theorem RtAt.rows {w : World} {ad : Addr} {ps : List Rt} (h : RtAt w (some ad) ps) (j : Nat) (u : Value) (hu : (rrows ps)[j]? = some u) : w.cell? (ad.add j) = some u := by
  have hj : j < ps.length * 6 := by rw [← rrows_len]; exact (List.getElem?_eq_some_iff.1 hu).1
  obtain ⟨x, hx, hr⟩ := h (j / 6) (by omega)
  obtain rfl := Option.some.inj hx
  have h1 := hr (j % 6) (by rw [rtRow_len]; omega)
  rw [addr_add, show j / 6 * 6 + j % 6 = j by omega] at h1
  rw [h1, ← rrows_at ps (j / 6) (by omega) (j % 6) (by omega), show j / 6 * 6 + j % 6 = j by omega, hu]
theorem rts_own {w : World} {base : Nat} {e : TypeId} {v : Value} {ps : List Rt} (h : w.ownsRow base e 6 v ps.length (rrows ps)) : ∃ A c, v = .slice A ps.length c ∧ RtAt w A ps ∧ ps.length ≤ c ∧ c ≤ 9223372036854775807 := by
  rcases h.2 with ⟨rfl, h0⟩ | ⟨g, cap, cur, rfl, hb, hg, hn, hm, hs, ht⟩
  · refine ⟨none, 0, by rw [h0], fun i hi => absurd hi (by omega), by omega, by omega⟩
  · refine ⟨_, cap, rfl, fun i hi => ⟨_, rfl, fun j hj => ?_⟩, hn, hm⟩
    rw [rtRow_len] at hj
    rw [addr_add, Addr.add_lit, Nat.zero_add, cell_of_row w g _ cur e (0, 0) hg, ← rrows_at ps i hi j hj, ← ht, List.getElem?_take, if_pos (by omega)]
    simp
theorem own_none (W : World) (base : Nat) (hb : base ≤ W.heap.size) : (W.alloc (.cells #[] 35)).ownsRow base 35 6 (.slice (some ⟨W.heap.size, 0, none⟩) 0 0) ([] : List Rt).length (rrows []) :=
  ⟨rfl, .inr ⟨W.heap.size, 0, #[], rfl, hb, heap_alloc_new W _, Nat.le_refl _, Nat.zero_le _, rfl, rfl⟩⟩
section
variable {ops : Array Oper} {rest : List Oper} {o : Oper} {a : Act} {Q : Exit → Act → World → Prop}
/-- Routes behind routes: the run. -/
theorem run_append_rts {w0 W : World} (base : Nat) (ty : TypeId) (v : Value) (xs ys : List Rt) (A : Option Addr) (m c : Nat) (hm : m = ys.length)
    (HO : W.ownsRow base 35 6 v xs.length (rrows xs)) (HR : RtAt W A ys) (HB : Below base w0 W) (hbase : base ≤ W.heap.size) (hl : xs.length + m ≤ 1000) :
    ∃ v1 w1, (Builtin.append_ #[41, 41] ty #[v, .slice A m c]).run Try.prog W = .ok v1 w1 ∧ w1.ownsRow base 35 6 v1 (xs ++ ys).length (rrows (xs ++ ys)) ∧ Below base w0 w1 := by
  obtain ⟨i0, hi, hzz⟩ := Option.map_eq_some_iff.1 inf_rt
  simp only [Prod.mk.injEq] at hzz
  obtain ⟨hz0, hz1, hz2⟩ := hzz
  rcases A with _ | ad
  · have h0 : ys = [] := by
      cases ys with
      | nil => rfl
      | cons y ys => obtain ⟨x, h, _⟩ := HR 0 (by simp); cases h
    subst h0
    subst hm
    refine ⟨v, W, ?_, by simpa using HO, HB⟩
    rcases HO.2 with ⟨rfl, hn⟩ | ⟨g, cap, cur, rfl, _, _, hnc, _⟩
    · simp [Builtin.append_, run_underlying Try.underlying41, sizeOf, typeInfo, hi, Builtin.lenOf, Builtin.firstCells]
    · simp [Builtin.append_, run_underlying Try.underlying41, sizeOf, typeInfo, hi, Builtin.lenOf, Builtin.firstCells, hnc, storeCells]
  · obtain ⟨v1, w1, hr, h2, h3, _, h5⟩ := run_append_own_at (P := Try.prog) W base 41 ty 35 i0 (.agg #[.int .u8 0, .int .u8 0, .int .u8 0, .int .u8 0, .int .i64 0, .int .i64 0]) 6 24 Try.underlying41 hi hz0 hz1 hz2 rfl (by omega) v xs.length (rrows xs) HO ad m c (rrows ys) (by rw [rrows_len, hm]) (fun j u hu => HR.rows j u hu)
        (fun u hu => rrows_one hu) (by simp only [maxLen]; omega) (by omega) hbase
    refine ⟨v1, w1, hr, ?_, HB.grown h3 hbase (own_base HO)⟩
    rw [rrows_app, List.length_append, ← hm]
    exact h2
theorem append_rts {w0 W : World} (base : Nat) (hgd : Region.wanted o (yielded ops a.tmps) = true) (s x : Operand)
    (ho : o.op = .call { callee := .builtin .append, args := #[s, x], argTypes := #[41, 41] })
    (v : Value) (xs ys : List Rt) (A : Option Addr) (m c : Nat) (hs : a.eval s = v) (hx : a.eval x = .slice A m c) (hm : m = ys.length)
    (HO : W.ownsRow base 35 6 v xs.length (rrows xs)) (HR : RtAt W A ys) (HB : Below base w0 W) (hbase : base ≤ W.heap.size) (hl : xs.length + m ≤ 1000)
    (h : ∀ v1 w1, w1.ownsRow base 35 6 v1 (xs ++ ys).length (rrows (xs ++ ys)) → Below base w0 w1 → wpList Try.prog ops Q rest (a.put o.dst v1) w1) :
    wpList Try.prog ops Q (o :: rest) a W := by
  obtain ⟨v1, w1, hr, hown, hB⟩ := run_append_rts base o.type v xs ys A m c hm HO HR HB hbase hl
  refine wpList_step fun K hK => ?_
  rw [if_pos hgd]
  unfold Oper.wp execOp
  simp only [ho, resolve, invoke, builtin, Sem.run_bind, Sem.run_pure, Result.andThen_ok, List.map_toArray, List.map_cons, List.map_nil, hs, hx, hr]
  exact hK _ _ (h v1 w1 hown hB)
end
/-- A slice of one route, just made. -/
theorem rt_lit {W : World} {B : Nat} (h : W.heap.size = B) (x : Rt) : RtAt (W.alloc (.cells #[.int .u8 x.1.1, .int .u8 x.1.2.1, .int .u8 x.1.2.2.1, .int .u8 x.1.2.2.2.1, .int .i64 x.1.2.2.2.2, .int .i64 x.2] 35)) (some ⟨B, 0, none⟩) [x] := fun i hi => by
  obtain rfl : i = 0 := by simpa using hi
  refine ⟨_, rfl, fun j hj => ?_⟩
  have h1 : (rtRow x)[j]? = some (rtRow x)[j] := List.getElem?_eq_getElem hj
  have h2 := rt_news h x j _ h1
  rw [addr_add, Nat.zero_mul, Nat.zero_add]
  show _ = (rtRow x)[j]?
  rw [h1, h2]
theorem take_snoc (d : List Rt) (i : Nat) (hi : i < d.length) : d.take (i + 1) = d.take i ++ [d.getD i zeroRt] := by
  rw [List.take_add_one, List.getD_eq_getElem?_getD, List.getElem?_eq_getElem hi]; rfl
theorem mdel_step (d : List Rt) (x : Nt) (i : Nat) (hi : i < d.length) : mdel (d.take (i + 1)) x = if (d.getD i zeroRt).1 = x then mdel (d.take i) x else mdel (d.take i) x ++ [d.getD i zeroRt] := by
  unfold mdel
  rw [take_snoc d i hi, List.filter_append]
  by_cases h : (d.getD i zeroRt).1 = x
  · rw [if_pos h, List.filter_cons_of_neg (by simp only [ne_eq, h, not_true, decide_false]; exact Bool.false_ne_true), List.filter_nil, List.append_nil]
  · rw [if_neg h, List.filter_cons_of_pos (by simp only [ne_eq, h, not_false_iff, decide_true]), List.filter_nil]
theorem mdel_len (d : List Rt) (x : Nt) : (mdel d x).length ≤ d.length := List.length_filter_le _ _
def DelPost (d : List Rt) (x : Nt) (w : World) (e : Ending) (w' : World) : Prop := ∃ B c, e = .returned (.tuple #[.slice B (mdel d x).length c, .bool (decide ((mdel d x).length < d.length))]) ∧ RtAt w' B (mdel d x) ∧ (mdel d x).length ≤ c ∧ c ≤ 9223372036854775807 ∧ Below w.heap.size w w'
set_option maxHeartbeats 1600000 in
theorem rdel_any (A : Option Addr) (dl : List Rt) (cap : Nat) (w : World) (hr : RtAt w A dl) (hro : ∀ x ∈ dl, RtOk x) (hl : dl.length ≤ 1000 - 1) (a b c d n : Int) (hone : NtOk a b c d n) :
    Calls Try.prog 19 #[.slice A dl.length cap, .agg #[.int .u8 a, .int .u8 b, .int .u8 c, .int .u8 d, .int .i64 n]] w (DelPost dl (a, b, c, d, n) w) := by
  have hx0 := bk_new w #[.int .u8 a, .int .u8 b, .int .u8 c, .int .u8 d, .int .i64 n] 29
  have ho0 := own_none (w.alloc (.cells #[.int .u8 a, .int .u8 b, .int .u8 c, .int .u8 d, .int .i64 n] 29)) (w.alloc (.cells #[.int .u8 a, .int .u8 b, .int .u8 c, .int .u8 d, .int .i64 n] 29)).heap.size (Nat.le_refl _)
  have hB0 := bl_alloc (Below.refl _ w) (.cells #[.int .u8 a, .int .u8 b, .int .u8 c, .int .u8 d, .int .i64 n] 29)
  have hs1 : (w.alloc (.cells #[.int .u8 a, .int .u8 b, .int .u8 c, .int .u8 d, .int .i64 n] 29)).heap.size = w.heap.size + 1 := World.size_alloc _ _
  replace hr := Lib.hid hr
  replace hro := Lib.hid hro
  replace hx0 := Lib.hid hx0
  replace ho0 := Lib.hid ho0
  replace hB0 := Lib.hid hB0
  replace hs1 := Lib.hid hs1
  obtain ⟨N, hN⟩ : ∃ N, dl.length = N := ⟨_, rfl⟩
  rw [hN] at hl
  unfold DelPost
  rw [hN]
  replace hN := Lib.hid hN
  obtain ⟨q, hq⟩ : ∃ q, mdel dl (a, b, c, d, n) = q := ⟨_, rfl⟩
  rw [hq]
  obtain ⟨M, hM⟩ : ∃ M, q.length = M := ⟨_, rfl⟩
  rw [hM]
  obtain ⟨V, hV⟩ : ∃ V, decide (M < N) = V := ⟨_, rfl⟩
  have hV2 : decide ((M : Int) < (N : Int)) = V := by rw [← hV]; exact decide_eq_decide.2 Int.ofNat_lt
  rw [hV]
  replace hM := Lib.hid hM
  replace hq := Lib.hid hq
  go_enter Try.func19, Try.ntmps19
  go_wp2
  generalize w.alloc (.cells #[.int .u8 a, .int .u8 b, .int .u8 c, .int .u8 d, .int .i64 n] 29) = W1 at *
  have ho1 := ho0.out
  rw [hs1.out] at ho1
  replace ho1 := Lib.hid ho1
  clear ho0
  go_loopw [6, 12] (fun v6 v12 wr => ∃ i : Nat, v12 = .int .i64 i ∧ i ≤ N ∧ wr.ownsRow (w.heap.size + 1) 35 6 v6 (mdel (dl.take i) (a, b, c, d, n)).length (rrows (mdel (dl.take i) (a, b, c, d, n))) ∧ Below (w.heap.size + 1) W1 wr) (fun _ v _ => N - (intOf v).toNat)
  case atStart => exact ⟨0, rfl, Nat.zero_le _, ho1.out, by have h := bl_alloc (Below.refl _ W1) (.cells #[] 35); rw [hs1.out] at h; exact h⟩
  case round =>
    obtain ⟨i, rfl, hi, ho, hBl⟩ := hrel
    have hBw : Below w.heap.size w wr := bl_then hB0.out (by rw [hs1.out]; exact hBl)
    have hx1 : Bk wr w.heap.size _ _ := bk_below (by rw [hs1.out]; exact hBl) hx0.out
    replace ho := Lib.hid ho
    by_cases hil : i < N
    · have hil2 : decide ((i : Int) < (N : Int)) = true := decide_eq_true (by omega)
      obtain ⟨ad, rfl, hrow⟩ := hr.out i (by rw [hN.out]; exact hil)
      have hok := hro.out (dl.getD i zeroRt) (by rw [List.getD_eq_getElem?_getD, List.getElem?_eq_getElem (by rw [hN.out]; exact hil)]; exact List.getElem_mem _)
      have hst := mdel_step dl (a, b, c, d, n) i (by rw [hN.out]; exact hil)
      obtain ⟨y, hy⟩ : ∃ y, dl.getD i zeroRt = y := ⟨_, rfl⟩
      rw [hy] at hok hrow hst
      replace hst := Lib.hid hst
      replace hy := Lib.hid hy
      have hoy : NtOk y.1.1 y.1.2.1 y.1.2.2.1 y.1.2.2.2.1 y.1.2.2.2.2 := hok.1
      obtain ⟨c0, c1, c2, c3, c4, c5⟩ := rt_cellsAt (hrow.far hBw)
      obtain ⟨z0, z1, z2, z3, z4, _⟩ := hold5 (bk_alloc hx1 (.cells #[.int .u8 y.1.1, .int .u8 y.1.2.1, .int .u8 y.1.2.2.1, .int .u8 y.1.2.2.2.1, .int .i64 y.1.2.2.2.2, .int .i64 y.2] 35))
      have hBa : Below (w.heap.size + 1) W1 (wr.alloc (.cells #[.int .u8 y.1.1, .int .u8 y.1.2.1, .int .u8 y.1.2.2.1, .int .u8 y.1.2.2.2.1, .int .i64 y.1.2.2.2.2, .int .i64 y.2] 35)) := by
        have := hBl; rw [← hs1.out] at this ⊢; exact bl_alloc this _
      obtain ⟨bb, hb⟩ : ∃ bb, eqN (y.1.1, y.1.2.1, y.1.2.2.1, y.1.2.2.2.1, y.1.2.2.2.2) (a, b, c, d, n) = bb := ⟨_, rfl⟩
      replace hBl := Lib.hid hBl
      replace hBa := Lib.hid hBa
      replace hx1 := Lib.hid hx1
      cases bb with
      | true =>
        rw [if_pos (show y.1 = (a, b, c, d, n) from eqN_iff.1 hb)] at hst
        go_wp2
        exact ⟨⟨i + 1, by first | rfl | (congr 1; omega), by omega, by rw [hst.out]; exact pw_own_below ho.out (bl_alloc (Below.refl _ wr) _), hBa.out⟩, by simp [intOf]; omega⟩
      | false =>
        rw [if_neg (show ¬ y.1 = (a, b, c, d, n) from eqN_false.1 hb)] at hst
        have ho2 := pw_own_below ho.out (bl_alloc (bl_alloc (Below.refl _ wr) (.cells #[.int .u8 y.1.1, .int .u8 y.1.2.1, .int .u8 y.1.2.2.1, .int .u8 y.1.2.2.2.1, .int .i64 y.1.2.2.2.2, .int .i64 y.2] 35)) (.cells #[.int .u8 y.1.1, .int .u8 y.1.2.1, .int .u8 y.1.2.2.1, .int .u8 y.1.2.2.2.1, .int .i64 y.1.2.2.2.2, .int .i64 y.2] 35))
        have hBb : Below (w.heap.size + 1) W1 ((wr.alloc (.cells #[.int .u8 y.1.1, .int .u8 y.1.2.1, .int .u8 y.1.2.2.1, .int .u8 y.1.2.2.2.1, .int .i64 y.1.2.2.2.2, .int .i64 y.2] 35)).alloc (.cells #[.int .u8 y.1.1, .int .u8 y.1.2.1, .int .u8 y.1.2.2.1, .int .u8 y.1.2.2.2.1, .int .i64 y.1.2.2.2.2, .int .i64 y.2] 35)) := by
          have := hBa.out; rw [← hs1.out] at this ⊢; exact bl_alloc this _
        have hrl := rt_lit (World.size_alloc wr (.cells #[.int .u8 y.1.1, .int .u8 y.1.2.1, .int .u8 y.1.2.2.1, .int .u8 y.1.2.2.2.1, .int .i64 y.1.2.2.2.2, .int .i64 y.2] 35)) y
        have hml : (mdel (dl.take i) (a, b, c, d, n)).length + 1 ≤ 1000 := by have := mdel_len (dl.take i) (a, b, c, d, n); rw [List.length_take] at this; omega
        have hsb : w.heap.size + 1 ≤ ((wr.alloc (.cells #[.int .u8 y.1.1, .int .u8 y.1.2.1, .int .u8 y.1.2.2.1, .int .u8 y.1.2.2.2.1, .int .i64 y.1.2.2.2.2, .int .i64 y.2] 35)).alloc (.cells #[.int .u8 y.1.1, .int .u8 y.1.2.1, .int .u8 y.1.2.2.1, .int .u8 y.1.2.2.2.1, .int .i64 y.1.2.2.2.2, .int .i64 y.2] 35)).heap.size := by have := hBb.size; rw [hs1.out] at this; exact this
        replace ho2 := Lib.hid ho2
        replace hBb := Lib.hid hBb
        replace hrl := Lib.hid hrl
        replace hsb := Lib.hid hsb
        go_wp2_with (at_builtin; refine append_rts (w0 := W1) (w.heap.size + 1) rfl (.tmp 20) (.tmp 22) rfl _ (mdel (dl.take i) (a, b, c, d, n)) [y] (some ⟨wr.heap.size + 1, 0, none⟩) 1 1 rfl rfl rfl ho2.out hrl.out hBb.out hsb.out hml ?_; intro v1 w3 hown hB3)
        exact ⟨⟨i + 1, by first | rfl | (congr 1; omega), by omega, by rw [hst.out]; exact hown, hB3⟩, by simp [intOf]; omega⟩
    · have hil2 : decide ((i : Int) < (N : Int)) = false := decide_eq_false (by omega)
      obtain rfl : i = N := by omega
      have hq0 : dl.take i = dl := by rw [← hN.out, List.take_length]
      have ho3 := ho.out
      rw [hq0, hq.out] at ho3
      obtain ⟨B, cc, rfl, hrt, hlc, hmx⟩ := rts_own ho3
      clear ho3 hq0
      rw [hM.out] at hlc
      replace hrt := Lib.hid hrt
      go_wp2
      go_ret2
      exact ⟨B, cc, by rw [← hV, ← hM.out]; rfl, hrt.out, hlc, hmx, hBw⟩
end Go.Proofs.Ytebeknnjjoobnaa
