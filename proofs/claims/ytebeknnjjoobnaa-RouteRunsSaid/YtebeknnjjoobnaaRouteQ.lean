/- Two routes, two lists of routes: the same? (floodgateref06.Same) -/
import Derived.Test.YtebeknnjjoobnaaRouteL
set_option linter.unusedVariables false
set_option linter.unusedSimpArgs false
set_option maxRecDepth 100000
namespace Go.Proofs.Ytebeknnjjoobnaa
open Go.RowKit
attribute [local go_sem] max2_int min2_int max_two min_two
attribute [local go_sem ↓] eql_nt neq_nt eql_ad net_addr net_bits

def RtOk (x : Rt) : Prop := NtOkT x.1 ∧ -9223372036854775808 ≤ x.2 ∧ x.2 ≤ 9223372036854775807
def rtLeaves : List Leaf := [.i .u8, .i .u8, .i .u8, .i .u8, .i .i64, .i .i64]
instance rt_dec : DecidableEq Rt := inferInstance
def eqR (x y : Rt) : Bool := decide (x = y)
theorem eqR_iff {x y : Rt} : eqR x y = true ↔ x = y := by unfold eqR; simp
theorem rt_fits {x : Rt} (h : RtOk x) : Fits rtLeaves (rtRow x) :=
  ⟨⟨_, rfl, u8_wf h.1.1.1⟩, ⟨_, rfl, u8_wf h.1.1.2.1⟩, ⟨_, rfl, u8_wf h.1.1.2.2.1⟩, ⟨_, rfl, u8_wf h.1.1.2.2.2⟩, ⟨_, rfl, i64_wf h.1.2⟩, ⟨_, rfl, i64_wf h.2⟩, trivial⟩
theorem rtRow_inj {x y : Rt} (h : rtRow x = rtRow y) : x = y := by
  simp only [rtRow, List.cons.injEq, Value.int.injEq, true_and, and_true] at h
  exact Prod.ext (Prod.ext h.1 (Prod.ext h.2.1 (Prod.ext h.2.2.1 (Prod.ext h.2.2.2.1 h.2.2.2.2.1)))) h.2.2.2.2.2
theorem rt_leaves : leaves Try.prog 8 35 = some rtLeaves := by kernel_rfl
theorem rt_keyT : Try.prog.keyTypeAt 8 35 = true := by kernel_rfl
theorem rt_cells : Try.prog.cellsOf 35 = rtLeaves.length := by kernel_rfl
theorem rt_wide : (match Try.prog.underlying 35 with | some (.struct _) | some (.array _ _) => true | _ => false) = true := by kernel_rfl
theorem equal_rt {x y : Rt} (h : RtOk x) (h' : RtOk y) (w : World) : (Op.equalIn 10000 35 (.agg #[.int .u8 x.1.1, .int .u8 x.1.2.1, .int .u8 x.1.2.2.1, .int .u8 x.1.2.2.2.1, .int .i64 x.1.2.2.2.2, .int .i64 x.2]) (.agg #[.int .u8 y.1.1, .int .u8 y.1.2.1, .int .u8 y.1.2.2.1, .int .u8 y.1.2.2.2.1, .int .i64 y.1.2.2.2.2, .int .i64 y.2])).run Try.prog w = .ok (eqR x y) w := by
  have hE := flat_equal rt_leaves rt_keyT (by omega) rt_cells rt_wide (rt_fits h) (rt_fits h') w
  by_cases e : x = y
  · rw [eqR_iff.2 e]
    exact hE.1 (by rw [e])
  · rw [show eqR x y = false from decide_eq_false e]
    exact hE.2 fun h => e (rtRow_inj h)
theorem eql_rt {a b c d n v a' b' c' d' n' v' : Int} (h : RtOk ((a, b, c, d, n), v)) (h' : RtOk ((a', b', c', d', n'), v')) (w : World) : (binOp .eql 35 (.agg #[.int .u8 a, .int .u8 b, .int .u8 c, .int .u8 d, .int .i64 n, .int .i64 v]) (.agg #[.int .u8 a', .int .u8 b', .int .u8 c', .int .u8 d', .int .i64 n', .int .i64 v'])).run Try.prog w = .ok (.bool (eqR ((a, b, c, d, n), v) ((a', b', c', d', n'), v'))) w := by
  rw [run_eql_struct, equal_rt h h']; rfl
theorem neq_rt {a b c d n v a' b' c' d' n' v' : Int} (h : RtOk ((a, b, c, d, n), v)) (h' : RtOk ((a', b', c', d', n'), v')) (w : World) : (binOp .neq 35 (.agg #[.int .u8 a, .int .u8 b, .int .u8 c, .int .u8 d, .int .i64 n, .int .i64 v]) (.agg #[.int .u8 a', .int .u8 b', .int .u8 c', .int .u8 d', .int .i64 n', .int .i64 v'])).run Try.prog w = .ok (.bool (!eqR ((a, b, c, d, n), v) ((a', b', c', d', n'), v'))) w := by
  rw [run_neq_struct, equal_rt h h']; rfl
theorem rt_cellsAt {w : World} {a : Addr} {x : Rt} (h : RowAt w a (rtRow x)) :
    w.cell? a = some (.int .u8 x.1.1) ∧ w.cell? ⟨a.block, a.off + 1, none⟩ = some (.int .u8 x.1.2.1) ∧ w.cell? ⟨a.block, a.off + 2, none⟩ = some (.int .u8 x.1.2.2.1) ∧ w.cell? ⟨a.block, a.off + 3, none⟩ = some (.int .u8 x.1.2.2.2.1) ∧ w.cell? ⟨a.block, a.off + 4, none⟩ = some (.int .i64 x.1.2.2.2.2) ∧ w.cell? ⟨a.block, a.off + 5, none⟩ = some (.int .i64 x.2) :=
  ⟨h.head, h.at_ 1 _ rfl (by decide), h.at_ 2 _ rfl (by decide), h.at_ 3 _ rfl (by decide), h.at_ 4 _ rfl (by decide), h.at_ 5 _ rfl (by decide)⟩
theorem ext_getD {α : Type} (z : α) {a b : List α} (hl : a.length = b.length) (h : ∀ j, j < a.length → a.getD j z = b.getD j z) : a = b := by
  refine List.ext_getElem hl (fun j h1 h2 => ?_)
  have := h j h1
  rwa [List.getD_eq_getElem?_getD, List.getD_eq_getElem?_getD, List.getElem?_eq_getElem h1, List.getElem?_eq_getElem h2] at this
attribute [local go_sem ↓] eql_rt neq_rt

theorem same_len (A B : Option Addr) (c d n n' : Nat) (w : World) (hne : n ≠ n') : Calls Try.prog 15 #[.slice A n c, .slice B n' d] w fun e w' => e = .returned (.bool false) ∧ Below w.heap.size w w' := by
  have h1 : ((n : Int) == (n' : Int)) = false := by simp; omega
  go_enter Try.func15, Try.ntmps15
  go_wp2
  go_ret
  exact ⟨rfl, Below.refl _ _⟩
set_option maxHeartbeats 1600000 in
theorem same_eq (A B : Option Addr) (c d n : Nat) (ps qs : List Rt) (w : World) (hn : ps.length = n) (hn' : qs.length = n) (hp : RtAt w A ps) (hq : RtAt w B qs) (hpo : ∀ x ∈ ps, RtOk x) (hqo : ∀ x ∈ qs, RtOk x) (hm : n ≤ 1000) :
    Calls Try.prog 15 #[.slice A n c, .slice B n d] w fun e w' => e = .returned (.bool (decide (ps = qs))) ∧ Below w.heap.size w w' := by
  obtain ⟨V, hV⟩ : ∃ V, decide (ps = qs) = V := ⟨_, rfl⟩
  rw [hV]
  replace hV := Lib.hid hV
  replace hp := Lib.hid hp
  replace hq := Lib.hid hq
  replace hn := Lib.hid hn
  replace hn' := Lib.hid hn'
  replace hpo := Lib.hid hpo
  replace hqo := Lib.hid hqo
  go_enter Try.func15, Try.ntmps15
  go_wp2
  go_loopw [13] (fun v wr => ∃ i : Nat, v = .int .i64 i ∧ i ≤ n ∧ (∀ j, j < i → ps.getD j zeroRt = qs.getD j zeroRt) ∧ Below w.heap.size w wr) (fun v _ => n - (intOf v).toNat)
  case atStart => exact ⟨0, rfl, Nat.zero_le _, fun i hi => absurd hi (by omega), Below.refl _ _⟩
  case round =>
    obtain ⟨i, rfl, hi, hgd, hBl⟩ := hrel
    replace hgd := Lib.hid hgd
    by_cases hkl : i < n
    · have hkl2 : decide ((i : Int) < (n : Int)) = true := decide_eq_true (by omega)
      have hk1 : (i : Int) < (n : Int) := by omega
      have hk2 : decide ((i : Int) < 0) = false := decide_eq_false (by omega)
      have hk3 : decide ((n : Int) ≤ (i : Int)) = false := decide_eq_false (by omega)
      have hk4 : decide (n ≤ i) = false := decide_eq_false (by omega)
      obtain ⟨ad, rfl, hrow⟩ := hp.out i (by rw [hn.out]; exact hkl)
      obtain ⟨bd, rfl, hrow2⟩ := hq.out i (by rw [hn'.out]; exact hkl)
      have hok := hpo.out (ps.getD i zeroRt) (by rw [List.getD_eq_getElem?_getD, List.getElem?_eq_getElem (by rw [hn.out]; exact hkl)]; exact List.getElem_mem _)
      have hok2 := hqo.out (qs.getD i zeroRt) (by rw [List.getD_eq_getElem?_getD, List.getElem?_eq_getElem (by rw [hn'.out]; exact hkl)]; exact List.getElem_mem _)
      obtain ⟨x, hxx⟩ : ∃ x, ps.getD i zeroRt = x := ⟨_, rfl⟩
      obtain ⟨y, hyy⟩ : ∃ y, qs.getD i zeroRt = y := ⟨_, rfl⟩
      rw [hxx] at hok hrow
      rw [hyy] at hok2 hrow2
      have hox : RtOk ((x.1.1, x.1.2.1, x.1.2.2.1, x.1.2.2.2.1, x.1.2.2.2.2), x.2) := hok
      have hoy : RtOk ((y.1.1, y.1.2.1, y.1.2.2.1, y.1.2.2.2.1, y.1.2.2.2.2), y.2) := hok2
      obtain ⟨b, hb⟩ : ∃ b, eqR ((x.1.1, x.1.2.1, x.1.2.2.1, x.1.2.2.2.1, x.1.2.2.2.2), x.2) ((y.1.1, y.1.2.1, y.1.2.2.1, y.1.2.2.2.1, y.1.2.2.2.2), y.2) = b := ⟨_, rfl⟩
      replace hxx := Lib.hid hxx
      replace hyy := Lib.hid hyy
      go_wp2_with (fail)
      refine wp_region_noPanic ?_
      refine wp_region_held_drew (S := fun w' => Below w.heap.size w w') (by kernel_rfl) (bl_drew hBl) (fun hHeld => ?_)
      refine wpAnyH_take (i := 0) (oi := { dst := some 16, op := Go.Op.move (Go.Operand.tmp 0), type := 41, pos := "ref.go:64", after := #[], guard := none }) (v := ?_) rfl (by kernel_rfl) (by kernel_rfl) (by kernel_rfl) (fun _ _ _ h => h) (Or.inl ⟨by rfl, ?_⟩) (by assumption) ?_
      rotate_left 1
      · intro w' hSw
        first | (go_simp; done) | (go_simp; with_reducible rfl)
      try simp only [Act.put, List.getElem_toArray, List.getElem_cons_succ, List.getElem_cons_zero, List.setIfInBounds_toArray, List.set_cons_zero, List.set_cons_succ]
      refine wpAnyH_take (i := 1) (oi := { dst := some 17, op := Go.Op.move (Go.Operand.tmp 5), type := 3, pos := "ref.go:64", after := #[], guard := none }) (v := ?_) rfl (by kernel_rfl) (by kernel_rfl) (by kernel_rfl) (fun _ _ _ h => h) (Or.inl ⟨by rfl, ?_⟩) (by assumption) ?_
      rotate_left 1
      · intro w' hSw
        first | (go_simp; done) | (go_simp; with_reducible rfl)
      try simp only [Act.put, List.getElem_toArray, List.getElem_cons_succ, List.getElem_cons_zero, List.setIfInBounds_toArray, List.set_cons_zero, List.set_cons_succ]
      refine wpAnyH_take (i := 2) (oi := { dst := some 18, op := Go.Op.indexAddr 41 (Go.Operand.tmp 16) (Go.Operand.tmp 17), type := 0, pos := "ref.go:64", after := #[{ on := 0, ground := Go.Ground.data }, { on := 1, ground := Go.Ground.data }], guard := none }) (v := ?_) rfl (by kernel_rfl) (by kernel_rfl) (by kernel_rfl) (fun _ _ _ h => h) (Or.inl ⟨by rfl, ?_⟩) (by assumption) ?_
      rotate_left 1
      · intro w' hSw
        first | (go_simp; done) | (go_simp; with_reducible rfl)
      try simp only [Act.put, List.getElem_toArray, List.getElem_cons_succ, List.getElem_cons_zero, List.setIfInBounds_toArray, List.set_cons_zero, List.set_cons_succ]
      refine wpAnyH_take (i := 3) (oi := { dst := some 19, op := Go.Op.load 35 (Go.Operand.tmp 18), type := 35, pos := "ref.go:64", after := #[{ on := 2, ground := Go.Ground.data }], guard := none }) (v := ?_) rfl (by kernel_rfl) (by kernel_rfl) (by kernel_rfl) (fun _ _ _ h => h) (Or.inl ⟨by rfl, ?_⟩) (by assumption) ?_
      rotate_left 1
      · intro w' hSw
        obtain ⟨c0, c1, c2, c3, c4, c5⟩ := rt_cellsAt (hrow.far hSw)
        first | (go_simp; done) | (go_simp; with_reducible rfl)
      try simp only [Act.put, List.getElem_toArray, List.getElem_cons_succ, List.getElem_cons_zero, List.setIfInBounds_toArray, List.set_cons_zero, List.set_cons_succ]
      refine wpAnyH_take (i := 4) (oi := { dst := some 20, op := Go.Op.move (Go.Operand.tmp 1), type := 41, pos := "ref.go:64", after := #[], guard := none }) (v := ?_) rfl (by kernel_rfl) (by kernel_rfl) (by kernel_rfl) (fun _ _ _ h => h) (Or.inl ⟨by rfl, ?_⟩) (by assumption) ?_
      rotate_left 1
      · intro w' hSw
        first | (go_simp; done) | (go_simp; with_reducible rfl)
      try simp only [Act.put, List.getElem_toArray, List.getElem_cons_succ, List.getElem_cons_zero, List.setIfInBounds_toArray, List.set_cons_zero, List.set_cons_succ]
      refine wpAnyH_take (i := 5) (oi := { dst := some 21, op := Go.Op.move (Go.Operand.tmp 5), type := 3, pos := "ref.go:64", after := #[], guard := none }) (v := ?_) rfl (by kernel_rfl) (by kernel_rfl) (by kernel_rfl) (fun _ _ _ h => h) (Or.inl ⟨by rfl, ?_⟩) (by assumption) ?_
      rotate_left 1
      · intro w' hSw
        first | (go_simp; done) | (go_simp; with_reducible rfl)
      try simp only [Act.put, List.getElem_toArray, List.getElem_cons_succ, List.getElem_cons_zero, List.setIfInBounds_toArray, List.set_cons_zero, List.set_cons_succ]
      refine wpAnyH_take (i := 6) (oi := { dst := some 22, op := Go.Op.indexAddr 41 (Go.Operand.tmp 20) (Go.Operand.tmp 21), type := 0, pos := "ref.go:64", after := #[{ on := 4, ground := Go.Ground.data }, { on := 5, ground := Go.Ground.data }], guard := none }) (v := ?_) rfl (by kernel_rfl) (by kernel_rfl) (by kernel_rfl) (fun _ _ _ h => h) (Or.inl ⟨by rfl, ?_⟩) (by assumption) ?_
      rotate_left 1
      · intro w' hSw
        first | (go_simp; done) | (go_simp; with_reducible rfl)
      try simp only [Act.put, List.getElem_toArray, List.getElem_cons_succ, List.getElem_cons_zero, List.setIfInBounds_toArray, List.set_cons_zero, List.set_cons_succ]
      refine wpAnyH_take (i := 7) (oi := { dst := some 23, op := Go.Op.load 35 (Go.Operand.tmp 22), type := 35, pos := "ref.go:64", after := #[{ on := 6, ground := Go.Ground.data }], guard := none }) (v := ?_) rfl (by kernel_rfl) (by kernel_rfl) (by kernel_rfl) (fun _ _ _ h => h) (Or.inl ⟨by rfl, ?_⟩) (by assumption) ?_
      rotate_left 1
      · intro w' hSw
        obtain ⟨c0, c1, c2, c3, c4, c5⟩ := rt_cellsAt (hrow2.far hSw)
        first | (go_simp; done) | (go_simp; with_reducible rfl)
      try simp only [Act.put, List.getElem_toArray, List.getElem_cons_succ, List.getElem_cons_zero, List.setIfInBounds_toArray, List.set_cons_zero, List.set_cons_succ]
      refine wpAnyH_take (i := 8) (oi := { dst := some 24, op := Go.Op.binOp Go.BinOp.neq 35 (Go.Operand.tmp 19) (Go.Operand.tmp 23) 35, type := 4, pos := "ref.go:64", after := #[{ on := 3, ground := Go.Ground.data }, { on := 7, ground := Go.Ground.data }], guard := none }) (v := ?_) rfl (by kernel_rfl) (by kernel_rfl) (by kernel_rfl) (fun _ _ _ h => h) (Or.inl ⟨by rfl, ?_⟩) (by assumption) ?_
      rotate_left 1
      · intro w' hSw
        first | (go_simp; done) | (go_simp; with_reducible rfl)
      try simp only [Act.put, List.getElem_toArray, List.getElem_cons_succ, List.getElem_cons_zero, List.setIfInBounds_toArray, List.set_cons_zero, List.set_cons_succ]
      refine wpAnyH_done (by kernel_rfl) ?_ _
      refine NoPanic.normal ?_
      cases b with
      | true =>
        have hxy : ps.getD i zeroRt = qs.getD i zeroRt := by rw [hxx.out, hyy.out]; exact eqR_iff.1 hb
        replace hxy := Lib.hid hxy
        go_wp2
        refine ⟨⟨i + 1, by first | rfl | (congr 1; omega), by omega, fun j hj => ?_, bl_drew hBl⟩, by simp [intOf]; omega⟩
        rcases Nat.lt_or_ge j i with h | h
        · exact hgd.out j h
        · obtain rfl : j = i := by omega
          exact hxy.out
      | false =>
        have hv : V = false := by
          rw [← hV.out]
          refine decide_eq_false (fun h => ?_)
          have : x = y := by rw [← hxx.out, ← hyy.out, h]
          rw [eqR_iff.2 this] at hb
          cases hb
        subst hv
        go_wp2
        go_ret
        exact ⟨rfl, bl_drew hBl⟩
    · have hkl2 : decide ((i : Int) < (n : Int)) = false := decide_eq_false (by omega)
      have hv : V = true := by
        rw [← hV.out]
        exact decide_eq_true (ext_getD zeroRt (hn.out.trans hn'.out.symm) (fun j hj => hgd.out j (by have := hn.out; omega)))
      subst hv
      go_wp2
      go_ret
      exact ⟨rfl, hBl⟩
theorem same_any (A B : Option Addr) (c d : Nat) (ps qs : List Rt) (w : World) (hp : RtAt w A ps) (hq : RtAt w B qs) (hpo : ∀ x ∈ ps, RtOk x) (hqo : ∀ x ∈ qs, RtOk x) (hm : ps.length ≤ 1000) :
    Calls Try.prog 15 #[.slice A ps.length c, .slice B qs.length d] w fun e w' => e = .returned (.bool (decide (ps = qs))) ∧ Below w.heap.size w w' := by
  by_cases h : ps.length = qs.length
  · rw [← h]
    exact same_eq A B c d ps.length ps qs w rfl h.symm hp hq hpo hqo hm
  · rw [decide_eq_false (fun e => h (by rw [e]) : ¬ ps = qs)]
    exact same_len A B c d _ _ w h
end Go.Proofs.Ytebeknnjjoobnaa
