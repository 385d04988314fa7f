/- Contract: floodgateref06.Set. -/
import Derived.Test.YtebeknnjjoobnaaRouteE
import Derived.Test.YtebeknnjjoobnaaRouteF
set_option linter.unusedVariables false
set_option linter.unusedSimpArgs false
set_option maxRecDepth 100000
namespace Go.Proofs.Ytebeknnjjoobnaa
open Go.RowKit Go.Proofs.YtebeknnjjoobnaaW.PrintWords
attribute [local go_sem] max2_int min2_int max_two min_two
attribute [local go_sem ↓] eql_nt neq_nt eql_ad net_addr net_bits eql_rt neq_rt

def okD (dl : List Rt) (x : Nt) (who : Int) : Bool := rightT x && decide (0 ≤ who) && (decide ((mdel dl x).length < dl.length) || decide (dl.length < 64))
def cntB (q : Rt) : List Rt → Nat
  | [] => 0
  | y :: ys => if ltR y q then cntB q ys + 1 else 0
def insD (q : Rt) (r : List Rt) : List Rt := r.take (cntB q r) ++ [q] ++ r.drop (cntB q r)
def setD (dl : List Rt) (x : Nt) (who : Int) : List Rt := if okD dl x who then insD (x, who) (mdel dl x) else dl
def SetRPost (dl : List Rt) (x : Nt) (who : Int) (w : World) (e : Ending) (w' : World) : Prop := ∃ B c, e = .returned (.tuple #[.slice B (setD dl x who).length c, .int .i64 (if okD dl x who then 0 else 61)]) ∧ RtAt w' B (setD dl x who) ∧ Below w.heap.size w w'
theorem cntB_eq (q : Rt) : ∀ (r : List Rt) (i : Nat), i ≤ r.length → (∀ j, j < i → ltR (r.getD j zeroRt) q = true) → (i = r.length ∨ ltR (r.getD i zeroRt) q = false) → cntB q r = i
  | [], i, h, _, _ => by simp at h; rw [h]; rfl
  | y :: ys, 0, _, _, h => by
    rcases h with h | h
    · simp at h
    · have : ltR y q = false := h
      rw [cntB, this]; rfl
  | y :: ys, i + 1, hi, h, h' => by
    have h0 : ltR y q = true := h 0 (by omega)
    rw [cntB, h0, if_pos rfl, cntB_eq q ys i (by simpa using hi) (fun j hj => h (j + 1) (by omega)) (by
      rcases h' with h' | h'
      · left; simpa using h'
      · right; exact h')]
theorem RtAt.take {w : World} {A : Option Addr} {l : List Rt} (h : RtAt w A l) (k : Nat) : RtAt w A (l.take k) := fun i hi => by
  rw [List.length_take] at hi
  obtain ⟨x, h2, h3⟩ := h i (by omega)
  refine ⟨x, h2, ?_⟩
  rw [List.getD_eq_getElem?_getD, List.getElem?_take, if_pos (by omega), ← List.getD_eq_getElem?_getD]
  exact h3
theorem RtAt.drop {w : World} {x : Addr} {l : List Rt} (h : RtAt w (some x) l) (k : Nat) : RtAt w (some (x.add (k * 6))) (l.drop k) := fun i hi => by
  rw [List.length_drop] at hi
  obtain ⟨y, h2, h3⟩ := h (k + i) (by omega)
  obtain rfl := Option.some.inj h2
  refine ⟨_, rfl, ?_⟩
  rw [List.getD_eq_getElem?_getD, List.getElem?_drop, ← List.getD_eq_getElem?_getD, addr_add, show k * 6 + i * 6 = (k + i) * 6 by omega]
  exact h3
theorem mdel_ok {dl : List Rt} (h : ∀ x ∈ dl, RtOk x) (x : Nt) : ∀ y ∈ mdel dl x, RtOk y := fun y hy => h y (List.mem_filter.1 hy).1
theorem rt_nil (w : World) (A : Option Addr) (l : List Rt) (h : l.length = 0) : RtAt w A l := fun i hi => absurd hi (by omega)
set_option maxHeartbeats 3200000 in
theorem rset_bad (A : Option Addr) (dl : List Rt) (cap : Nat) (w : World) (hr : RtAt w A dl) (hro : ∀ x ∈ dl, RtOk x) (hl : dl.length ≤ 900) (a b c d n who : Int) (hone : NtOk a b c d n) (hno : okD dl (a, b, c, d, n) who = false) :
    Calls Try.prog 18 #[.slice A dl.length cap, .agg #[.int .u8 a, .int .u8 b, .int .u8 c, .int .u8 d, .int .i64 n], .int .i64 who] w (SetRPost dl (a, b, c, d, n) who w) := by
  unfold SetRPost setD
  rw [hno]
  simp only [Bool.false_eq_true, if_false]
  have hx0 := bk_new w #[.int .u8 a, .int .u8 b, .int .u8 c, .int .u8 d, .int .i64 n] 29
  have hB0 := bl_alloc (Below.refl _ w) (.cells #[.int .u8 a, .int .u8 b, .int .u8 c, .int .u8 d, .int .i64 n] 29)
  obtain ⟨z0, z1, z2, z3, z4, _⟩ := hold5 hx0
  have hr0 := hr.below hB0
  obtain ⟨T, hT⟩ : ∃ T, decide ((mdel dl (a, b, c, d, n)).length < dl.length) = T := ⟨_, rfl⟩
  obtain ⟨R, hR⟩ : ∃ R, rightB a b c d n = R := ⟨_, rfl⟩
  have hno2 : (R && decide (0 ≤ who) && (T || decide (dl.length < 64))) = false := by rw [← hno, ← hT, ← hR]; rfl
  have hdel := fun (w' : World) (h : RtAt w' A dl) => rdel_any A dl cap w' h hro (by omega) a b c d n hone
  unfold DelPost at hdel
  rw [hT] at hdel
  obtain ⟨N, hN⟩ : ∃ N, dl.length = N := ⟨_, rfl⟩
  rw [hN] at hno2 hdel hl ⊢
  replace hr0 := Lib.hid hr0
  replace hdel := Lib.hid hdel
  replace hR := Lib.hid hR
  replace hx0 := Lib.hid hx0
  replace hB0 := Lib.hid hB0
  replace hno2 := Lib.hid hno2
  replace hr := Lib.hid hr
  clear hT hN hno hro
  go_enter Try.func18, Try.ntmps18
  go_wp2_with (fail)
  refine (hdel.out _ hr0.out).mono ?_; rintro e w2 ⟨B, cb, rfl, hrb, hlb, hcb, hB2⟩
  have hx2 := bk_below hB2 hx0.out
  obtain ⟨z0, z1, z2, z3, z4, _⟩ := hold5 hx2
  have hBw := bl_then hB0.out hB2
  replace hrb := Lib.hid hrb
  replace hBw := Lib.hid hBw
  go_wp2_with (fail)
  refine (rright_any a b c d n _ hone).mono ?_
  rw [hR.out]
  rintro e w3 ⟨rfl, hB3⟩
  have hBx := bl_then hBw.out hB3
  cases R with
  | false =>
    go_wp2
    go_ret2
    exact ⟨A, cap, rfl, hr.out.below hBx, hBx⟩
  | true =>
    by_cases hw0 : who < 0
    · have hw1 : decide (who < 0) = true := decide_eq_true hw0
      go_wp2
      go_ret2
      exact ⟨A, cap, rfl, hr.out.below hBx, hBx⟩
    · have hw1 : decide (who < 0) = false := decide_eq_false hw0
      have h5 := hno2.out
      rw [decide_eq_true (by omega : 0 ≤ who)] at h5
      cases T with
      | true => simp at h5
      | false =>
        have h6 : 64 ≤ N := by simpa using h5
        have h7 : decide ((64 : Int) ≤ (N : Int)) = true := decide_eq_true (by omega)
        have h8 : decide (64 ≤ N) = true := decide_eq_true h6
        clear h5
        go_wp2
        go_ret2
        exact ⟨A, cap, rfl, hr.out.below hBx, hBx⟩
set_option maxHeartbeats 3200000 in
theorem rset_good (A : Option Addr) (dl : List Rt) (cap : Nat) (w : World) (hr : RtAt w A dl) (hro : ∀ x ∈ dl, RtOk x) (hl : dl.length ≤ 900) (a b c d n who : Int) (hone : NtOk a b c d n) (hyes : okD dl (a, b, c, d, n) who = true) :
    Calls Try.prog 18 #[.slice A dl.length cap, .agg #[.int .u8 a, .int .u8 b, .int .u8 c, .int .u8 d, .int .i64 n], .int .i64 who] w (SetRPost dl (a, b, c, d, n) who w) := by
  unfold SetRPost setD
  rw [hyes]
  simp only [if_true]
  have hx0 := bk_new w #[.int .u8 a, .int .u8 b, .int .u8 c, .int .u8 d, .int .i64 n] 29
  have hB0 := bl_alloc (Below.refl _ w) (.cells #[.int .u8 a, .int .u8 b, .int .u8 c, .int .u8 d, .int .i64 n] 29)
  obtain ⟨z0, z1, z2, z3, z4, _⟩ := hold5 hx0
  have hr0 := hr.below hB0
  obtain ⟨T, hT⟩ : ∃ T, decide ((mdel dl (a, b, c, d, n)).length < dl.length) = T := ⟨_, rfl⟩
  have hyes2 : (rightB a b c d n && decide (0 ≤ who) && (T || decide (dl.length < 64))) = true := by rw [← hyes, ← hT]; rfl
  simp only [Bool.and_eq_true, Bool.or_eq_true, decide_eq_true_eq] at hyes2
  obtain ⟨⟨hR, hw0⟩, hTL⟩ := hyes2
  have hdel := fun (w' : World) (h : RtAt w' A dl) => rdel_any A dl cap w' h hro (by omega) a b c d n hone
  unfold DelPost at hdel
  rw [hT] at hdel
  have hmok := mdel_ok hro (a, b, c, d, n)
  have hml := mdel_len dl (a, b, c, d, n)
  obtain ⟨N, hN⟩ : ∃ N, dl.length = N := ⟨_, rfl⟩
  rw [hN] at hTL hdel hl hml ⊢
  have hw1 : decide (who < 0) = false := decide_eq_false (by omega)
  have hwn : ¬ who < 0 := by omega
  obtain ⟨r, hrr⟩ : ∃ r, mdel dl (a, b, c, d, n) = r := ⟨_, rfl⟩
  rw [hrr] at hdel hmok hml ⊢
  obtain ⟨F, hF⟩ : ∃ F, insD ((a, b, c, d, n), who) r = F := ⟨_, rfl⟩
  rw [hF]
  obtain ⟨M, hM⟩ : ∃ M, r.length = M := ⟨_, rfl⟩
  rw [hM] at hdel hml
  have honeT : NtOkT (((a, b, c, d, n), who) : Rt).1 := hone
  replace hr0 := Lib.hid hr0
  replace hdel := Lib.hid hdel
  replace hR := Lib.hid hR
  replace hx0 := Lib.hid hx0
  replace hB0 := Lib.hid hB0
  replace hr := Lib.hid hr
  replace hM := Lib.hid hM
  replace hF := Lib.hid hF
  replace hmok := Lib.hid hmok
  replace hTL := Lib.hid hTL
  clear hT hN hyes hro hrr
  go_enter Try.func18, Try.ntmps18
  go_wp2_with (fail)
  refine (hdel.out _ hr0.out).mono ?_; rintro e w2 ⟨B, cb, rfl, hrb, hlb, hcb, hB2⟩
  have hx2 := bk_below hB2 hx0.out
  obtain ⟨z0, z1, z2, z3, z4, _⟩ := hold5 hx2
  have hBw := bl_then hB0.out hB2
  replace hrb := Lib.hid hrb
  replace hBw := Lib.hid hBw
  replace hx2 := Lib.hid hx2
  go_wp2_with (fail)
  refine (rright_any a b c d n _ hone).mono ?_
  rw [hR.out]
  rintro e w3 ⟨rfl, hB3⟩
  have hBx := bl_then hBw.out hB3
  have hx3 := bk_below hB3 hx2.out
  have hb4 := bk_new w3 #[.int .u8 a, .int .u8 b, .int .u8 c, .int .u8 d, .int .i64 n, .int .i64 who] 35
  have hB4 := bl_alloc hBx (.cells #[.int .u8 a, .int .u8 b, .int .u8 c, .int .u8 d, .int .i64 n, .int .i64 who] 35)
  have hr4 := (hrb.out.below hB3).below (bl_alloc (Below.refl _ w3) (.cells #[.int .u8 a, .int .u8 b, .int .u8 c, .int .u8 d, .int .i64 n, .int .i64 who] 35))
  obtain ⟨z0, z1, z2, z3, z4, _⟩ := hold5 hx3
  replace hb4 := Lib.hid hb4
  replace hB4 := Lib.hid hB4
  replace hr4 := Lib.hid hr4
  clear hBx hx3 hB3 hrb hx2 hB2
  have hL : T = true ∨ (T = false ∧ decide ((64 : Int) ≤ (N : Int)) = false ∧ decide (64 ≤ N) = false) := by
    cases T with
    | true => exact .inl rfl
    | false =>
      rcases hTL.out with h | h
      · cases h
      · exact .inr ⟨rfl, decide_eq_false (by omega), decide_eq_false (by omega)⟩
  clear hTL
  rcases hL with rfl | ⟨rfl, hL1, hL2⟩
  all_goals (
    go_wp2_with (fail)
    generalize w3.alloc (.cells #[.int .u8 a, .int .u8 b, .int .u8 c, .int .u8 d, .int .i64 n, .int .i64 who] 35) = W4 at *
    generalize w3.heap.size = gq at *
    go_loopw [11] (fun v wr => ∃ i : Nat, v = .int .i64 i ∧ i ≤ M ∧ (∀ j, j < i → ltR (r.getD j zeroRt) (((a, b, c, d, n), who) : Rt) = true) ∧ Below W4.heap.size W4 wr) (fun v _ => M - (intOf v).toNat)
    case atStart => exact ⟨0, rfl, Nat.zero_le _, fun i hi => absurd hi (by omega), Below.refl _ _⟩
    case round =>
      obtain ⟨i, rfl, hi, hgd, hBl⟩ := hrel
      replace hgd := Lib.hid hgd
      by_cases hil : i < M
      · have hil2 : decide ((i : Int) < (M : Int)) = true := decide_eq_true (by omega)
        have hi1 : (i : Int) < (M : Int) := by omega
        have hi2 : decide ((i : Int) < 0) = false := decide_eq_false (by omega)
        have hi3 : decide ((M : Int) ≤ (i : Int)) = false := decide_eq_false (by omega)
        have hi4 : decide (M ≤ i) = false := decide_eq_false (by omega)
        obtain ⟨ad, rfl, hrow⟩ := hr4.out i (by rw [hM.out]; exact hil)
        have hok := hmok.out (r.getD i zeroRt) (by rw [List.getD_eq_getElem?_getD, List.getElem?_eq_getElem (by rw [hM.out]; exact hil)]; exact List.getElem_mem _)
        obtain ⟨y, hy⟩ : ∃ y, r.getD i zeroRt = y := ⟨_, rfl⟩
        rw [hy] at hok hrow
        replace hy := Lib.hid hy
        have hokN : NtOkT y.1 := hok.1
        obtain ⟨bb, hb⟩ : ∃ bb, ltR y (((a, b, c, d, n), who) : Rt) = bb := ⟨_, rfl⟩
        replace hb := Lib.hid hb
        go_wp2_with (fail)
        refine wp_region_noPanic ?_
        refine wp_region_held_drew (S := fun w' => Below W4.heap.size W4 w') (by kernel_rfl) (bl_drew hBl) (fun hHeld => ?_)
        refine wpAnyH_take (i := 0) (oi := { dst := some 39, op := Go.Op.move (Go.Operand.tmp 11), type := 3, pos := "ref.go:37", after := #[], guard := none }) (v := ?_) rfl (by kernel_rfl) (by kernel_rfl) (by kernel_rfl) (fun _ _ _ h => h) (Or.inl ⟨by rfl, ?_⟩) (by assumption) ?_
        rotate_left 1
        · intro w' hSw
          first | (go_simp; done) | (go_simp; with_reducible rfl)
        try simp only [Act.put, List.getElem_toArray, List.getElem_cons_succ, List.getElem_cons_zero, List.setIfInBounds_toArray, List.set_cons_zero, List.set_cons_succ]
        refine wpAnyH_take (i := 1) (oi := { dst := some 40, op := Go.Op.move (Go.Operand.tmp 8), type := 41, pos := "ref.go:37", after := #[], guard := none }) (v := ?_) rfl (by kernel_rfl) (by kernel_rfl) (by kernel_rfl) (fun _ _ _ h => h) (Or.inl ⟨by rfl, ?_⟩) (by assumption) ?_
        rotate_left 1
        · intro w' hSw
          first | (go_simp; done) | (go_simp; with_reducible rfl)
        try simp only [Act.put, List.getElem_toArray, List.getElem_cons_succ, List.getElem_cons_zero, List.setIfInBounds_toArray, List.set_cons_zero, List.set_cons_succ]
        refine wpAnyH_take (i := 2) (oi := { dst := some 41, op := Go.Op.call { callee := Go.Callee.builtin Go.Builtin.len, args := #[Go.Operand.tmp 40], argTypes := #[41] }, type := 3, pos := "ref.go:37", after := #[{ on := 1, ground := Go.Ground.data }], guard := none }) (v := ?_) rfl (by kernel_rfl) (by kernel_rfl) (by kernel_rfl) (fun _ _ _ h => h) (Or.inl ⟨by rfl, ?_⟩) (by assumption) ?_
        rotate_left 1
        · intro w' hSw
          first | (go_simp; done) | (go_simp; with_reducible rfl)
        try simp only [Act.put, List.getElem_toArray, List.getElem_cons_succ, List.getElem_cons_zero, List.setIfInBounds_toArray, List.set_cons_zero, List.set_cons_succ]
        refine wpAnyH_take (i := 3) (oi := { dst := some 42, op := Go.Op.binOp Go.BinOp.lss 3 (Go.Operand.tmp 39) (Go.Operand.tmp 41) 3, type := 4, pos := "ref.go:37", after := #[{ on := 0, ground := Go.Ground.data }, { on := 2, ground := Go.Ground.data }], guard := none }) (v := ?_) rfl (by kernel_rfl) (by kernel_rfl) (by kernel_rfl) (fun _ _ _ h => h) (Or.inl ⟨by rfl, ?_⟩) (by assumption) ?_
        rotate_left 1
        · intro w' hSw
          first | (go_simp; done) | (go_simp; with_reducible rfl)
        try simp only [Act.put, List.getElem_toArray, List.getElem_cons_succ, List.getElem_cons_zero, List.setIfInBounds_toArray, List.set_cons_zero, List.set_cons_succ]
        refine wpAnyH_take (i := 4) (oi := { dst := some 43, op := Go.Op.move (Go.Operand.tmp 42), type := 4, pos := "ref.go:37", after := #[{ on := 3, ground := Go.Ground.data }], guard := none }) (v := ?_) rfl (by kernel_rfl) (by kernel_rfl) (by kernel_rfl) (fun _ _ _ h => h) (Or.inl ⟨by rfl, ?_⟩) (by assumption) ?_
        rotate_left 1
        · intro w' hSw
          first | (go_simp; done) | (go_simp; with_reducible rfl)
        try simp only [Act.put, List.getElem_toArray, List.getElem_cons_succ, List.getElem_cons_zero, List.setIfInBounds_toArray, List.set_cons_zero, List.set_cons_succ]
        refine wpAnyH_take (i := 5) (oi := { dst := some 44, op := Go.Op.move (Go.Operand.tmp 8), type := 41, pos := "ref.go:37", after := #[{ on := 4, ground := Go.Ground.guard }], guard := some (4, true) }) (v := ?_) rfl (by kernel_rfl) (by kernel_rfl) (by kernel_rfl) (fun _ _ _ h => h) (Or.inl ⟨by rfl, ?_⟩) (by assumption) ?_
        rotate_left 1
        · intro w' hSw
          first | (go_simp; done) | (go_simp; with_reducible rfl)
        try simp only [Act.put, List.getElem_toArray, List.getElem_cons_succ, List.getElem_cons_zero, List.setIfInBounds_toArray, List.set_cons_zero, List.set_cons_succ]
        refine wpAnyH_take (i := 6) (oi := { dst := some 45, op := Go.Op.move (Go.Operand.tmp 11), type := 3, pos := "ref.go:37", after := #[{ on := 4, ground := Go.Ground.guard }], guard := some (4, true) }) (v := ?_) rfl (by kernel_rfl) (by kernel_rfl) (by kernel_rfl) (fun _ _ _ h => h) (Or.inl ⟨by rfl, ?_⟩) (by assumption) ?_
        rotate_left 1
        · intro w' hSw
          first | (go_simp; done) | (go_simp; with_reducible rfl)
        try simp only [Act.put, List.getElem_toArray, List.getElem_cons_succ, List.getElem_cons_zero, List.setIfInBounds_toArray, List.set_cons_zero, List.set_cons_succ]
        refine wpAnyH_take (i := 7) (oi := { dst := some 46, op := Go.Op.indexAddr 41 (Go.Operand.tmp 44) (Go.Operand.tmp 45), type := 0, pos := "ref.go:37", after := #[{ on := 5, ground := Go.Ground.data }, { on := 6, ground := Go.Ground.data }, { on := 4, ground := Go.Ground.guard }], guard := some (4, true) }) (v := ?_) rfl (by kernel_rfl) (by kernel_rfl) (by kernel_rfl) (fun _ _ _ h => h) (Or.inl ⟨by rfl, ?_⟩) (by assumption) ?_
        rotate_left 1
        · intro w' hSw
          first | (go_simp; done) | (go_simp; with_reducible rfl)
        try simp only [Act.put, List.getElem_toArray, List.getElem_cons_succ, List.getElem_cons_zero, List.setIfInBounds_toArray, List.set_cons_zero, List.set_cons_succ]
        refine wpAnyH_take (i := 8) (oi := { dst := some 47, op := Go.Op.load 35 (Go.Operand.tmp 46), type := 35, pos := "ref.go:37", after := #[{ on := 7, ground := Go.Ground.data }, { on := 4, ground := Go.Ground.guard }], guard := some (4, true) }) (v := ?_) rfl (by kernel_rfl) (by kernel_rfl) (by kernel_rfl) (fun _ _ _ h => h) (Or.inl ⟨by rfl, ?_⟩) (by assumption) ?_
        rotate_left 1
        · intro w' hSw
          obtain ⟨c0, c1, c2, c3, c4, c5⟩ := rt_cellsAt (hrow.far hSw)
          first | (go_simp; done) | (go_simp; with_reducible rfl)
        try simp only [Act.put, List.getElem_toArray, List.getElem_cons_succ, List.getElem_cons_zero, List.setIfInBounds_toArray, List.set_cons_zero, List.set_cons_succ]
        refine wpAnyH_take (i := 9) (oi := { dst := some 48, op := Go.Op.load 35 (Go.Operand.tmp 10), type := 35, pos := "ref.go:37", after := #[{ on := 4, ground := Go.Ground.guard }], guard := some (4, true) }) (v := ?_) rfl (by kernel_rfl) (by kernel_rfl) (by kernel_rfl) (fun _ _ _ h => h) (Or.inl ⟨by rfl, ?_⟩) (by assumption) ?_
        rotate_left 1
        · intro w' hSw
          obtain ⟨x0, x1, x2, x3, x4, x5, xf0, xf1, xf2, xf3, xf4, xf5⟩ := hold6 (bk_below hSw hb4.out)
          first | (go_simp; done) | (go_simp; with_reducible rfl)
        try simp only [Act.put, List.getElem_toArray, List.getElem_cons_succ, List.getElem_cons_zero, List.setIfInBounds_toArray, List.set_cons_zero, List.set_cons_succ]
        refine wpAnyH_ready (rs := [10]) (by kernel_rfl) (by simp) ?_
        refine (AllReadyH.cons (o := { dst := some 49, op := Go.Op.call { callee := Go.Callee.value (Go.Operand.func 32), args := #[Go.Operand.tmp 47, Go.Operand.tmp 48], argTypes := #[35, 35] }, type := 4, pos := "ref.go:37", after := #[{ on := 8, ground := Go.Ground.data }, { on := 9, ground := Go.Ground.data }, { on := 4, ground := Go.Ground.chain }, { on := 4, ground := Go.Ground.guard }], guard := some (4, true) }) rfl (fun K hK => ?_) AllReadyH.nil)
        go_simp
        go_at_call 32
        (with_reducible refine (before_any y (((a, b, c, d, n), who) : Rt) hokN honeT _).mono ?_)
        rw [hb.out]
        rintro e wa ⟨rfl, hB9⟩
        go_wp2_with (fail)
        refine hK.out _ _ ?_ (fun hHeld => ?_)
        · exact bl_then hHeld hB9
        clear hK K
        try simp only [Act.put, List.getElem_toArray, List.getElem_cons_succ, List.getElem_cons_zero, List.setIfInBounds_toArray, List.set_cons_zero, List.set_cons_succ]
        refine wpAnyH_take (i := 11) (oi := { dst := some 50, op := Go.Op.pick (Go.Operand.tmp 43) (Go.Operand.tmp 49) (Go.Operand.const (Go.Value.bool false)), type := 4, pos := "ref.go:37", after := #[{ on := 4, ground := Go.Ground.data }, { on := 10, ground := Go.Ground.data }], guard := none }) (v := ?_) rfl (by kernel_rfl) (by kernel_rfl) (by kernel_rfl) (fun _ _ _ h => h) (Or.inl ⟨by rfl, ?_⟩) (by assumption) ?_
        rotate_left 1
        · intro w' hSw
          first | (go_simp; done) | (go_simp; with_reducible rfl)
        try simp only [Act.put, List.getElem_toArray, List.getElem_cons_succ, List.getElem_cons_zero, List.setIfInBounds_toArray, List.set_cons_zero, List.set_cons_succ]
        refine wpAnyH_done (by kernel_rfl) ?_ _
        refine NoPanic.normal ?_
        cases bb with
        | true =>
          have hst : ltR (r.getD i zeroRt) (((a, b, c, d, n), who) : Rt) = true := by rw [hy.out]; exact hb.out
          replace hst := Lib.hid hst
          go_wp2
          refine ⟨⟨i + 1, by first | rfl | (congr 1; omega), by omega, fun j hj => ?_, hHeld⟩, by simp [intOf]; omega⟩
          rcases Nat.lt_or_ge j i with h | h
          · exact hgd.out j h
          · obtain rfl : j = i := by omega
            exact hst.out
        | false =>
          have hk : cntB (((a, b, c, d, n), who) : Rt) r = i := cntB_eq (((a, b, c, d, n), who) : Rt) r i (by rw [hM.out]; exact hi) hgd.out (.inr (by rw [hy.out]; exact hb.out))
          have hki : (i : Int) ≤ (cb : Int) := by omega
          have hFk : ([] ++ r.take i) ++ [(((a, b, c, d, n), who) : Rt)] ++ r.drop i = F := by rw [List.nil_append, ← hF.out]; unfold insD; rw [hk]
          have hm1 : i = (r.take i).length := by rw [List.length_take, hM.out]; omega
          have hm3 : M - i = (r.drop i).length := by rw [List.length_drop, hM.out]
          have hle1 : ([] : List Rt).length + i ≤ 1000 := by simp; omega
          have hle2 : (([] : List Rt) ++ r.take i).length + 1 ≤ 1000 := by rw [List.nil_append, ← hm1]; omega
          have hle3 : (([] : List Rt) ++ r.take i ++ [(((a, b, c, d, n), who) : Rt)]).length + (M - i) ≤ 1000 := by rw [List.nil_append, List.length_append, ← hm1]; simp; omega
          have hbc := bk_below hHeld hb4.out
          have hBc := bl_then hB4.out hHeld
          have hrc := hr4.out.below hHeld
          have ho0 := own_none wa wa.heap.size (Nat.le_refl _)
          have hrt := (hrc.below (bl_alloc (Below.refl _ wa) (.cells #[] 35))).take i
          have hB5 := bl_alloc (Below.refl _ wa) (.cells #[] 35)
          have hs5 : wa.heap.size ≤ (wa.alloc (.cells #[] 35)).heap.size := hB5.size
          replace hFk := Lib.hid hFk
          replace hm1 := Lib.hid hm1
          replace hm3 := Lib.hid hm3
          replace hle1 := Lib.hid hle1
          replace hle2 := Lib.hid hle2
          replace hle3 := Lib.hid hle3
          replace hbc := Lib.hid hbc
          replace hBc := Lib.hid hBc
          replace hrc := Lib.hid hrc
          replace ho0 := Lib.hid ho0
          replace hrt := Lib.hid hrt
          replace hB5 := Lib.hid hB5
          replace hs5 := Lib.hid hs5
          replace hgd := Lib.hid hgd
          clear hk hHeld
          have hiM : (i : Int) ≤ (M : Int) := by omega
          go_wp2_with (first | (at_builtin; refine append_rts (w0 := wa) wa.heap.size rfl (.tmp 53) (.tmp 56) rfl _ [] (r.take i) (some ad) i cb rfl rfl hm1.out ho0.out hrt.out hB5.out hs5.out hle1.out ?_; intro v5 w5 ho5 hB6; have hb5 := bk_below hB6 hbc.out; obtain ⟨x0, x1, x2, x3, x4, x5, xf0, xf1, xf2, xf3, xf4, xf5⟩ := hold6 hb5; have ho6 := pw_own_below ho5 (bl_alloc (Below.refl _ w5) (.cells #[.int .u8 a, .int .u8 b, .int .u8 c, .int .u8 d, .int .i64 n, .int .i64 who] 35)); have hB7 := bl_alloc hB6 (.cells #[.int .u8 a, .int .u8 b, .int .u8 c, .int .u8 d, .int .i64 n, .int .i64 who] 35); have hl6 := rt_lit (W := w5) rfl (((a, b, c, d, n), who) : Rt); replace ho6 := Lib.hid ho6; replace hB7 := Lib.hid hB7; replace hl6 := Lib.hid hl6; clear ho5 hb5) | (at_builtin; refine append_rts (w0 := wa) wa.heap.size rfl (.tmp 58) (.tmp 60) rfl _ ([] ++ r.take i) [(((a, b, c, d, n), who) : Rt)] (some ⟨w5.heap.size, 0, none⟩) 1 1 rfl rfl rfl ho6.out hl6.out hB7.out hB7.out.size hle2.out ?_; intro v6 w6 ho8 hB8; have hrd := (hrc.out.below hB8).drop i; replace hrd := Lib.hid hrd; replace ho8 := Lib.hid ho8; replace hB8 := Lib.hid hB8) | (at_builtin; refine append_rts (w0 := wa) wa.heap.size rfl (.tmp 62) (.tmp 65) rfl _ ([] ++ r.take i ++ [(((a, b, c, d, n), who) : Rt)]) (r.drop i) (some (ad.add (i * 6))) (M - i) _ rfl rfl hm3.out ho8.out hrd.out hB8.out hB8.out.size hle3.out ?_; intro v7 w7 ho9 hB10; rw [hFk.out] at ho9; obtain ⟨A7, c7, rfl, hr7, _, _⟩ := rts_own ho9; have hBz := bl_then hBc.out hB10; replace hr7 := Lib.hid hr7; replace hBz := Lib.hid hBz; clear ho9 hB10))
          all_goals go_ret2
          all_goals first | exact ⟨A7, ⟨c7, rfl⟩, hr7.out, hBz.out⟩ | exact ⟨A7, c7, rfl, hr7.out, hBz.out⟩
      · have hil2 : decide ((i : Int) < (M : Int)) = false := decide_eq_false (by omega)
        go_wp2_with (fail)
        refine wp_region_noPanic ?_
        refine wp_region_held_drew (S := fun w' => Below W4.heap.size W4 w') (by kernel_rfl) (bl_drew hBl) (fun hHeld => ?_)
        refine wpAnyH_take (i := 0) (oi := { dst := some 39, op := Go.Op.move (Go.Operand.tmp 11), type := 3, pos := "ref.go:37", after := #[], guard := none }) (v := ?_) rfl (by kernel_rfl) (by kernel_rfl) (by kernel_rfl) (fun _ _ _ h => h) (Or.inl ⟨by rfl, ?_⟩) (by assumption) ?_
        rotate_left 1
        · intro w' hSw
          first | (go_simp; done) | (go_simp; with_reducible rfl)
        try simp only [Act.put, List.getElem_toArray, List.getElem_cons_succ, List.getElem_cons_zero, List.setIfInBounds_toArray, List.set_cons_zero, List.set_cons_succ]
        refine wpAnyH_take (i := 1) (oi := { dst := some 40, op := Go.Op.move (Go.Operand.tmp 8), type := 41, pos := "ref.go:37", after := #[], guard := none }) (v := ?_) rfl (by kernel_rfl) (by kernel_rfl) (by kernel_rfl) (fun _ _ _ h => h) (Or.inl ⟨by rfl, ?_⟩) (by assumption) ?_
        rotate_left 1
        · intro w' hSw
          first | (go_simp; done) | (go_simp; with_reducible rfl)
        try simp only [Act.put, List.getElem_toArray, List.getElem_cons_succ, List.getElem_cons_zero, List.setIfInBounds_toArray, List.set_cons_zero, List.set_cons_succ]
        refine wpAnyH_take (i := 2) (oi := { dst := some 41, op := Go.Op.call { callee := Go.Callee.builtin Go.Builtin.len, args := #[Go.Operand.tmp 40], argTypes := #[41] }, type := 3, pos := "ref.go:37", after := #[{ on := 1, ground := Go.Ground.data }], guard := none }) (v := ?_) rfl (by kernel_rfl) (by kernel_rfl) (by kernel_rfl) (fun _ _ _ h => h) (Or.inl ⟨by rfl, ?_⟩) (by assumption) ?_
        rotate_left 1
        · intro w' hSw
          first | (go_simp; done) | (go_simp; with_reducible rfl)
        try simp only [Act.put, List.getElem_toArray, List.getElem_cons_succ, List.getElem_cons_zero, List.setIfInBounds_toArray, List.set_cons_zero, List.set_cons_succ]
        refine wpAnyH_take (i := 3) (oi := { dst := some 42, op := Go.Op.binOp Go.BinOp.lss 3 (Go.Operand.tmp 39) (Go.Operand.tmp 41) 3, type := 4, pos := "ref.go:37", after := #[{ on := 0, ground := Go.Ground.data }, { on := 2, ground := Go.Ground.data }], guard := none }) (v := ?_) rfl (by kernel_rfl) (by kernel_rfl) (by kernel_rfl) (fun _ _ _ h => h) (Or.inl ⟨by rfl, ?_⟩) (by assumption) ?_
        rotate_left 1
        · intro w' hSw
          first | (go_simp; done) | (go_simp; with_reducible rfl)
        try simp only [Act.put, List.getElem_toArray, List.getElem_cons_succ, List.getElem_cons_zero, List.setIfInBounds_toArray, List.set_cons_zero, List.set_cons_succ]
        refine wpAnyH_take (i := 4) (oi := { dst := some 43, op := Go.Op.move (Go.Operand.tmp 42), type := 4, pos := "ref.go:37", after := #[{ on := 3, ground := Go.Ground.data }], guard := none }) (v := ?_) rfl (by kernel_rfl) (by kernel_rfl) (by kernel_rfl) (fun _ _ _ h => h) (Or.inl ⟨by rfl, ?_⟩) (by assumption) ?_
        rotate_left 1
        · intro w' hSw
          first | (go_simp; done) | (go_simp; with_reducible rfl)
        try simp only [Act.put, List.getElem_toArray, List.getElem_cons_succ, List.getElem_cons_zero, List.setIfInBounds_toArray, List.set_cons_zero, List.set_cons_succ]
        refine wpAnyH_take (i := 5) (oi := { dst := some 44, op := Go.Op.move (Go.Operand.tmp 8), type := 41, pos := "ref.go:37", after := #[{ on := 4, ground := Go.Ground.guard }], guard := some (4, true) }) (v := undef) rfl (by kernel_rfl) (by kernel_rfl) (by kernel_rfl) (fun _ _ _ h => h) (Or.inr ⟨by rfl, rfl⟩) (by assumption) ?_
        try simp only [Act.put, List.getElem_toArray, List.getElem_cons_succ, List.getElem_cons_zero, List.setIfInBounds_toArray, List.set_cons_zero, List.set_cons_succ]
        refine wpAnyH_take (i := 6) (oi := { dst := some 45, op := Go.Op.move (Go.Operand.tmp 11), type := 3, pos := "ref.go:37", after := #[{ on := 4, ground := Go.Ground.guard }], guard := some (4, true) }) (v := undef) rfl (by kernel_rfl) (by kernel_rfl) (by kernel_rfl) (fun _ _ _ h => h) (Or.inr ⟨by rfl, rfl⟩) (by assumption) ?_
        try simp only [Act.put, List.getElem_toArray, List.getElem_cons_succ, List.getElem_cons_zero, List.setIfInBounds_toArray, List.set_cons_zero, List.set_cons_succ]
        refine wpAnyH_take (i := 7) (oi := { dst := some 46, op := Go.Op.indexAddr 41 (Go.Operand.tmp 44) (Go.Operand.tmp 45), type := 0, pos := "ref.go:37", after := #[{ on := 5, ground := Go.Ground.data }, { on := 6, ground := Go.Ground.data }, { on := 4, ground := Go.Ground.guard }], guard := some (4, true) }) (v := undef) rfl (by kernel_rfl) (by kernel_rfl) (by kernel_rfl) (fun _ _ _ h => h) (Or.inr ⟨by rfl, rfl⟩) (by assumption) ?_
        try simp only [Act.put, List.getElem_toArray, List.getElem_cons_succ, List.getElem_cons_zero, List.setIfInBounds_toArray, List.set_cons_zero, List.set_cons_succ]
        refine wpAnyH_take (i := 8) (oi := { dst := some 47, op := Go.Op.load 35 (Go.Operand.tmp 46), type := 35, pos := "ref.go:37", after := #[{ on := 7, ground := Go.Ground.data }, { on := 4, ground := Go.Ground.guard }], guard := some (4, true) }) (v := undef) rfl (by kernel_rfl) (by kernel_rfl) (by kernel_rfl) (fun _ _ _ h => h) (Or.inr ⟨by rfl, rfl⟩) (by assumption) ?_
        try simp only [Act.put, List.getElem_toArray, List.getElem_cons_succ, List.getElem_cons_zero, List.setIfInBounds_toArray, List.set_cons_zero, List.set_cons_succ]
        refine wpAnyH_take (i := 9) (oi := { dst := some 48, op := Go.Op.load 35 (Go.Operand.tmp 10), type := 35, pos := "ref.go:37", after := #[{ on := 4, ground := Go.Ground.guard }], guard := some (4, true) }) (v := undef) rfl (by kernel_rfl) (by kernel_rfl) (by kernel_rfl) (fun _ _ _ h => h) (Or.inr ⟨by rfl, rfl⟩) (by assumption) ?_
        try simp only [Act.put, List.getElem_toArray, List.getElem_cons_succ, List.getElem_cons_zero, List.setIfInBounds_toArray, List.set_cons_zero, List.set_cons_succ]
        refine wpAnyH_take (i := 10) (oi := { dst := some 49, op := Go.Op.call { callee := Go.Callee.value (Go.Operand.func 32), args := #[Go.Operand.tmp 47, Go.Operand.tmp 48], argTypes := #[35, 35] }, type := 4, pos := "ref.go:37", after := #[{ on := 8, ground := Go.Ground.data }, { on := 9, ground := Go.Ground.data }, { on := 4, ground := Go.Ground.chain }, { on := 4, ground := Go.Ground.guard }], guard := some (4, true) }) (v := undef) rfl (by kernel_rfl) (by kernel_rfl) (by kernel_rfl) (fun _ _ _ h => h) (Or.inr ⟨by rfl, rfl⟩) (by assumption) ?_
        try simp only [Act.put, List.getElem_toArray, List.getElem_cons_succ, List.getElem_cons_zero, List.setIfInBounds_toArray, List.set_cons_zero, List.set_cons_succ]
        refine wpAnyH_take (i := 11) (oi := { dst := some 50, op := Go.Op.pick (Go.Operand.tmp 43) (Go.Operand.tmp 49) (Go.Operand.const (Go.Value.bool false)), type := 4, pos := "ref.go:37", after := #[{ on := 4, ground := Go.Ground.data }, { on := 10, ground := Go.Ground.data }], guard := none }) (v := ?_) rfl (by kernel_rfl) (by kernel_rfl) (by kernel_rfl) (fun _ _ _ h => h) (Or.inl ⟨by rfl, ?_⟩) (by assumption) ?_
        rotate_left 1
        · intro w' hSw
          first | (go_simp; done) | (go_simp; with_reducible rfl)
        try simp only [Act.put, List.getElem_toArray, List.getElem_cons_succ, List.getElem_cons_zero, List.setIfInBounds_toArray, List.set_cons_zero, List.set_cons_succ]
        refine wpAnyH_done (by kernel_rfl) ?_ _
        refine NoPanic.normal ?_
        have hdz : (r.drop i).length = 0 := by rw [List.length_drop, hM.out]; omega
        replace hdz := Lib.hid hdz
        rcases B with _ | ad
        · skip
          have hk : cntB (((a, b, c, d, n), who) : Rt) r = i := cntB_eq (((a, b, c, d, n), who) : Rt) r i (by rw [hM.out]; exact hi) hgd.out (.inl (by rw [hM.out]; omega))
          have hki : (i : Int) ≤ (cb : Int) := by omega
          have hFk : ([] ++ r.take i) ++ [(((a, b, c, d, n), who) : Rt)] ++ r.drop i = F := by rw [List.nil_append, ← hF.out]; unfold insD; rw [hk]
          have hm1 : i = (r.take i).length := by rw [List.length_take, hM.out]; omega
          have hm3 : M - i = (r.drop i).length := by rw [List.length_drop, hM.out]
          have hle1 : ([] : List Rt).length + i ≤ 1000 := by simp; omega
          have hle2 : (([] : List Rt) ++ r.take i).length + 1 ≤ 1000 := by rw [List.nil_append, ← hm1]; omega
          have hle3 : (([] : List Rt) ++ r.take i ++ [(((a, b, c, d, n), who) : Rt)]).length + (M - i) ≤ 1000 := by rw [List.nil_append, List.length_append, ← hm1]; simp; omega
          have hbc := bk_below hHeld hb4.out
          have hBc := bl_then hB4.out hHeld
          have hrc := hr4.out.below hHeld
          have ho0 := own_none wr.drew wr.drew.heap.size (Nat.le_refl _)
          have hrt := (hrc.below (bl_alloc (Below.refl _ wr.drew) (.cells #[] 35))).take i
          have hB5 := bl_alloc (Below.refl _ wr.drew) (.cells #[] 35)
          have hs5 : wr.drew.heap.size ≤ (wr.drew.alloc (.cells #[] 35)).heap.size := hB5.size
          replace hFk := Lib.hid hFk
          replace hm1 := Lib.hid hm1
          replace hm3 := Lib.hid hm3
          replace hle1 := Lib.hid hle1
          replace hle2 := Lib.hid hle2
          replace hle3 := Lib.hid hle3
          replace hbc := Lib.hid hbc
          replace hBc := Lib.hid hBc
          replace hrc := Lib.hid hrc
          replace ho0 := Lib.hid ho0
          replace hrt := Lib.hid hrt
          replace hB5 := Lib.hid hB5
          replace hs5 := Lib.hid hs5
          replace hgd := Lib.hid hgd
          clear hk hHeld
          have hiM : (i : Int) ≤ (M : Int) := by omega
          go_wp2_with (first | (at_builtin; refine append_rts (w0 := wr.drew) wr.drew.heap.size rfl (.tmp 53) (.tmp 56) rfl _ [] (r.take i) none i cb rfl rfl hm1.out ho0.out hrt.out hB5.out hs5.out hle1.out ?_; intro v5 w5 ho5 hB6; have hb5 := bk_below hB6 hbc.out; obtain ⟨x0, x1, x2, x3, x4, x5, xf0, xf1, xf2, xf3, xf4, xf5⟩ := hold6 hb5; have ho6 := pw_own_below ho5 (bl_alloc (Below.refl _ w5) (.cells #[.int .u8 a, .int .u8 b, .int .u8 c, .int .u8 d, .int .i64 n, .int .i64 who] 35)); have hB7 := bl_alloc hB6 (.cells #[.int .u8 a, .int .u8 b, .int .u8 c, .int .u8 d, .int .i64 n, .int .i64 who] 35); have hl6 := rt_lit (W := w5) rfl (((a, b, c, d, n), who) : Rt); replace ho6 := Lib.hid ho6; replace hB7 := Lib.hid hB7; replace hl6 := Lib.hid hl6; clear ho5 hb5) | (at_builtin; refine append_rts (w0 := wr.drew) wr.drew.heap.size rfl (.tmp 58) (.tmp 60) rfl _ ([] ++ r.take i) [(((a, b, c, d, n), who) : Rt)] (some ⟨w5.heap.size, 0, none⟩) 1 1 rfl rfl rfl ho6.out hl6.out hB7.out hB7.out.size hle2.out ?_; intro v6 w6 ho8 hB8; have hrd := (fun (A : Option Addr) => rt_nil w6 A (r.drop i) hdz.out); replace hrd := Lib.hid hrd; replace ho8 := Lib.hid ho8; replace hB8 := Lib.hid hB8) | (at_builtin; refine append_rts (w0 := wr.drew) wr.drew.heap.size rfl (.tmp 62) (.tmp 65) rfl _ ([] ++ r.take i ++ [(((a, b, c, d, n), who) : Rt)]) (r.drop i) _ (M - i) _ rfl rfl hm3.out ho8.out (hrd.out _) hB8.out hB8.out.size hle3.out ?_; intro v7 w7 ho9 hB10; rw [hFk.out] at ho9; obtain ⟨A7, c7, rfl, hr7, _, _⟩ := rts_own ho9; have hBz := bl_then hBc.out hB10; replace hr7 := Lib.hid hr7; replace hBz := Lib.hid hBz; clear ho9 hB10))
          all_goals go_ret2
          all_goals first | exact ⟨A7, ⟨c7, rfl⟩, hr7.out, hBz.out⟩ | exact ⟨A7, c7, rfl, hr7.out, hBz.out⟩
        · skip
          have hk : cntB (((a, b, c, d, n), who) : Rt) r = i := cntB_eq (((a, b, c, d, n), who) : Rt) r i (by rw [hM.out]; exact hi) hgd.out (.inl (by rw [hM.out]; omega))
          have hki : (i : Int) ≤ (cb : Int) := by omega
          have hFk : ([] ++ r.take i) ++ [(((a, b, c, d, n), who) : Rt)] ++ r.drop i = F := by rw [List.nil_append, ← hF.out]; unfold insD; rw [hk]
          have hm1 : i = (r.take i).length := by rw [List.length_take, hM.out]; omega
          have hm3 : M - i = (r.drop i).length := by rw [List.length_drop, hM.out]
          have hle1 : ([] : List Rt).length + i ≤ 1000 := by simp; omega
          have hle2 : (([] : List Rt) ++ r.take i).length + 1 ≤ 1000 := by rw [List.nil_append, ← hm1]; omega
          have hle3 : (([] : List Rt) ++ r.take i ++ [(((a, b, c, d, n), who) : Rt)]).length + (M - i) ≤ 1000 := by rw [List.nil_append, List.length_append, ← hm1]; simp; omega
          have hbc := bk_below hHeld hb4.out
          have hBc := bl_then hB4.out hHeld
          have hrc := hr4.out.below hHeld
          have ho0 := own_none wr.drew wr.drew.heap.size (Nat.le_refl _)
          have hrt := (hrc.below (bl_alloc (Below.refl _ wr.drew) (.cells #[] 35))).take i
          have hB5 := bl_alloc (Below.refl _ wr.drew) (.cells #[] 35)
          have hs5 : wr.drew.heap.size ≤ (wr.drew.alloc (.cells #[] 35)).heap.size := hB5.size
          replace hFk := Lib.hid hFk
          replace hm1 := Lib.hid hm1
          replace hm3 := Lib.hid hm3
          replace hle1 := Lib.hid hle1
          replace hle2 := Lib.hid hle2
          replace hle3 := Lib.hid hle3
          replace hbc := Lib.hid hbc
          replace hBc := Lib.hid hBc
          replace hrc := Lib.hid hrc
          replace ho0 := Lib.hid ho0
          replace hrt := Lib.hid hrt
          replace hB5 := Lib.hid hB5
          replace hs5 := Lib.hid hs5
          replace hgd := Lib.hid hgd
          clear hk hHeld
          have hiM : (i : Int) ≤ (M : Int) := by omega
          go_wp2_with (first | (at_builtin; refine append_rts (w0 := wr.drew) wr.drew.heap.size rfl (.tmp 53) (.tmp 56) rfl _ [] (r.take i) (some ad) i cb rfl rfl hm1.out ho0.out hrt.out hB5.out hs5.out hle1.out ?_; intro v5 w5 ho5 hB6; have hb5 := bk_below hB6 hbc.out; obtain ⟨x0, x1, x2, x3, x4, x5, xf0, xf1, xf2, xf3, xf4, xf5⟩ := hold6 hb5; have ho6 := pw_own_below ho5 (bl_alloc (Below.refl _ w5) (.cells #[.int .u8 a, .int .u8 b, .int .u8 c, .int .u8 d, .int .i64 n, .int .i64 who] 35)); have hB7 := bl_alloc hB6 (.cells #[.int .u8 a, .int .u8 b, .int .u8 c, .int .u8 d, .int .i64 n, .int .i64 who] 35); have hl6 := rt_lit (W := w5) rfl (((a, b, c, d, n), who) : Rt); replace ho6 := Lib.hid ho6; replace hB7 := Lib.hid hB7; replace hl6 := Lib.hid hl6; clear ho5 hb5) | (at_builtin; refine append_rts (w0 := wr.drew) wr.drew.heap.size rfl (.tmp 58) (.tmp 60) rfl _ ([] ++ r.take i) [(((a, b, c, d, n), who) : Rt)] (some ⟨w5.heap.size, 0, none⟩) 1 1 rfl rfl rfl ho6.out hl6.out hB7.out hB7.out.size hle2.out ?_; intro v6 w6 ho8 hB8; have hrd := (fun (A : Option Addr) => rt_nil w6 A (r.drop i) hdz.out); replace hrd := Lib.hid hrd; replace ho8 := Lib.hid ho8; replace hB8 := Lib.hid hB8) | (at_builtin; refine append_rts (w0 := wr.drew) wr.drew.heap.size rfl (.tmp 62) (.tmp 65) rfl _ ([] ++ r.take i ++ [(((a, b, c, d, n), who) : Rt)]) (r.drop i) _ (M - i) _ rfl rfl hm3.out ho8.out (hrd.out _) hB8.out hB8.out.size hle3.out ?_; intro v7 w7 ho9 hB10; rw [hFk.out] at ho9; obtain ⟨A7, c7, rfl, hr7, _, _⟩ := rts_own ho9; have hBz := bl_then hBc.out hB10; replace hr7 := Lib.hid hr7; replace hBz := Lib.hid hBz; clear ho9 hB10))
          all_goals go_ret2
          all_goals first | exact ⟨A7, ⟨c7, rfl⟩, hr7.out, hBz.out⟩ | exact ⟨A7, c7, rfl, hr7.out, hBz.out⟩
  )
end Go.Proofs.Ytebeknnjjoobnaa
