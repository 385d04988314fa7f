/- The walk of PolicyPart. -/
import Derived.Test.YtfcekicjlgdmaaaPolicy12
set_option linter.unusedVariables false
set_option linter.unusedSimpArgs false
set_option maxRecDepth 100000
namespace Go.Proofs.Ytfcekicjlgdmaaa
open Go.RowKit Go.Proofs.YtfcekicjlgdmaaaW.PrintWords
attribute [local go_sem] max2_int min2_int max_two min_two
attribute [local go_sem ↓] eql_nt neq_nt eql_ad net_addr net_bits eql_pol neq_pol

theorem pols_cut (A : Option Addr) (n c m : Nat) (hm : m ≤ n) :
    ∃ A' : Option Addr, (∀ W : World, (Instr.slice 43 (.slice A n c) (some (.int .i64 (m : Int))) none none).run Try.prog W = .ok (.slice A' (n - m) (c - m)) W) ∧
      ∀ (w : World) (ps : List Pol), n ≤ c → ps.length = n → PolsAt w A ps → PolsAt w A' (ps.drop m) := by
  obtain ⟨i0, hi, hzz⟩ := Option.map_eq_some_iff.1 inf_pol
  simp only [Prod.mk.injEq] at hzz
  obtain ⟨_, hsz, _⟩ := hzz
  refine ⟨if c = m then A else A.map (·.add (m * 13)), fun W => ?_, fun w ps hc hl h => ?_⟩
  · have hel : Try.prog.elem 43 = 28 := by simp [Program.elem, Try.underlying43]
    have hu : Try.prog.underlying 43 = some (.slice (Try.prog.elem 43)) := by rw [hel]; exact Try.underlying43
    rw [run_slice_l W 43 A n c hu .i64 (m : Int) (Int.natCast_nonneg _) (by omega), hel]
    simp [sizeOf, typeInfo, hi, hsz, sliced, Result.andThen]
  · intro i hi2
    rw [List.length_drop] at hi2
    have hg : (ps.drop m).getD i zeroP = ps.getD (m + i) zeroP := by simp [List.getD_eq_getElem?_getD, List.getElem?_drop]
    obtain ⟨h1, x, rfl, h3⟩ := h (m + i) (by omega)
    rw [if_neg (by omega), hg]
    refine ⟨h1, _, rfl, ?_⟩
    rw [addr_add, show m * 13 + i * 13 = (m + i) * 13 by omega]
    exact h3
theorem pols_take {w : World} {A : Option Addr} {ps : List Pol} (h : PolsAt w A ps) (m : Nat) : PolsAt w A (ps.take m) := fun i hi => by
  rw [List.length_take] at hi
  have hg : (ps.take m).getD i zeroP = ps.getD i zeroP := by
    rw [List.getD_eq_getElem?_getD, List.getElem?_take, if_pos (by omega), ← List.getD_eq_getElem?_getD]
  rw [hg]
  exact h i (by omega)
theorem getD_two (ps : List Pol) (i j x : Nat) (hi : i ≤ ps.length) : (ps.take i ++ ps.drop j).getD x zeroP = ps.getD (if x < i then x else x - i + j) zeroP := by
  by_cases h : x < i
  · rw [if_pos h, List.getD_eq_getElem?_getD, List.getElem?_append_left (by rw [List.length_take]; omega), List.getElem?_take, if_pos h, ← List.getD_eq_getElem?_getD]
  · rw [if_neg h, List.getD_eq_getElem?_getD, List.getElem?_append_right (by rw [List.length_take]; omega), List.getElem?_drop, List.length_take, Nat.min_eq_left hi, ← List.getD_eq_getElem?_getD, show j + (x - i) = x - i + j by omega]
theorem part_ok {ps : List Pol} (h : AllOk ps) {i j : Nat} (hij : i ≤ j) (hj : j ≤ ps.length) : AllOk (ps.take i ++ ps.drop j) := by
  have hl : (ps.take i ++ ps.drop j).length = i + (ps.length - j) := by rw [List.length_append, List.length_take, List.length_drop]; omega
  have h8 := h.1
  refine ⟨by omega, fun x hx => ?_⟩
  unfold goodAt
  rw [getD_two ps i j x (by omega)]
  have hgx := h.2 (if x < i then x else x - i + j) (by split <;> omega)
  refine ⟨hgx.1, fun k hk => ?_⟩
  rw [getD_two ps i j k (by omega)]
  exact hgx.2 _ (by split <;> split <;> omega)
theorem twice_bad {ps : List Pol} {i j : Nat} (hij : i < j) (hj : j ≤ ps.length) : ¬ AllOk (ps.take j ++ ps.drop i) := fun h => by
  have hl : (ps.take j ++ ps.drop i).length = j + (ps.length - i) := by rw [List.length_append, List.length_take, List.length_drop]; omega
  have h1 := ((h.2 j (by omega)).2 i hij).1
  rw [getD_two ps j i i hj, getD_two ps j i j hj, if_pos hij, if_neg (Nat.lt_irrefl j)] at h1
  rw [show j - j + i = i by omega] at h1
  exact absurd h1 (by omega)
theorem step_append_run {P : Program} {ops : Array Oper} {o : Oper} {a : Act} {w w1 : World} {K : Act → World → Prop} {Q : Exit → Act → World → Prop} {E : Prop} {t : TypeId} {s x : Operand} {v u v1 : Value} (hgd : o.guard = none)
    (ho : o.op = .call { callee := .builtin .append, args := #[s, x], argTypes := #[t, t] }) (hs : a.eval s = v) (hx : a.eval x = u) (hr : (Builtin.append_ #[t, t] o.type #[v, u]).run P w = .ok v1 w1) (h : K (a.put o.dst v1) w1) :
    if Region.wanted o (yielded ops a.tmps) = true then Oper.wp P o a w K Q else E := by
  have hw : Region.wanted o (yielded ops a.tmps) = true := by simp [Region.wanted, hgd]
  rw [if_pos hw]
  unfold Oper.wp execOp
  simp only [ho, resolve, invoke, builtin, Sem.run_bind, Sem.run_pure, Result.andThen_ok, List.map_toArray, List.map_cons, List.map_nil, hs, hx, hr]
  exact h
set_option maxHeartbeats 3200000 in
theorem policyPart_walk (A1 : Option Addr) (len1 cap1 : Nat) {w : World} (hz1 : IsFlat polLeaves w A1 len1 cap1) (p q : Int) (hpq : (-9223372036854775808 ≤ p ∧ p ≤ 9223372036854775807) ∧ -9223372036854775808 ≤ q ∧ q ≤ 9223372036854775807) :
    Calls Try.prog 7 #[.slice A1 len1 cap1, .agg #[.int .i64 p, .int .i64 q]] w fun e w' => e = .returned (.bool true) ∧ Below w.heap.size w w' := by
  obtain ⟨ps, rfl, hp⟩ := pols_of hz1
  have hcl := flat_le hz1
  have hcm := flat_max hz1
  clear hz1
  obtain ⟨hpb, hqb⟩ := hpq
  replace hp := Lib.hid hp
  have hbx := bk_new w #[.int .i64 p, .int .i64 q] 46
  have hBx := bl_alloc (Below.refl _ w) (.cells #[.int .i64 p, .int .i64 q] 46)
  replace hbx := Lib.hid hbx
  replace hBx := Lib.hid hBx
  by_cases c1 : 8 < ps.length
  · have d1 : decide ((8 : Int) < (ps.length : Int)) = true := decide_eq_true (by omega)
    go_enter Try.func7, Try.ntmps7
    go_wp2_with (first | (go_at_call 14; refine (palive_any _).mono ?_; rintro e w0 ⟨rfl, hB0⟩; have hBa := bl_then hBx.out hB0; have hbx1 := bk_below hB0 hbx.out; obtain ⟨y0, y1, yf0, yf1⟩ := cells2 hbx1))
    go_ret
    exact ⟨rfl, hBa⟩
  have d1 : decide ((8 : Int) < (ps.length : Int)) = false := decide_eq_false (by omega)
  obtain ⟨V, hV⟩ : ∃ V, polsV ps = V := ⟨_, rfl⟩
  replace hV := Lib.hid hV
  by_cases c2 : V = 0
  · subst c2
    have hall : AllOk ps := by
      by_cases h : AllOk ps
      · exact h
      · have := polsV_no h; rw [hV.out] at this; omega
    by_cases c3 : p < 0
    · have d3 : decide (p < 0) = true := decide_eq_true c3
      go_enter Try.func7, Try.ntmps7
      go_wp2_with (first | (go_at_call 14; refine (palive_any _).mono ?_; rintro e w0 ⟨rfl, hB0⟩; have hBa := bl_then hBx.out hB0; have hbx1 := bk_below hB0 hbx.out; obtain ⟨y0, y1, yf0, yf1⟩ := cells2 hbx1) | (go_at_call 23; (with_reducible refine (pall_any A1 cap1 ps _ (hp.out.below hBa) hcl hcm).mono ?_); rw [hV.out]; rintro e w1 ⟨rfl, hB1⟩; have hBb := bl_then hBa hB1; have hbx2 := bk_below hB1 hbx1; obtain ⟨x0, x1, xf0, xf1⟩ := cells2 hbx2))
      go_ret
      exact ⟨rfl, hBb⟩
    have d3 : decide (p < 0) = false := decide_eq_false c3
    by_cases c4 : q < p
    · have d4 : decide (q < p) = true := decide_eq_true c4
      go_enter Try.func7, Try.ntmps7
      go_wp2_with (first | (go_at_call 14; refine (palive_any _).mono ?_; rintro e w0 ⟨rfl, hB0⟩; have hBa := bl_then hBx.out hB0; have hbx1 := bk_below hB0 hbx.out; obtain ⟨y0, y1, yf0, yf1⟩ := cells2 hbx1) | (go_at_call 23; (with_reducible refine (pall_any A1 cap1 ps _ (hp.out.below hBa) hcl hcm).mono ?_); rw [hV.out]; rintro e w1 ⟨rfl, hB1⟩; have hBb := bl_then hBa hB1; have hbx2 := bk_below hB1 hbx1; obtain ⟨x0, x1, xf0, xf1⟩ := cells2 hbx2))
      go_ret
      exact ⟨rfl, hBb⟩
    have d4 : decide (q < p) = false := decide_eq_false c4
    by_cases c5 : (ps.length : Int) < q
    · have d5 : decide ((ps.length : Int) < q) = true := decide_eq_true c5
      go_enter Try.func7, Try.ntmps7
      go_wp2_with (first | (go_at_call 14; refine (palive_any _).mono ?_; rintro e w0 ⟨rfl, hB0⟩; have hBa := bl_then hBx.out hB0; have hbx1 := bk_below hB0 hbx.out; obtain ⟨y0, y1, yf0, yf1⟩ := cells2 hbx1) | (go_at_call 23; (with_reducible refine (pall_any A1 cap1 ps _ (hp.out.below hBa) hcl hcm).mono ?_); rw [hV.out]; rintro e w1 ⟨rfl, hB1⟩; have hBb := bl_then hBa hB1; have hbx2 := bk_below hB1 hbx1; obtain ⟨x0, x1, xf0, xf1⟩ := cells2 hbx2))
      go_ret
      exact ⟨rfl, hBb⟩
    have d5 : decide ((ps.length : Int) < q) = false := decide_eq_false c5
    obtain ⟨i, rfl⟩ := Int.eq_ofNat_of_zero_le (by omega : 0 ≤ p)
    obtain ⟨j, rfl⟩ := Int.eq_ofNat_of_zero_le (by omega : 0 ≤ q)
    have hij : i ≤ j := by omega
    have hjl : j ≤ ps.length := by omega
    obtain ⟨Aj, hcj, hdj⟩ := pols_cut A1 ps.length cap1 j hjl
    obtain ⟨Ai, hci, hdi⟩ := pols_cut A1 ps.length cap1 i (by omega)
    go_enter Try.func7, Try.ntmps7
    go_wp2_with (first | (go_at_call 14; refine (palive_any _).mono ?_; rintro e w0 ⟨rfl, hB0⟩; have hBa := bl_then hBx.out hB0; have hbx1 := bk_below hB0 hbx.out; obtain ⟨y0, y1, yf0, yf1⟩ := cells2 hbx1) | (go_at_call 23; (with_reducible refine (pall_any A1 cap1 ps _ (hp.out.below hBa) hcl hcm).mono ?_); rw [hV.out]; rintro e w1 ⟨rfl, hB1⟩; have hBb := bl_then hBa hB1; have hbx2 := bk_below hB1 hbx1; obtain ⟨x0, x1, xf0, xf1⟩ := cells2 hbx2))
    have hic1 : (i : Int) ≤ (cap1 : Int) := by omega
    have hjc1 : (j : Int) ≤ (cap1 : Int) := by omega
    have okd5 : OkAll (ps.take i ++ ps.drop j) := OkAll.app (pols_take hp.out i).ok (hdj w ps hcl rfl hp.out).ok
    have okd6 : OkAll (ps.take j ++ ps.drop i) := OkAll.app (pols_take hp.out j).ok (hdi w ps hcl rfl hp.out).ok
    replace hbx2 := Lib.hid hbx2
    have hbk5 := hbx2
    have hBb' := Lib.hid hBb
    clear y0 y1 yf0 yf1 x0 x1 xf0 xf1
    obtain ⟨vm5, w2, hrunm5, hom5, hBm5⟩ := run_append_pols (w0 := w1) (W := (w1.alloc (.cells #[] 28)).drew) w1.heap.size 43 (.slice (some ⟨w1.heap.size, 0, none⟩) 0 0) [] (ps.take i) A1 i cap1 (by rw [List.length_take]; omega) (own_none w1 w1.heap.size (Nat.le_refl _)) (pols_take ((hp.out.below hBb).below (bl_drew (bl_alloc (Below.refl _ _) _))) i) (bl_drew (bl_alloc (Below.refl _ _) _)) (bl_drew (bl_alloc (Below.refl _ w1) (.cells #[] 28))).size (by simp; omega)
    rw [List.nil_append] at hom5
    obtain ⟨Am5, cm5, rfl, _, _, _⟩ := pols_own hom5 (pols_take hp.out i).ok
    obtain ⟨vn5, w3, hrunn5, hon5, hBn5⟩ := run_append_pols (w0 := w1) (W := w2) w1.heap.size 43 (.slice Am5 (ps.take i).length cm5) (ps.take i) (ps.drop j) Aj (ps.length - j) (cap1 - j) (by rw [List.length_drop]) hom5 (hdj _ ps hcl rfl ((hp.out.below hBb).below hBm5)) hBm5 hBm5.size (by rw [List.length_take]; omega)
    obtain ⟨An5, cn5, rfl, hpn5, hln5, hmn5⟩ := pols_own hon5 (okd5)
    obtain ⟨L5, hL5⟩ : ∃ L, ps.take i ++ ps.drop j = L := ⟨_, rfl⟩
    rw [hL5] at hrunn5 hpn5 hln5
    replace hL5 := Lib.hid hL5
    have hbm5 := bk_below hBm5 hbk5.out
    have hbn5 := bk_below hBn5 hbk5.out
    replace hbm5 := Lib.hid hbm5
    replace hbn5 := Lib.hid hbn5
    clear hom5 hon5
    refine wp_region_noPanic ?_
    refine wp_region_held_drew (S := fun w' => Bk w' w.heap.size #[.int .i64 i, .int .i64 j] 46) (by kernel_rfl) (bk_drew hbk5.out) (fun hHeld => ?_)
    refine wpAnyH_take (i := 1) (oi := { dst := some 37, op := Go.Op.move (Go.Operand.tmp 0), type := 43, pos := "law.go:78", after := #[], guard := none }) (v := ?_) rfl (by kernel_rfl) (by kernel_rfl) (by kernel_rfl) (fun _ _ _ h => h) (Or.inl ⟨by rfl, ?_⟩) (by assumption) ?_
    rotate_left 1
    · intro w' hSw
      first | (go_simp; done) | (go_simp; with_reducible rfl)
    try simp only [Act.put, List.getElem_toArray, List.getElem_cons_succ, List.getElem_cons_zero, List.setIfInBounds_toArray, List.set_cons_zero, List.set_cons_succ]
    refine wpAnyH_take (i := 2) (oi := { dst := some 38, op := Go.Op.indexAddr 46 (Go.Operand.tmp 3) (Go.Operand.const (Go.Value.int Go.IntKind.i64 0)), type := 0, pos := "law.go:78", after := #[], guard := none }) (v := ?_) rfl (by kernel_rfl) (by kernel_rfl) (by kernel_rfl) (fun _ _ _ h => h) (Or.inl ⟨by rfl, ?_⟩) (by assumption) ?_
    rotate_left 1
    · intro w' hSw
      first | (go_simp; done) | (go_simp; with_reducible rfl)
    try simp only [Act.put, List.getElem_toArray, List.getElem_cons_succ, List.getElem_cons_zero, List.setIfInBounds_toArray, List.set_cons_zero, List.set_cons_succ]
    refine wpAnyH_take (i := 3) (oi := { dst := some 39, op := Go.Op.load 3 (Go.Operand.tmp 38), type := 3, pos := "law.go:78", after := #[{ on := 2, ground := Go.Ground.data }], guard := none }) (v := ?_) rfl (by kernel_rfl) (by kernel_rfl) (by kernel_rfl) (fun _ _ _ h => h) (Or.inl ⟨by rfl, ?_⟩) (by assumption) ?_
    rotate_left 1
    · intro w' hSw
      obtain ⟨x0, x1, _⟩ := cells2 hSw
      first | (go_simp; done) | (go_simp; with_reducible rfl)
    try simp only [Act.put, List.getElem_toArray, List.getElem_cons_succ, List.getElem_cons_zero, List.setIfInBounds_toArray, List.set_cons_zero, List.set_cons_succ]
    refine wpAnyH_take (i := 4) (oi := { dst := some 40, op := Go.Op.slice 43 (Go.Operand.tmp 37) none (some (Go.Operand.tmp 39)) none, type := 43, pos := "law.go:78", after := #[{ on := 1, ground := Go.Ground.data }, { on := 3, ground := Go.Ground.data }], guard := none }) (v := ?_) rfl (by kernel_rfl) (by kernel_rfl) (by kernel_rfl) (fun _ _ _ h => h) (Or.inl ⟨by rfl, ?_⟩) (by assumption) ?_
    rotate_left 1
    · intro w' hSw
      first | (go_simp; done) | (go_simp; with_reducible rfl)
    try simp only [Act.put, List.getElem_toArray, List.getElem_cons_succ, List.getElem_cons_zero, List.setIfInBounds_toArray, List.set_cons_zero, List.set_cons_succ]
    refine wpAnyH_take (i := 6) (oi := { dst := some 42, op := Go.Op.move (Go.Operand.tmp 0), type := 43, pos := "law.go:78", after := #[], guard := none }) (v := ?_) rfl (by kernel_rfl) (by kernel_rfl) (by kernel_rfl) (fun _ _ _ h => h) (Or.inl ⟨by rfl, ?_⟩) (by assumption) ?_
    rotate_left 1
    · intro w' hSw
      first | (go_simp; done) | (go_simp; with_reducible rfl)
    try simp only [Act.put, List.getElem_toArray, List.getElem_cons_succ, List.getElem_cons_zero, List.setIfInBounds_toArray, List.set_cons_zero, List.set_cons_succ]
    refine wpAnyH_take (i := 7) (oi := { dst := some 43, op := Go.Op.indexAddr 46 (Go.Operand.tmp 3) (Go.Operand.const (Go.Value.int Go.IntKind.i64 1)), type := 0, pos := "law.go:78", after := #[], guard := none }) (v := ?_) rfl (by kernel_rfl) (by kernel_rfl) (by kernel_rfl) (fun _ _ _ h => h) (Or.inl ⟨by rfl, ?_⟩) (by assumption) ?_
    rotate_left 1
    · intro w' hSw
      first | (go_simp; done) | (go_simp; with_reducible rfl)
    try simp only [Act.put, List.getElem_toArray, List.getElem_cons_succ, List.getElem_cons_zero, List.setIfInBounds_toArray, List.set_cons_zero, List.set_cons_succ]
    refine wpAnyH_take (i := 8) (oi := { dst := some 44, op := Go.Op.load 3 (Go.Operand.tmp 43), type := 3, pos := "law.go:78", after := #[{ on := 7, ground := Go.Ground.data }], guard := none }) (v := ?_) rfl (by kernel_rfl) (by kernel_rfl) (by kernel_rfl) (fun _ _ _ h => h) (Or.inl ⟨by rfl, ?_⟩) (by assumption) ?_
    rotate_left 1
    · intro w' hSw
      obtain ⟨x0, x1, _⟩ := cells2 hSw
      first | (go_simp; done) | (go_simp; with_reducible rfl)
    try simp only [Act.put, List.getElem_toArray, List.getElem_cons_succ, List.getElem_cons_zero, List.setIfInBounds_toArray, List.set_cons_zero, List.set_cons_succ]
    refine wpAnyH_take (i := 9) (oi := { dst := some 45, op := Go.Op.slice 43 (Go.Operand.tmp 42) (some (Go.Operand.tmp 44)) none none, type := 43, pos := "law.go:78", after := #[{ on := 6, ground := Go.Ground.data }, { on := 8, ground := Go.Ground.data }], guard := none }) (v := ?_) rfl (by kernel_rfl) (by kernel_rfl) (by kernel_rfl) (fun _ _ _ h => h) (Or.inl ⟨by rfl, ?_⟩) (by assumption) ?_
    rotate_left 1
    · intro w' hSw
      first | (go_simp; done) | (go_simp; with_reducible rfl)
    try simp only [Act.put, List.getElem_toArray, List.getElem_cons_succ, List.getElem_cons_zero, List.setIfInBounds_toArray, List.set_cons_zero, List.set_cons_succ]
    refine wpAnyH_ready (rs := [0]) (by kernel_rfl) (by simp) ?_
    refine (AllReadyH.cons (o := { dst := some 36, op := Go.Op.buildSlice 43 0 #[], type := 43, pos := "law.go:78", after := #[], guard := none }) rfl (fun K hK => ?_) AllReadyH.nil)
    go_simp
    skip
    refine hK.out _ _ ?_ (fun hHeld => ?_)
    · first | exact bk_alloc hHeld _ | exact bk_drew (bk_alloc hHeld _) | exact hbm5.out | exact hbn5.out
    clear hK K
    try simp only [Act.put, List.getElem_toArray, List.getElem_cons_succ, List.getElem_cons_zero, List.setIfInBounds_toArray, List.set_cons_zero, List.set_cons_succ]
    refine wpAnyH_ready (rs := [5]) (by kernel_rfl) (by simp) ?_
    refine (AllReadyH.cons (o := { dst := some 41, op := Go.Op.call { callee := Go.Callee.builtin Go.Builtin.append, args := #[Go.Operand.tmp 36, Go.Operand.tmp 40], argTypes := #[43, 43] }, type := 43, pos := "law.go:78", after := #[{ on := 0, ground := Go.Ground.data }, { on := 4, ground := Go.Ground.data }], guard := none }) rfl (fun K hK => ?_) AllReadyH.nil)
    refine step_append_run rfl rfl rfl rfl hrunm5 ?_
    refine hK.out _ _ ?_ (fun hHeld => ?_)
    · first | exact bk_alloc hHeld _ | exact bk_drew (bk_alloc hHeld _) | exact hbm5.out | exact hbn5.out
    clear hK K
    try simp only [Act.put, List.getElem_toArray, List.getElem_cons_succ, List.getElem_cons_zero, List.setIfInBounds_toArray, List.set_cons_zero, List.set_cons_succ]
    refine wpAnyH_ready (rs := [10]) (by kernel_rfl) (by simp) ?_
    refine (AllReadyH.cons (o := { dst := some 46, op := Go.Op.call { callee := Go.Callee.builtin Go.Builtin.append, args := #[Go.Operand.tmp 41, Go.Operand.tmp 45], argTypes := #[43, 43] }, type := 43, pos := "law.go:78", after := #[{ on := 5, ground := Go.Ground.data }, { on := 9, ground := Go.Ground.data }, { on := 5, ground := Go.Ground.chain }], guard := none }) rfl (fun K hK => ?_) AllReadyH.nil)
    refine step_append_run rfl rfl rfl rfl hrunn5 ?_
    refine hK.out _ _ ?_ (fun hHeld => ?_)
    · first | exact bk_alloc hHeld _ | exact bk_drew (bk_alloc hHeld _) | exact hbm5.out | exact hbn5.out
    clear hK K
    try simp only [Act.put, List.getElem_toArray, List.getElem_cons_succ, List.getElem_cons_zero, List.setIfInBounds_toArray, List.set_cons_zero, List.set_cons_succ]
    refine wpAnyH_take (i := 11) (oi := { dst := some 5, op := Go.Op.assign (Go.Operand.tmp 46), type := 43, pos := "law.go:78", after := #[{ on := 10, ground := Go.Ground.data }, { on := 10, ground := Go.Ground.chain }, { on := 0, ground := Go.Ground.phase }, { on := 1, ground := Go.Ground.phase }, { on := 2, ground := Go.Ground.phase }, { on := 3, ground := Go.Ground.phase }, { on := 4, ground := Go.Ground.phase }, { on := 5, ground := Go.Ground.phase }, { on := 6, ground := Go.Ground.phase }, { on := 7, ground := Go.Ground.phase }, { on := 8, ground := Go.Ground.phase }, { on := 9, ground := Go.Ground.phase }, { on := 10, ground := Go.Ground.phase }], guard := none }) (v := ?_) rfl (by kernel_rfl) (by kernel_rfl) (by kernel_rfl) (fun _ _ _ h => h) (Or.inl ⟨by rfl, ?_⟩) (by assumption) ?_
    rotate_left 1
    · intro w' hSw
      first | (go_simp; done) | (go_simp; with_reducible rfl)
    try simp only [Act.put, List.getElem_toArray, List.getElem_cons_succ, List.getElem_cons_zero, List.setIfInBounds_toArray, List.set_cons_zero, List.set_cons_succ]
    refine wpAnyH_done (by kernel_rfl) ?_ _
    refine NoPanic.normal ?_
    have hbk6 := hbn5
    have hBc := bl_then hBb hBn5
    obtain ⟨vm6, w4, hrunm6, hom6, hBm6⟩ := run_append_pols (w0 := w3) (W := (w3.alloc (.cells #[] 28)).drew) w3.heap.size 43 (.slice (some ⟨w3.heap.size, 0, none⟩) 0 0) [] (ps.take j) A1 j cap1 (by rw [List.length_take]; omega) (own_none w3 w3.heap.size (Nat.le_refl _)) (pols_take ((hp.out.below hBc).below (bl_drew (bl_alloc (Below.refl _ _) _))) j) (bl_drew (bl_alloc (Below.refl _ _) _)) (bl_drew (bl_alloc (Below.refl _ w3) (.cells #[] 28))).size (by simp; omega)
    rw [List.nil_append] at hom6
    obtain ⟨Am6, cm6, rfl, _, _, _⟩ := pols_own hom6 (pols_take hp.out j).ok
    obtain ⟨vn6, w5, hrunn6, hon6, hBn6⟩ := run_append_pols (w0 := w3) (W := w4) w3.heap.size 43 (.slice Am6 (ps.take j).length cm6) (ps.take j) (ps.drop i) Ai (ps.length - i) (cap1 - i) (by rw [List.length_drop]) hom6 (hdi _ ps hcl rfl ((hp.out.below hBc).below hBm6)) hBm6 hBm6.size (by rw [List.length_take]; omega)
    obtain ⟨An6, cn6, rfl, hpn6, hln6, hmn6⟩ := pols_own hon6 (okd6)
    obtain ⟨L6, hL6⟩ : ∃ L, ps.take j ++ ps.drop i = L := ⟨_, rfl⟩
    rw [hL6] at hrunn6 hpn6 hln6
    replace hL6 := Lib.hid hL6
    have hbm6 := bk_below hBm6 hbk6.out
    have hbn6 := bk_below hBn6 hbk6.out
    replace hbm6 := Lib.hid hbm6
    replace hbn6 := Lib.hid hbn6
    clear hom6 hon6
    clear hHeld hrunm5 hrunn5
    go_wp2_with (fail)
    refine wp_region_noPanic ?_
    refine wp_region_held_drew (S := fun w' => Bk w' w.heap.size #[.int .i64 i, .int .i64 j] 46) (by kernel_rfl) (bk_drew hbk6.out) (fun hHeld => ?_)
    refine wpAnyH_take (i := 1) (oi := { dst := some 48, op := Go.Op.move (Go.Operand.tmp 0), type := 43, pos := "law.go:79", after := #[], guard := none }) (v := ?_) rfl (by kernel_rfl) (by kernel_rfl) (by kernel_rfl) (fun _ _ _ h => h) (Or.inl ⟨by rfl, ?_⟩) (by assumption) ?_
    rotate_left 1
    · intro w' hSw
      first | (go_simp; done) | (go_simp; with_reducible rfl)
    try simp only [Act.put, List.getElem_toArray, List.getElem_cons_succ, List.getElem_cons_zero, List.setIfInBounds_toArray, List.set_cons_zero, List.set_cons_succ]
    refine wpAnyH_take (i := 2) (oi := { dst := some 49, op := Go.Op.indexAddr 46 (Go.Operand.tmp 3) (Go.Operand.const (Go.Value.int Go.IntKind.i64 1)), type := 0, pos := "law.go:79", after := #[], guard := none }) (v := ?_) rfl (by kernel_rfl) (by kernel_rfl) (by kernel_rfl) (fun _ _ _ h => h) (Or.inl ⟨by rfl, ?_⟩) (by assumption) ?_
    rotate_left 1
    · intro w' hSw
      first | (go_simp; done) | (go_simp; with_reducible rfl)
    try simp only [Act.put, List.getElem_toArray, List.getElem_cons_succ, List.getElem_cons_zero, List.setIfInBounds_toArray, List.set_cons_zero, List.set_cons_succ]
    refine wpAnyH_take (i := 3) (oi := { dst := some 50, op := Go.Op.load 3 (Go.Operand.tmp 49), type := 3, pos := "law.go:79", after := #[{ on := 2, ground := Go.Ground.data }], guard := none }) (v := ?_) rfl (by kernel_rfl) (by kernel_rfl) (by kernel_rfl) (fun _ _ _ h => h) (Or.inl ⟨by rfl, ?_⟩) (by assumption) ?_
    rotate_left 1
    · intro w' hSw
      obtain ⟨x0, x1, _⟩ := cells2 hSw
      first | (go_simp; done) | (go_simp; with_reducible rfl)
    try simp only [Act.put, List.getElem_toArray, List.getElem_cons_succ, List.getElem_cons_zero, List.setIfInBounds_toArray, List.set_cons_zero, List.set_cons_succ]
    refine wpAnyH_take (i := 4) (oi := { dst := some 51, op := Go.Op.slice 43 (Go.Operand.tmp 48) none (some (Go.Operand.tmp 50)) none, type := 43, pos := "law.go:79", after := #[{ on := 1, ground := Go.Ground.data }, { on := 3, ground := Go.Ground.data }], guard := none }) (v := ?_) rfl (by kernel_rfl) (by kernel_rfl) (by kernel_rfl) (fun _ _ _ h => h) (Or.inl ⟨by rfl, ?_⟩) (by assumption) ?_
    rotate_left 1
    · intro w' hSw
      first | (go_simp; done) | (go_simp; with_reducible rfl)
    try simp only [Act.put, List.getElem_toArray, List.getElem_cons_succ, List.getElem_cons_zero, List.setIfInBounds_toArray, List.set_cons_zero, List.set_cons_succ]
    refine wpAnyH_take (i := 6) (oi := { dst := some 53, op := Go.Op.move (Go.Operand.tmp 0), type := 43, pos := "law.go:79", after := #[], guard := none }) (v := ?_) rfl (by kernel_rfl) (by kernel_rfl) (by kernel_rfl) (fun _ _ _ h => h) (Or.inl ⟨by rfl, ?_⟩) (by assumption) ?_
    rotate_left 1
    · intro w' hSw
      first | (go_simp; done) | (go_simp; with_reducible rfl)
    try simp only [Act.put, List.getElem_toArray, List.getElem_cons_succ, List.getElem_cons_zero, List.setIfInBounds_toArray, List.set_cons_zero, List.set_cons_succ]
    refine wpAnyH_take (i := 7) (oi := { dst := some 54, op := Go.Op.indexAddr 46 (Go.Operand.tmp 3) (Go.Operand.const (Go.Value.int Go.IntKind.i64 0)), type := 0, pos := "law.go:79", after := #[], guard := none }) (v := ?_) rfl (by kernel_rfl) (by kernel_rfl) (by kernel_rfl) (fun _ _ _ h => h) (Or.inl ⟨by rfl, ?_⟩) (by assumption) ?_
    rotate_left 1
    · intro w' hSw
      first | (go_simp; done) | (go_simp; with_reducible rfl)
    try simp only [Act.put, List.getElem_toArray, List.getElem_cons_succ, List.getElem_cons_zero, List.setIfInBounds_toArray, List.set_cons_zero, List.set_cons_succ]
    refine wpAnyH_take (i := 8) (oi := { dst := some 55, op := Go.Op.load 3 (Go.Operand.tmp 54), type := 3, pos := "law.go:79", after := #[{ on := 7, ground := Go.Ground.data }], guard := none }) (v := ?_) rfl (by kernel_rfl) (by kernel_rfl) (by kernel_rfl) (fun _ _ _ h => h) (Or.inl ⟨by rfl, ?_⟩) (by assumption) ?_
    rotate_left 1
    · intro w' hSw
      obtain ⟨x0, x1, _⟩ := cells2 hSw
      first | (go_simp; done) | (go_simp; with_reducible rfl)
    try simp only [Act.put, List.getElem_toArray, List.getElem_cons_succ, List.getElem_cons_zero, List.setIfInBounds_toArray, List.set_cons_zero, List.set_cons_succ]
    refine wpAnyH_take (i := 9) (oi := { dst := some 56, op := Go.Op.slice 43 (Go.Operand.tmp 53) (some (Go.Operand.tmp 55)) none none, type := 43, pos := "law.go:79", after := #[{ on := 6, ground := Go.Ground.data }, { on := 8, ground := Go.Ground.data }], guard := none }) (v := ?_) rfl (by kernel_rfl) (by kernel_rfl) (by kernel_rfl) (fun _ _ _ h => h) (Or.inl ⟨by rfl, ?_⟩) (by assumption) ?_
    rotate_left 1
    · intro w' hSw
      first | (go_simp; done) | (go_simp; with_reducible rfl)
    try simp only [Act.put, List.getElem_toArray, List.getElem_cons_succ, List.getElem_cons_zero, List.setIfInBounds_toArray, List.set_cons_zero, List.set_cons_succ]
    refine wpAnyH_ready (rs := [0]) (by kernel_rfl) (by simp) ?_
    refine (AllReadyH.cons (o := { dst := some 47, op := Go.Op.buildSlice 43 0 #[], type := 43, pos := "law.go:79", after := #[], guard := none }) rfl (fun K hK => ?_) AllReadyH.nil)
    go_simp
    skip
    refine hK.out _ _ ?_ (fun hHeld => ?_)
    · first | exact bk_alloc hHeld _ | exact bk_drew (bk_alloc hHeld _) | exact hbm6.out | exact hbn6.out
    clear hK K
    try simp only [Act.put, List.getElem_toArray, List.getElem_cons_succ, List.getElem_cons_zero, List.setIfInBounds_toArray, List.set_cons_zero, List.set_cons_succ]
    refine wpAnyH_ready (rs := [5]) (by kernel_rfl) (by simp) ?_
    refine (AllReadyH.cons (o := { dst := some 52, op := Go.Op.call { callee := Go.Callee.builtin Go.Builtin.append, args := #[Go.Operand.tmp 47, Go.Operand.tmp 51], argTypes := #[43, 43] }, type := 43, pos := "law.go:79", after := #[{ on := 0, ground := Go.Ground.data }, { on := 4, ground := Go.Ground.data }], guard := none }) rfl (fun K hK => ?_) AllReadyH.nil)
    refine step_append_run rfl rfl rfl rfl hrunm6 ?_
    refine hK.out _ _ ?_ (fun hHeld => ?_)
    · first | exact bk_alloc hHeld _ | exact bk_drew (bk_alloc hHeld _) | exact hbm6.out | exact hbn6.out
    clear hK K
    try simp only [Act.put, List.getElem_toArray, List.getElem_cons_succ, List.getElem_cons_zero, List.setIfInBounds_toArray, List.set_cons_zero, List.set_cons_succ]
    refine wpAnyH_ready (rs := [10]) (by kernel_rfl) (by simp) ?_
    refine (AllReadyH.cons (o := { dst := some 57, op := Go.Op.call { callee := Go.Callee.builtin Go.Builtin.append, args := #[Go.Operand.tmp 52, Go.Operand.tmp 56], argTypes := #[43, 43] }, type := 43, pos := "law.go:79", after := #[{ on := 5, ground := Go.Ground.data }, { on := 9, ground := Go.Ground.data }, { on := 5, ground := Go.Ground.chain }], guard := none }) rfl (fun K hK => ?_) AllReadyH.nil)
    refine step_append_run rfl rfl rfl rfl hrunn6 ?_
    refine hK.out _ _ ?_ (fun hHeld => ?_)
    · first | exact bk_alloc hHeld _ | exact bk_drew (bk_alloc hHeld _) | exact hbm6.out | exact hbn6.out
    clear hK K
    try simp only [Act.put, List.getElem_toArray, List.getElem_cons_succ, List.getElem_cons_zero, List.setIfInBounds_toArray, List.set_cons_zero, List.set_cons_succ]
    refine wpAnyH_take (i := 11) (oi := { dst := some 6, op := Go.Op.assign (Go.Operand.tmp 57), type := 43, pos := "law.go:79", after := #[{ on := 10, ground := Go.Ground.data }, { on := 10, ground := Go.Ground.chain }, { on := 0, ground := Go.Ground.phase }, { on := 1, ground := Go.Ground.phase }, { on := 2, ground := Go.Ground.phase }, { on := 3, ground := Go.Ground.phase }, { on := 4, ground := Go.Ground.phase }, { on := 5, ground := Go.Ground.phase }, { on := 6, ground := Go.Ground.phase }, { on := 7, ground := Go.Ground.phase }, { on := 8, ground := Go.Ground.phase }, { on := 9, ground := Go.Ground.phase }, { on := 10, ground := Go.Ground.phase }], guard := none }) (v := ?_) rfl (by kernel_rfl) (by kernel_rfl) (by kernel_rfl) (fun _ _ _ h => h) (Or.inl ⟨by rfl, ?_⟩) (by assumption) ?_
    rotate_left 1
    · intro w' hSw
      first | (go_simp; done) | (go_simp; with_reducible rfl)
    try simp only [Act.put, List.getElem_toArray, List.getElem_cons_succ, List.getElem_cons_zero, List.setIfInBounds_toArray, List.set_cons_zero, List.set_cons_succ]
    refine wpAnyH_done (by kernel_rfl) ?_ _
    refine NoPanic.normal ?_
    clear hHeld
    have hBd := bl_then hBc hBn6
    have hv5 : polsV L5 = 0 := by rw [← hL5.out]; exact polsV_yes (part_ok hall hij hjl)
    have hp5 := hpn5.below hBn6
    replace hv5 := Lib.hid hv5
    have hbx5 := hbn6.out
    by_cases hE : i = j
    · subst hE
      go_wp2_with (go_at_call 23; (with_reducible refine (pall_any An5 cn5 L5 _ hp5 hln5 hmn5).mono ?_); rw [hv5.out]; rintro e w6 ⟨rfl, hB6⟩; obtain ⟨y0, y1, yf0, yf1⟩ := cells2 (bk_below hB6 hbx5))
      go_ret
      exact ⟨rfl, bl_then hBd hB6⟩
    · have hv6 : polsV L6 = 111 := by rw [← hL6.out]; exact polsV_no (twice_bad (by omega) hjl)
      replace hv6 := Lib.hid hv6
      have hE1 : decide ((i : Int) = (j : Int)) = false := decide_eq_false (by omega)
      have hE2 : decide (i = j) = false := decide_eq_false hE
      go_wp2_with (first | (go_at_call 23; (with_reducible refine (pall_any An5 cn5 L5 _ hp5 hln5 hmn5).mono ?_); rw [hv5.out]; rintro e w6 ⟨rfl, hB6⟩; obtain ⟨y0, y1, yf0, yf1⟩ := cells2 (bk_below hB6 hbx5)) | (go_at_call 23; (with_reducible refine (pall_any An6 cn6 L6 _ (hpn6.below hB6) hln6 hmn6).mono ?_); rw [hv6.out]; rintro e w7 ⟨rfl, hB7⟩))
      go_ret
      exact ⟨rfl, bl_then (bl_then hBd hB6) hB7⟩
  · have hV1 : V = 111 := by
      have := hV.out
      unfold polsV at this
      split at this <;> omega
    subst hV1
    go_enter Try.func7, Try.ntmps7
    go_wp2_with (first | (go_at_call 14; refine (palive_any _).mono ?_; rintro e w0 ⟨rfl, hB0⟩; have hBa := bl_then hBx.out hB0; have hbx1 := bk_below hB0 hbx.out; obtain ⟨y0, y1, yf0, yf1⟩ := cells2 hbx1) | (go_at_call 23; (with_reducible refine (pall_any A1 cap1 ps _ (hp.out.below hBa) hcl hcm).mono ?_); rw [hV.out]; rintro e w1 ⟨rfl, hB1⟩; have hBb := bl_then hBa hB1; have hbx2 := bk_below hB1 hbx1; obtain ⟨x0, x1, xf0, xf1⟩ := cells2 hbx2))
    go_ret
    exact ⟨rfl, hBb⟩
end Go.Proofs.Ytfcekicjlgdmaaa
