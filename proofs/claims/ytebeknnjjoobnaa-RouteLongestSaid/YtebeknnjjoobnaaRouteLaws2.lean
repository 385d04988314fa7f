/- The walks of RouteNames and RouteLongest. -/
import Derived.Test.YtebeknnjjoobnaaRouteLaws
import Derived.Test.YtebeknnjjoobnaaRouteM
set_option linter.unusedVariables false
set_option linter.unusedSimpArgs false
namespace Go.Proofs.Ytebeknnjjoobnaa
open Go.RowKit
attribute [local go_sem] max2_int min2_int max_two min_two
attribute [local go_sem ↓] eql_nt neq_nt eql_ad net_addr net_bits

theorem names_r1 : setL [] (0, 0, 0, 0, 33) 1 = [] ∧ setE [] (0, 0, 0, 0, 33) 1 = 61 := by decide +kernel
theorem names_r2 : setL [] (0, 0, 0, 0, 0) (-1) = [] ∧ setE [] (0, 0, 0, 0, 0) (-1) = 61 := by decide +kernel
set_option maxHeartbeats 1600000 in
theorem routeNames_walk (w : World) : Calls Try.prog 3 #[] w fun e w' => e = .returned (.bool true) ∧ Below w.heap.size w w' := by
  have ok1 : NtOk 0 0 0 0 33 := by unfold NtOk AdOk; omega
  have ok2 : NtOk 0 0 0 0 0 := by unfold NtOk AdOk; omega
  go_enter Try.func3, Try.ntmps3
  go_wp2_with (fail)
  refine (tnew_any _).mono ?_; rintro e w1 ⟨g, t, rfl, k1, hg, ht, hB1⟩
  go_wp2_with (fail)
  refine (set_at k1 ok1 names_r1).mono ?_; rintro e w2 ⟨rfl, k2, hK2⟩
  have hBa := Kept.bl hB1 hK2 (fun i e => e ▸ ht)
  go_wp2_with (fail)
  refine (set_at k2 ok2 names_r2).mono ?_; rintro e w3 ⟨rfl, k3, hK3⟩
  have hBb := Kept.bl hBa hK3 (fun i e => e ▸ ht)
  clear hK2 hK3 k1 k2 hB1 hBa
  go_wp2_with (fail)
  refine (routeAlive_any _).mono ?_; rintro e w4 ⟨rfl, hB4⟩
  have k4 := k3.below hB4
  replace k4 := Lib.hid k4
  go_wp2_with (go_at_call 11; (with_reducible refine (tlen_any k4.out).mono ?_); rintro e w' ⟨rfl, rfl⟩)
  go_ret
  exact ⟨rfl, bl_then hBb hB4⟩

theorem setE_right (l : Routes) (x : Nt) (k : Nat) (hl : l.length < 64) : ((setE l x (k : Int) == 0) != rightT x) = false := by
  unfold setE
  rw [setOk_right l x k hl]
  cases rightT x <;> decide
set_option maxHeartbeats 3200000 in
set_option maxRecDepth 100000 in
theorem routeLongest_walk (A : Option Addr) (len cap : Nat) {w : World} (hz : IsFlat [.i .u8, .i .u8, .i .u8, .i .u8, .i .i64] w A len cap) (p q r s : Int) (hp : AdOk p q r s) :
    Calls Try.prog 4 #[.slice A len cap, .agg #[.int .u8 p, .int .u8 q, .int .u8 r, .int .u8 s]] w fun e w' => e = .returned (.bool true) ∧ Below w.heap.size w w' := by
  obtain ⟨ns, rfl, hns⟩ := nts_of hz
  replace hns := Lib.hid hns
  clear hz
  have hbx := bk_new w #[.int .u8 p, .int .u8 q, .int .u8 r, .int .u8 s] 27
  have hBx := bl_alloc (Below.refl _ w) (.cells #[.int .u8 p, .int .u8 q, .int .u8 r, .int .u8 s] 27)
  by_cases hl : (64 : Int) < ns.length
  · have hl2 : decide ((64 : Int) < ns.length) = true := decide_eq_true hl
    go_enter Try.func4, Try.ntmps4
    go_wp2_with (go_at_call 10; (with_reducible refine (routeAlive_any _).mono ?_); rintro e w0 ⟨rfl, hB0⟩)
    go_ret
    exact ⟨rfl, bl_then hBx hB0⟩
  have hl2 : decide ((64 : Int) < ns.length) = false := decide_eq_false hl
  have hl64 : ns.length ≤ 64 := by omega
  go_enter Try.func4, Try.ntmps4
  go_wp2_with (go_at_call 10; (with_reducible refine (routeAlive_any _).mono ?_); rintro e w0 ⟨rfl, hB0⟩)
  refine (tnew_any _).mono ?_; rintro e w1 ⟨g, t, rfl, k1, hg, ht, hB1⟩
  have hBa := bl_then (bl_then hBx hB0) hB1
  have hbx1 := bk_below hB1 (bk_below hB0 hbx)
  have hgw : w.heap.size ≤ t := by have := (bl_then hBx hB0).size; omega
  clear hBx hbx hB0 hB1
  have hxt : w.heap.size ≠ t := mp_ne_bk k1.2 hbx1
  replace hbx1 := Lib.hid hbx1
  replace hBa := Lib.hid hBa
  go_wp2_with (fail)
  go_loopw [20] (fun v wr => ∃ i : Nat, v = .int .i64 i ∧ i ≤ ns.length ∧ Tb wr g t (setsL ns i) ∧ Kept (· = t) w1 wr) (fun v _ => ns.length - (intOf v).toNat)
  case atStart => exact ⟨0, rfl, Nat.zero_le _, k1, Kept.refl _ _⟩
  case round =>
    obtain ⟨i, rfl, hi, kt, hK⟩ := hrel
    have hBw := Kept.bl hBa.out hK (fun j e => e ▸ hgw)
    have hbxr := bk_kept hK hbx1.out hxt
    replace hbxr := Lib.hid hbxr
    by_cases hil : i < ns.length
    · have hil2 : decide ((i : Int) < ns.length) = true := decide_eq_true (by omega)
      obtain ⟨hok, ad, rfl, hrow⟩ := hns.out i hil
      obtain ⟨x, hx⟩ : ∃ x, ns.getD i zeroN = x := ⟨_, rfl⟩
      rw [hx] at hok hrow
      replace hx := Lib.hid hx
      obtain ⟨c0, c1, c2, c3, c4⟩ := nt_cellsAt (hrow.far hBw)
      go_wp2_with (fail)
      have hnb := bk_new wr #[.int .u8 x.1, .int .u8 x.2.1, .int .u8 x.2.2.1, .int .u8 x.2.2.2.1, .int .i64 x.2.2.2.2] 29
      have hnt : wr.heap.size ≠ t := by have := Mp.lt kt.2; omega
      have kt9 := (kt.alloc (.cells #[.int .u8 x.1, .int .u8 x.2.1, .int .u8 x.2.2.1, .int .u8 x.2.2.2.1, .int .i64 x.2.2.2.2] 29)).drew
      have hKa := (hK.alloc (.cells #[.int .u8 x.1, .int .u8 x.2.1, .int .u8 x.2.2.1, .int .u8 x.2.2.2.1, .int .i64 x.2.2.2.2] 29)).drew
      have hlen := setsL_len ns i
      have hcmp := setE_right (setsL ns i) x i (by omega)
      obtain ⟨E, hE⟩ : ∃ E, setE (setsL ns i) x (i : Int) = E := ⟨_, rfl⟩
      obtain ⟨R, hR⟩ : ∃ R, rightT x = R := ⟨_, rfl⟩
      rw [hE, hR] at hcmp
      have hcmp2 : (!((E == 0) == R)) = false := hcmp
      have hS1 : setL (setsL ns i) x (i : Int) = setsL ns (i + 1) := by rw [← hx.out]; rfl
      replace hE := Lib.hid hE
      replace hR := Lib.hid hR
      replace hS1 := Lib.hid hS1
      replace kt9 := Lib.hid kt9
      replace hKa := Lib.hid hKa
      replace hnb := Lib.hid (bk_drew hnb)
      replace hbxr := Lib.hid hbxr.out
      clear c0 c1 c2 c3 c4 hrow kt hK hBw
      refine wp_region_noPanic ?_
      refine wp_region_held_drew (S := fun w' => Bk w' wr.heap.size #[.int .u8 x.1, .int .u8 x.2.1, .int .u8 x.2.2.1, .int .u8 x.2.2.2.1, .int .i64 x.2.2.2.2] 29) (by kernel_rfl) (hnb.out) (fun hHeld => ?_)
      refine wpAnyH_take (i := 0) (oi := { dst := some 25, op := Go.Op.move (Go.Operand.tmp 5), type := 22, pos := "law.go:94", after := #[], guard := none }) (v := ?_) rfl (by kernel_rfl) (by kernel_rfl) (by kernel_rfl) (fun _ _ _ h => h) (Or.inl ⟨by rfl, ?_⟩) (by assumption) ?_
      rotate_left 1
      · intro w' hSw
        first | (go_simp; done) | (go_simp; with_reducible rfl)
      try simp only [Act.put, List.getElem_toArray, List.getElem_cons_succ, List.getElem_cons_zero, List.setIfInBounds_toArray, List.set_cons_zero, List.set_cons_succ]
      refine wpAnyH_take (i := 1) (oi := { dst := some 26, op := Go.Op.load 29 (Go.Operand.tmp 7), type := 29, pos := "law.go:94", after := #[], guard := none }) (v := ?_) rfl (by kernel_rfl) (by kernel_rfl) (by kernel_rfl) (fun _ _ _ h => h) (Or.inl ⟨by rfl, ?_⟩) (by assumption) ?_
      rotate_left 1
      · intro w' hSw
        obtain ⟨z0, z1, z2, z3, z4, _⟩ := hold5 hSw
        first | (go_simp; done) | (go_simp; with_reducible rfl)
      try simp only [Act.put, List.getElem_toArray, List.getElem_cons_succ, List.getElem_cons_zero, List.setIfInBounds_toArray, List.set_cons_zero, List.set_cons_succ]
      refine wpAnyH_take (i := 2) (oi := { dst := some 27, op := Go.Op.move (Go.Operand.tmp 6), type := 3, pos := "law.go:94", after := #[], guard := none }) (v := ?_) rfl (by kernel_rfl) (by kernel_rfl) (by kernel_rfl) (fun _ _ _ h => h) (Or.inl ⟨by rfl, ?_⟩) (by assumption) ?_
      rotate_left 1
      · intro w' hSw
        first | (go_simp; done) | (go_simp; with_reducible rfl)
      try simp only [Act.put, List.getElem_toArray, List.getElem_cons_succ, List.getElem_cons_zero, List.setIfInBounds_toArray, List.set_cons_zero, List.set_cons_succ]
      refine wpAnyH_take (i := 5) (oi := { dst := some 30, op := Go.Op.load 29 (Go.Operand.tmp 7), type := 29, pos := "law.go:94", after := #[], guard := none }) (v := ?_) rfl (by kernel_rfl) (by kernel_rfl) (by kernel_rfl) (fun _ _ _ h => h) (Or.inl ⟨by rfl, ?_⟩) (by assumption) ?_
      rotate_left 1
      · intro w' hSw
        obtain ⟨z0, z1, z2, z3, z4, _⟩ := hold5 hSw
        first | (go_simp; done) | (go_simp; with_reducible rfl)
      try simp only [Act.put, List.getElem_toArray, List.getElem_cons_succ, List.getElem_cons_zero, List.setIfInBounds_toArray, List.set_cons_zero, List.set_cons_succ]
      refine wpAnyH_ready (rs := [3]) (by kernel_rfl) (by simp) ?_
      refine (AllReadyH.cons (o := { dst := some 28, op := Go.Op.call { callee := Go.Callee.value (Go.Operand.func 9), args := #[Go.Operand.tmp 25, Go.Operand.tmp 26, Go.Operand.tmp 27], argTypes := #[22, 29, 3] }, type := 24, pos := "law.go:94", after := #[{ on := 0, ground := Go.Ground.data }, { on := 1, ground := Go.Ground.data }, { on := 2, ground := Go.Ground.data }], guard := none }) rfl (fun K hK => ?_) AllReadyH.nil)
      go_simp
      go_at_call 9
      refine (set_at (a := x.1) (b := x.2.1) (c := x.2.2.1) (d := x.2.2.2.1) (n := x.2.2.2.2) kt9.out hok ⟨hS1.out, hE.out⟩).mono ?_
      rintro e w2 ⟨rfl, k2, hK9⟩
      go_wp2_with (fail)
      refine hK.out _ _ ?_ (fun hHeld => ?_)
      · first | exact bk_below hB9 hHeld | exact bk_kept hK9 hHeld hnt
      clear hK K
      try simp only [Act.put, List.getElem_toArray, List.getElem_cons_succ, List.getElem_cons_zero, List.setIfInBounds_toArray, List.set_cons_zero, List.set_cons_succ]
      refine wpAnyH_take (i := 4) (oi := { dst := some 29, op := Go.Op.binOp Go.BinOp.eql 24 (Go.Operand.tmp 28) (Go.Operand.const (Go.Value.int Go.IntKind.i64 0)) 24, type := 4, pos := "law.go:94", after := #[{ on := 3, ground := Go.Ground.data }], guard := none }) (v := ?_) rfl (by kernel_rfl) (by kernel_rfl) (by kernel_rfl) (fun _ _ _ h => h) (Or.inl ⟨by rfl, ?_⟩) (by assumption) ?_
      rotate_left 1
      · intro w' hSw
        first | (go_simp; done) | (go_simp; with_reducible rfl)
      try simp only [Act.put, List.getElem_toArray, List.getElem_cons_succ, List.getElem_cons_zero, List.setIfInBounds_toArray, List.set_cons_zero, List.set_cons_succ]
      refine wpAnyH_ready (rs := [6]) (by kernel_rfl) (by simp) ?_
      refine (AllReadyH.cons (o := { dst := some 31, op := Go.Op.call { callee := Go.Callee.value (Go.Operand.func 12), args := #[Go.Operand.tmp 30], argTypes := #[29] }, type := 4, pos := "law.go:94", after := #[{ on := 5, ground := Go.Ground.data }, { on := 3, ground := Go.Ground.chain }], guard := none }) rfl (fun K hK => ?_) AllReadyH.nil)
      go_simp
      go_at_call 12
      refine (rright_any x.1 x.2.1 x.2.2.1 x.2.2.2.1 x.2.2.2.2 _ hok).mono ?_
      rw [show rightB x.1 x.2.1 x.2.2.1 x.2.2.2.1 x.2.2.2.2 = R from hR.out]
      rintro e w3 ⟨rfl, hB9⟩
      go_wp2_with (fail)
      refine hK.out _ _ ?_ (fun hHeld => ?_)
      · first | exact bk_below hB9 hHeld | exact bk_kept hK9 hHeld hnt
      clear hK K
      try simp only [Act.put, List.getElem_toArray, List.getElem_cons_succ, List.getElem_cons_zero, List.setIfInBounds_toArray, List.set_cons_zero, List.set_cons_succ]
      refine wpAnyH_take (i := 7) (oi := { dst := some 32, op := Go.Op.binOp Go.BinOp.neq 4 (Go.Operand.tmp 29) (Go.Operand.tmp 31) 4, type := 4, pos := "law.go:94", after := #[{ on := 4, ground := Go.Ground.data }, { on := 6, ground := Go.Ground.data }], guard := none }) (v := ?_) rfl (by kernel_rfl) (by kernel_rfl) (by kernel_rfl) (fun _ _ _ h => h) (Or.inl ⟨by rfl, ?_⟩) (by assumption) ?_
      rotate_left 1
      · intro w' hSw
        first | (go_simp; done) | (go_simp; with_reducible rfl)
      try simp only [Act.put, List.getElem_toArray, List.getElem_cons_succ, List.getElem_cons_zero, List.setIfInBounds_toArray, List.set_cons_zero, List.set_cons_succ]
      refine wpAnyH_done (by kernel_rfl) ?_ _
      refine NoPanic.normal ?_
      go_wp2
      refine ⟨⟨i + 1, by first | rfl | (congr 1; omega), by omega, k2.below hB9, ?_⟩, by simp [intOf]; omega⟩
      exact (hKa.out.trans hK9 (fun j _ e => e)).then_below hB9
    · have hil2 : decide ((i : Int) < ns.length) = false := decide_eq_false (by omega)
      obtain rfl : i = ns.length := by omega
      obtain ⟨y0, y1, y2, y3, _⟩ := hold4 hbxr.out
      replace kt := Lib.hid kt
      replace hBw := Lib.hid hBw
      clear hK
      cases hfind : findL (setsL ns ns.length) p q r s with
      | none =>
        replace hfind := Lib.hid hfind
        go_wp2_with (go_at_call 13; (with_reducible refine (find_no kt.out hp hfind.out).mono ?_); rintro e w4 ⟨rfl, hB4⟩)
        have hbx4 := bk_drew (bk_alloc (bk_below hB4 hbxr.out) (.cells #[.int .u8 0, .int .u8 0, .int .u8 0, .int .u8 0, .int .i64 0, .int .i64 0] 35))
        have hB4' := bl_drew (bl_alloc (bl_then hBw.out hB4) (.cells #[.int .u8 0, .int .u8 0, .int .u8 0, .int .u8 0, .int .i64 0, .int .i64 0] 35))
        clear y0 y1 y2 y3 hB4
        refine wp_region_noPanic ?_
        refine wp_region_held_drew (S := fun _ => True) (by kernel_rfl) (trivial) (fun hHeld => ?_)
        refine wpAnyH_take (i := 0) (oi := { dst := some 40, op := Go.Op.move (Go.Operand.tmp 9), type := 4, pos := "law.go:99", after := #[], guard := none }) (v := ?_) rfl (by kernel_rfl) (by kernel_rfl) (by kernel_rfl) (fun _ _ _ h => h) (Or.inl ⟨by rfl, ?_⟩) (by assumption) ?_
        rotate_left 1
        · intro w' hSw
          first | (go_simp; done) | (go_simp; with_reducible rfl)
        try simp only [Act.put, List.getElem_toArray, List.getElem_cons_succ, List.getElem_cons_zero, List.setIfInBounds_toArray, List.set_cons_zero, List.set_cons_succ]
        refine wpAnyH_take (i := 1) (oi := { dst := some 41, op := Go.Op.move (Go.Operand.tmp 40), type := 4, pos := "law.go:99", after := #[{ on := 0, ground := Go.Ground.data }], guard := none }) (v := ?_) rfl (by kernel_rfl) (by kernel_rfl) (by kernel_rfl) (fun _ _ _ h => h) (Or.inl ⟨by rfl, ?_⟩) (by assumption) ?_
        rotate_left 1
        · intro w' hSw
          first | (go_simp; done) | (go_simp; with_reducible rfl)
        try simp only [Act.put, List.getElem_toArray, List.getElem_cons_succ, List.getElem_cons_zero, List.setIfInBounds_toArray, List.set_cons_zero, List.set_cons_succ]
        refine wpAnyH_take (i := 2) (oi := { dst := some 42, op := Go.Op.fieldAddr 35 (Go.Operand.tmp 8) 1, type := 0, pos := "law.go:99", after := #[{ on := 1, ground := Go.Ground.guard }], guard := some (1, true) }) (v := undef) rfl (by kernel_rfl) (by kernel_rfl) (by kernel_rfl) (fun _ _ _ h => h) (Or.inr ⟨by rfl, rfl⟩) (by assumption) ?_
        try simp only [Act.put, List.getElem_toArray, List.getElem_cons_succ, List.getElem_cons_zero, List.setIfInBounds_toArray, List.set_cons_zero, List.set_cons_succ]
        refine wpAnyH_take (i := 3) (oi := { dst := some 43, op := Go.Op.load 3 (Go.Operand.tmp 42), type := 3, pos := "law.go:99", after := #[{ on := 2, ground := Go.Ground.data }, { on := 1, ground := Go.Ground.guard }], guard := some (1, true) }) (v := undef) rfl (by kernel_rfl) (by kernel_rfl) (by kernel_rfl) (fun _ _ _ h => h) (Or.inr ⟨by rfl, rfl⟩) (by assumption) ?_
        try simp only [Act.put, List.getElem_toArray, List.getElem_cons_succ, List.getElem_cons_zero, List.setIfInBounds_toArray, List.set_cons_zero, List.set_cons_succ]
        refine wpAnyH_take (i := 4) (oi := { dst := some 44, op := Go.Op.binOp Go.BinOp.lss 3 (Go.Operand.tmp 43) (Go.Operand.const (Go.Value.int Go.IntKind.i64 0)) 3, type := 4, pos := "law.go:99", after := #[{ on := 3, ground := Go.Ground.data }, { on := 1, ground := Go.Ground.guard }], guard := some (1, true) }) (v := undef) rfl (by kernel_rfl) (by kernel_rfl) (by kernel_rfl) (fun _ _ _ h => h) (Or.inr ⟨by rfl, rfl⟩) (by assumption) ?_
        try simp only [Act.put, List.getElem_toArray, List.getElem_cons_succ, List.getElem_cons_zero, List.setIfInBounds_toArray, List.set_cons_zero, List.set_cons_succ]
        refine wpAnyH_take (i := 5) (oi := { dst := some 45, op := Go.Op.move (Go.Operand.tmp 44), type := 4, pos := "law.go:99", after := #[{ on := 4, ground := Go.Ground.data }, { on := 1, ground := Go.Ground.chain }, { on := 1, ground := Go.Ground.guard }], guard := some (1, true) }) (v := undef) rfl (by kernel_rfl) (by kernel_rfl) (by kernel_rfl) (fun _ _ _ h => h) (Or.inr ⟨by rfl, rfl⟩) (by assumption) ?_
        try simp only [Act.put, List.getElem_toArray, List.getElem_cons_succ, List.getElem_cons_zero, List.setIfInBounds_toArray, List.set_cons_zero, List.set_cons_succ]
        refine wpAnyH_take (i := 6) (oi := { dst := some 46, op := Go.Op.fieldAddr 35 (Go.Operand.tmp 8) 1, type := 0, pos := "law.go:99", after := #[{ on := 5, ground := Go.Ground.guard }], guard := some (5, false) }) (v := undef) rfl (by kernel_rfl) (by kernel_rfl) (by kernel_rfl) (fun _ _ _ h => h) (Or.inr ⟨by rfl, rfl⟩) (by assumption) ?_
        try simp only [Act.put, List.getElem_toArray, List.getElem_cons_succ, List.getElem_cons_zero, List.setIfInBounds_toArray, List.set_cons_zero, List.set_cons_succ]
        refine wpAnyH_take (i := 7) (oi := { dst := some 47, op := Go.Op.load 3 (Go.Operand.tmp 46), type := 3, pos := "law.go:99", after := #[{ on := 6, ground := Go.Ground.data }, { on := 5, ground := Go.Ground.guard }], guard := some (5, false) }) (v := undef) rfl (by kernel_rfl) (by kernel_rfl) (by kernel_rfl) (fun _ _ _ h => h) (Or.inr ⟨by rfl, rfl⟩) (by assumption) ?_
        try simp only [Act.put, List.getElem_toArray, List.getElem_cons_succ, List.getElem_cons_zero, List.setIfInBounds_toArray, List.set_cons_zero, List.set_cons_succ]
        refine wpAnyH_take (i := 8) (oi := { dst := some 48, op := Go.Op.move (Go.Operand.tmp 0), type := 32, pos := "law.go:99", after := #[{ on := 5, ground := Go.Ground.guard }], guard := some (5, false) }) (v := undef) rfl (by kernel_rfl) (by kernel_rfl) (by kernel_rfl) (fun _ _ _ h => h) (Or.inr ⟨by rfl, rfl⟩) (by assumption) ?_
        try simp only [Act.put, List.getElem_toArray, List.getElem_cons_succ, List.getElem_cons_zero, List.setIfInBounds_toArray, List.set_cons_zero, List.set_cons_succ]
        refine wpAnyH_take (i := 9) (oi := { dst := some 49, op := Go.Op.call { callee := Go.Callee.builtin Go.Builtin.len, args := #[Go.Operand.tmp 48], argTypes := #[32] }, type := 3, pos := "law.go:99", after := #[{ on := 8, ground := Go.Ground.data }, { on := 5, ground := Go.Ground.guard }], guard := some (5, false) }) (v := undef) rfl (by kernel_rfl) (by kernel_rfl) (by kernel_rfl) (fun _ _ _ h => h) (Or.inr ⟨by rfl, rfl⟩) (by assumption) ?_
        try simp only [Act.put, List.getElem_toArray, List.getElem_cons_succ, List.getElem_cons_zero, List.setIfInBounds_toArray, List.set_cons_zero, List.set_cons_succ]
        refine wpAnyH_take (i := 10) (oi := { dst := some 50, op := Go.Op.binOp Go.BinOp.geq 3 (Go.Operand.tmp 47) (Go.Operand.tmp 49) 3, type := 4, pos := "law.go:99", after := #[{ on := 7, ground := Go.Ground.data }, { on := 9, ground := Go.Ground.data }, { on := 5, ground := Go.Ground.guard }], guard := some (5, false) }) (v := undef) rfl (by kernel_rfl) (by kernel_rfl) (by kernel_rfl) (fun _ _ _ h => h) (Or.inr ⟨by rfl, rfl⟩) (by assumption) ?_
        try simp only [Act.put, List.getElem_toArray, List.getElem_cons_succ, List.getElem_cons_zero, List.setIfInBounds_toArray, List.set_cons_zero, List.set_cons_succ]
        refine wpAnyH_take (i := 11) (oi := { dst := some 51, op := Go.Op.pick (Go.Operand.tmp 45) (Go.Operand.const (Go.Value.bool true)) (Go.Operand.tmp 50), type := 4, pos := "law.go:99", after := #[{ on := 5, ground := Go.Ground.data }, { on := 10, ground := Go.Ground.data }, { on := 1, ground := Go.Ground.guard }], guard := some (1, true) }) (v := undef) rfl (by kernel_rfl) (by kernel_rfl) (by kernel_rfl) (fun _ _ _ h => h) (Or.inr ⟨by rfl, rfl⟩) (by assumption) ?_
        try simp only [Act.put, List.getElem_toArray, List.getElem_cons_succ, List.getElem_cons_zero, List.setIfInBounds_toArray, List.set_cons_zero, List.set_cons_succ]
        refine wpAnyH_take (i := 12) (oi := { dst := some 52, op := Go.Op.move (Go.Operand.tmp 51), type := 4, pos := "law.go:99", after := #[{ on := 11, ground := Go.Ground.data }, { on := 5, ground := Go.Ground.chain }, { on := 1, ground := Go.Ground.guard }], guard := some (1, true) }) (v := undef) rfl (by kernel_rfl) (by kernel_rfl) (by kernel_rfl) (fun _ _ _ h => h) (Or.inr ⟨by rfl, rfl⟩) (by assumption) ?_
        try simp only [Act.put, List.getElem_toArray, List.getElem_cons_succ, List.getElem_cons_zero, List.setIfInBounds_toArray, List.set_cons_zero, List.set_cons_succ]
        refine wpAnyH_take (i := 13) (oi := { dst := some 53, op := Go.Op.move (Go.Operand.tmp 0), type := 32, pos := "law.go:99", after := #[{ on := 12, ground := Go.Ground.guard }], guard := some (12, false) }) (v := undef) rfl (by kernel_rfl) (by kernel_rfl) (by kernel_rfl) (fun _ _ _ h => h) (Or.inr ⟨by rfl, rfl⟩) (by assumption) ?_
        try simp only [Act.put, List.getElem_toArray, List.getElem_cons_succ, List.getElem_cons_zero, List.setIfInBounds_toArray, List.set_cons_zero, List.set_cons_succ]
        refine wpAnyH_take (i := 14) (oi := { dst := some 54, op := Go.Op.fieldAddr 35 (Go.Operand.tmp 8) 1, type := 0, pos := "law.go:99", after := #[{ on := 12, ground := Go.Ground.guard }], guard := some (12, false) }) (v := undef) rfl (by kernel_rfl) (by kernel_rfl) (by kernel_rfl) (fun _ _ _ h => h) (Or.inr ⟨by rfl, rfl⟩) (by assumption) ?_
        try simp only [Act.put, List.getElem_toArray, List.getElem_cons_succ, List.getElem_cons_zero, List.setIfInBounds_toArray, List.set_cons_zero, List.set_cons_succ]
        refine wpAnyH_take (i := 15) (oi := { dst := some 55, op := Go.Op.load 3 (Go.Operand.tmp 54), type := 3, pos := "law.go:99", after := #[{ on := 14, ground := Go.Ground.data }, { on := 12, ground := Go.Ground.guard }], guard := some (12, false) }) (v := undef) rfl (by kernel_rfl) (by kernel_rfl) (by kernel_rfl) (fun _ _ _ h => h) (Or.inr ⟨by rfl, rfl⟩) (by assumption) ?_
        try simp only [Act.put, List.getElem_toArray, List.getElem_cons_succ, List.getElem_cons_zero, List.setIfInBounds_toArray, List.set_cons_zero, List.set_cons_succ]
        refine wpAnyH_take (i := 16) (oi := { dst := some 56, op := Go.Op.indexAddr 32 (Go.Operand.tmp 53) (Go.Operand.tmp 55), type := 0, pos := "law.go:99", after := #[{ on := 13, ground := Go.Ground.data }, { on := 15, ground := Go.Ground.data }, { on := 12, ground := Go.Ground.guard }], guard := some (12, false) }) (v := undef) rfl (by kernel_rfl) (by kernel_rfl) (by kernel_rfl) (fun _ _ _ h => h) (Or.inr ⟨by rfl, rfl⟩) (by assumption) ?_
        try simp only [Act.put, List.getElem_toArray, List.getElem_cons_succ, List.getElem_cons_zero, List.setIfInBounds_toArray, List.set_cons_zero, List.set_cons_succ]
        refine wpAnyH_take (i := 17) (oi := { dst := some 57, op := Go.Op.load 29 (Go.Operand.tmp 56), type := 29, pos := "law.go:99", after := #[{ on := 16, ground := Go.Ground.data }, { on := 12, ground := Go.Ground.guard }], guard := some (12, false) }) (v := undef) rfl (by kernel_rfl) (by kernel_rfl) (by kernel_rfl) (fun _ _ _ h => h) (Or.inr ⟨by rfl, rfl⟩) (by assumption) ?_
        try simp only [Act.put, List.getElem_toArray, List.getElem_cons_succ, List.getElem_cons_zero, List.setIfInBounds_toArray, List.set_cons_zero, List.set_cons_succ]
        refine wpAnyH_take (i := 18) (oi := { dst := some 58, op := Go.Op.fieldAddr 35 (Go.Operand.tmp 8) 0, type := 0, pos := "law.go:99", after := #[{ on := 12, ground := Go.Ground.guard }], guard := some (12, false) }) (v := undef) rfl (by kernel_rfl) (by kernel_rfl) (by kernel_rfl) (fun _ _ _ h => h) (Or.inr ⟨by rfl, rfl⟩) (by assumption) ?_
        try simp only [Act.put, List.getElem_toArray, List.getElem_cons_succ, List.getElem_cons_zero, List.setIfInBounds_toArray, List.set_cons_zero, List.set_cons_succ]
        refine wpAnyH_take (i := 19) (oi := { dst := some 59, op := Go.Op.load 29 (Go.Operand.tmp 58), type := 29, pos := "law.go:99", after := #[{ on := 18, ground := Go.Ground.data }, { on := 12, ground := Go.Ground.guard }], guard := some (12, false) }) (v := undef) rfl (by kernel_rfl) (by kernel_rfl) (by kernel_rfl) (fun _ _ _ h => h) (Or.inr ⟨by rfl, rfl⟩) (by assumption) ?_
        try simp only [Act.put, List.getElem_toArray, List.getElem_cons_succ, List.getElem_cons_zero, List.setIfInBounds_toArray, List.set_cons_zero, List.set_cons_succ]
        refine wpAnyH_take (i := 20) (oi := { dst := some 60, op := Go.Op.binOp Go.BinOp.neq 29 (Go.Operand.tmp 57) (Go.Operand.tmp 59) 29, type := 4, pos := "law.go:99", after := #[{ on := 17, ground := Go.Ground.data }, { on := 19, ground := Go.Ground.data }, { on := 12, ground := Go.Ground.guard }], guard := some (12, false) }) (v := undef) rfl (by kernel_rfl) (by kernel_rfl) (by kernel_rfl) (fun _ _ _ h => h) (Or.inr ⟨by rfl, rfl⟩) (by assumption) ?_
        try simp only [Act.put, List.getElem_toArray, List.getElem_cons_succ, List.getElem_cons_zero, List.setIfInBounds_toArray, List.set_cons_zero, List.set_cons_succ]
        refine wpAnyH_take (i := 21) (oi := { dst := some 61, op := Go.Op.pick (Go.Operand.tmp 52) (Go.Operand.const (Go.Value.bool true)) (Go.Operand.tmp 60), type := 4, pos := "law.go:99", after := #[{ on := 12, ground := Go.Ground.data }, { on := 20, ground := Go.Ground.data }, { on := 1, ground := Go.Ground.guard }], guard := some (1, true) }) (v := undef) rfl (by kernel_rfl) (by kernel_rfl) (by kernel_rfl) (fun _ _ _ h => h) (Or.inr ⟨by rfl, rfl⟩) (by assumption) ?_
        try simp only [Act.put, List.getElem_toArray, List.getElem_cons_succ, List.getElem_cons_zero, List.setIfInBounds_toArray, List.set_cons_zero, List.set_cons_succ]
        refine wpAnyH_take (i := 22) (oi := { dst := some 62, op := Go.Op.move (Go.Operand.tmp 61), type := 4, pos := "law.go:99", after := #[{ on := 21, ground := Go.Ground.data }, { on := 12, ground := Go.Ground.chain }, { on := 1, ground := Go.Ground.guard }], guard := some (1, true) }) (v := undef) rfl (by kernel_rfl) (by kernel_rfl) (by kernel_rfl) (fun _ _ _ h => h) (Or.inr ⟨by rfl, rfl⟩) (by assumption) ?_
        try simp only [Act.put, List.getElem_toArray, List.getElem_cons_succ, List.getElem_cons_zero, List.setIfInBounds_toArray, List.set_cons_zero, List.set_cons_succ]
        refine wpAnyH_take (i := 23) (oi := { dst := some 63, op := Go.Op.load 27 (Go.Operand.tmp 3), type := 27, pos := "law.go:99", after := #[{ on := 22, ground := Go.Ground.guard }], guard := some (22, false) }) (v := undef) rfl (by kernel_rfl) (by kernel_rfl) (by kernel_rfl) (fun _ _ _ h => h) (Or.inr ⟨by rfl, rfl⟩) (by assumption) ?_
        try simp only [Act.put, List.getElem_toArray, List.getElem_cons_succ, List.getElem_cons_zero, List.setIfInBounds_toArray, List.set_cons_zero, List.set_cons_succ]
        refine wpAnyH_take (i := 24) (oi := { dst := some 64, op := Go.Op.fieldAddr 35 (Go.Operand.tmp 8) 0, type := 0, pos := "law.go:99", after := #[{ on := 22, ground := Go.Ground.guard }], guard := some (22, false) }) (v := undef) rfl (by kernel_rfl) (by kernel_rfl) (by kernel_rfl) (fun _ _ _ h => h) (Or.inr ⟨by rfl, rfl⟩) (by assumption) ?_
        try simp only [Act.put, List.getElem_toArray, List.getElem_cons_succ, List.getElem_cons_zero, List.setIfInBounds_toArray, List.set_cons_zero, List.set_cons_succ]
        refine wpAnyH_take (i := 25) (oi := { dst := some 65, op := Go.Op.load 29 (Go.Operand.tmp 64), type := 29, pos := "law.go:99", after := #[{ on := 24, ground := Go.Ground.data }, { on := 22, ground := Go.Ground.guard }], guard := some (22, false) }) (v := undef) rfl (by kernel_rfl) (by kernel_rfl) (by kernel_rfl) (fun _ _ _ h => h) (Or.inr ⟨by rfl, rfl⟩) (by assumption) ?_
        try simp only [Act.put, List.getElem_toArray, List.getElem_cons_succ, List.getElem_cons_zero, List.setIfInBounds_toArray, List.set_cons_zero, List.set_cons_succ]
        refine wpAnyH_take (i := 26) (oi := { dst := some 66, op := Go.Op.call { callee := Go.Callee.value (Go.Operand.func 14), args := #[Go.Operand.tmp 63, Go.Operand.tmp 65], argTypes := #[27, 29] }, type := 4, pos := "law.go:99", after := #[{ on := 23, ground := Go.Ground.data }, { on := 25, ground := Go.Ground.data }, { on := 22, ground := Go.Ground.chain }, { on := 22, ground := Go.Ground.guard }], guard := some (22, false) }) (v := undef) rfl (by kernel_rfl) (by kernel_rfl) (by kernel_rfl) (fun _ _ _ h => h) (Or.inr ⟨by rfl, rfl⟩) (by assumption) ?_
        try simp only [Act.put, List.getElem_toArray, List.getElem_cons_succ, List.getElem_cons_zero, List.setIfInBounds_toArray, List.set_cons_zero, List.set_cons_succ]
        refine wpAnyH_take (i := 27) (oi := { dst := some 67, op := Go.Op.unOp Go.UnOp.not 4 (Go.Operand.tmp 66), type := 4, pos := "law.go:99", after := #[{ on := 26, ground := Go.Ground.data }, { on := 22, ground := Go.Ground.guard }], guard := some (22, false) }) (v := undef) rfl (by kernel_rfl) (by kernel_rfl) (by kernel_rfl) (fun _ _ _ h => h) (Or.inr ⟨by rfl, rfl⟩) (by assumption) ?_
        try simp only [Act.put, List.getElem_toArray, List.getElem_cons_succ, List.getElem_cons_zero, List.setIfInBounds_toArray, List.set_cons_zero, List.set_cons_succ]
        refine wpAnyH_take (i := 28) (oi := { dst := some 68, op := Go.Op.pick (Go.Operand.tmp 62) (Go.Operand.const (Go.Value.bool true)) (Go.Operand.tmp 67), type := 4, pos := "law.go:99", after := #[{ on := 22, ground := Go.Ground.data }, { on := 27, ground := Go.Ground.data }, { on := 1, ground := Go.Ground.guard }], guard := some (1, true) }) (v := undef) rfl (by kernel_rfl) (by kernel_rfl) (by kernel_rfl) (fun _ _ _ h => h) (Or.inr ⟨by rfl, rfl⟩) (by assumption) ?_
        try simp only [Act.put, List.getElem_toArray, List.getElem_cons_succ, List.getElem_cons_zero, List.setIfInBounds_toArray, List.set_cons_zero, List.set_cons_succ]
        refine wpAnyH_take (i := 29) (oi := { dst := some 69, op := Go.Op.pick (Go.Operand.tmp 41) (Go.Operand.tmp 68) (Go.Operand.const (Go.Value.bool false)), type := 4, pos := "law.go:99", after := #[{ on := 1, ground := Go.Ground.data }, { on := 28, ground := Go.Ground.data }], guard := none }) (v := ?_) rfl (by kernel_rfl) (by kernel_rfl) (by kernel_rfl) (fun _ _ _ h => h) (Or.inl ⟨by rfl, ?_⟩) (by assumption) ?_
        rotate_left 1
        · intro w' hSw
          first | (go_simp; done) | (go_simp; with_reducible rfl)
        try simp only [Act.put, List.getElem_toArray, List.getElem_cons_succ, List.getElem_cons_zero, List.setIfInBounds_toArray, List.set_cons_zero, List.set_cons_succ]
        refine wpAnyH_done (by kernel_rfl) ?_ _
        refine NoPanic.normal ?_
        generalize (w4.alloc (.cells #[.int .u8 0, .int .u8 0, .int .u8 0, .int .u8 0, .int .i64 0, .int .i64 0] 35)).drew = W5 at *
        replace hbx4 := Lib.hid hbx4
        replace hB4' := Lib.hid hB4'
        clear hHeld
        go_wp2
        go_loopw [72] (fun v wr => ∃ i : Nat, v = .int .i64 i ∧ i ≤ ns.length ∧ Below W5.heap.size W5 wr) (fun v _ => ns.length - (intOf v).toNat)
        case atStart => exact ⟨0, rfl, Nat.zero_le _, Below.refl _ _⟩
        case round =>
          obtain ⟨i, rfl, hi, hBl⟩ := hrel
          have hBw2 := bl_then hB4'.out hBl
          have hbx5 := bk_below hBl hbx4.out
          by_cases hil : i < ns.length
          · have hil2 : decide ((i : Int) < ns.length) = true := decide_eq_true (by omega)
            obtain ⟨hok, ad, rfl, hrow⟩ := hns.out i hil
            have hin : inT p q r s (ns.getD i zeroN) = false := by
              cases h0 : inT p q r s (ns.getD i zeroN) with
              | false => rfl
              | true =>
                obtain ⟨x, v, h1, _⟩ := longest_best hl64 hil h0
                rw [hfind.out] at h1
                cases h1
            obtain ⟨x, hx⟩ : ∃ x, ns.getD i zeroN = x := ⟨_, rfl⟩
            rw [hx] at hok hrow hin
            replace hx := Lib.hid hx
            replace hin := Lib.hid hin
            obtain ⟨c0, c1, c2, c3, c4⟩ := nt_cellsAt (hrow.far hBw2)
            obtain ⟨y0, y1, y2, y3, _⟩ := hold4 (bk_alloc hbx5 (.cells #[.int .u8 x.1, .int .u8 x.2.1, .int .u8 x.2.2.1, .int .u8 x.2.2.2.1, .int .i64 x.2.2.2.2] 29))
            have hBn := bl_alloc hBl (.cells #[.int .u8 x.1, .int .u8 x.2.1, .int .u8 x.2.2.1, .int .u8 x.2.2.2.1, .int .i64 x.2.2.2.2] 29)
            replace hBn := Lib.hid hBn
            go_wp2_with (go_at_call 14; (with_reducible refine (rin_any p q r s x.1 x.2.1 x.2.2.1 x.2.2.2.1 x.2.2.2.2 _ hp hok).mono ?_); rw [show inB p q r s x.1 x.2.1 x.2.2.1 x.2.2.2.1 x.2.2.2.2 = false from hin.out]; rintro e w6 ⟨rfl, hB6⟩)
            exact ⟨⟨i + 1, by first | rfl | (congr 1; omega), by omega, bl_then hBn.out hB6⟩, by simp [intOf]; omega⟩
          · have hil2 : decide ((i : Int) < ns.length) = false := decide_eq_false (by omega)
            go_wp2
            go_ret
            exact ⟨rfl, hBw2⟩
      | some y =>
        obtain ⟨⟨xa, xb, xc, xd, xn⟩, v⟩ := y
        obtain ⟨j, rfl, hj, hjx, hin⟩ := longest_found hl64 hfind
        replace hfind := Lib.hid hfind
        have hokj := (hns.out j hj).1
        rw [hjx] at hokj
        dsimp only at hokj
        go_wp2_with (go_at_call 13; (with_reducible refine (find_at kt.out hp hfind.out).mono ?_); rintro e w4 ⟨rfl, hB4⟩)
        have hbx4 := bk_alloc (bk_below hB4 hbxr.out) (.cells #[.int .u8 xa, .int .u8 xb, .int .u8 xc, .int .u8 xd, .int .i64 xn, .int .i64 (j : Int)] 35)
        have hrb := bk_new w4 #[.int .u8 xa, .int .u8 xb, .int .u8 xc, .int .u8 xd, .int .i64 xn, .int .i64 (j : Int)] 35
        have hB4' := bl_alloc (bl_then hBw.out hB4) (.cells #[.int .u8 xa, .int .u8 xb, .int .u8 xc, .int .u8 xd, .int .i64 xn, .int .i64 (j : Int)] 35)
        clear y0 y1 y2 y3 hB4
        generalize w4.alloc (.cells #[.int .u8 xa, .int .u8 xb, .int .u8 xc, .int .u8 xd, .int .i64 xn, .int .i64 (j : Int)] 35) = W5 at *
        generalize w4.heap.size = gr at *
        replace hbx4 := Lib.hid hbx4
        replace hrb := Lib.hid hrb
        replace hB4' := Lib.hid hB4'
        obtain ⟨_, adj, rfl, hrowj⟩ := hns.out j hj
        rw [hjx] at hrowj
        have hrowj2 := hrowj.far (bl_drew hB4'.out)
        have hj1 : (j : Int) < (ns.length : Int) := by omega
        have hj2 : decide ((j : Int) < 0) = false := decide_eq_false (by omega)
        have hj3 : decide ((ns.length : Int) ≤ (j : Int)) = false := decide_eq_false (by omega)
        have hj4 : decide (ns.length ≤ j) = false := decide_eq_false (by omega)
        have heqr : eqN (xa, xb, xc, xd, xn) (xa, xb, xc, xd, xn) = true := eqN_iff.2 rfl
        have hinB : inB p q r s xa xb xc xd xn = true := hin
        replace hrowj := Lib.hid hrowj
        replace hrowj2 := Lib.hid hrowj2
        replace hin := Lib.hid hin
        replace hinB := Lib.hid hinB
        replace hjx := Lib.hid hjx
        refine wp_region_noPanic ?_
        refine wp_region_held_drew (S := fun w' => Bk w' gr #[.int .u8 xa, .int .u8 xb, .int .u8 xc, .int .u8 xd, .int .i64 xn, .int .i64 (j : Int)] 35 ∧ Bk w' w.heap.size #[.int .u8 p, .int .u8 q, .int .u8 r, .int .u8 s] 27 ∧ RowAt w' (adj.add (j * 5)) (ntRow (xa, xb, xc, xd, xn))) (by kernel_rfl) (⟨bk_drew hrb.out, bk_drew hbx4.out, hrowj2.out⟩) (fun hHeld => ?_)
        refine wpAnyH_take (i := 0) (oi := { dst := some 40, op := Go.Op.move (Go.Operand.tmp 9), type := 4, pos := "law.go:99", after := #[], guard := none }) (v := ?_) rfl (by kernel_rfl) (by kernel_rfl) (by kernel_rfl) (fun _ _ _ h => h) (Or.inl ⟨by rfl, ?_⟩) (by assumption) ?_
        rotate_left 1
        · intro w' hSw
          first | (go_simp; done) | (go_simp; with_reducible rfl)
        try simp only [Act.put, List.getElem_toArray, List.getElem_cons_succ, List.getElem_cons_zero, List.setIfInBounds_toArray, List.set_cons_zero, List.set_cons_succ]
        refine wpAnyH_take (i := 1) (oi := { dst := some 41, op := Go.Op.move (Go.Operand.tmp 40), type := 4, pos := "law.go:99", after := #[{ on := 0, ground := Go.Ground.data }], guard := none }) (v := ?_) rfl (by kernel_rfl) (by kernel_rfl) (by kernel_rfl) (fun _ _ _ h => h) (Or.inl ⟨by rfl, ?_⟩) (by assumption) ?_
        rotate_left 1
        · intro w' hSw
          first | (go_simp; done) | (go_simp; with_reducible rfl)
        try simp only [Act.put, List.getElem_toArray, List.getElem_cons_succ, List.getElem_cons_zero, List.setIfInBounds_toArray, List.set_cons_zero, List.set_cons_succ]
        refine wpAnyH_take (i := 2) (oi := { dst := some 42, op := Go.Op.fieldAddr 35 (Go.Operand.tmp 8) 1, type := 0, pos := "law.go:99", after := #[{ on := 1, ground := Go.Ground.guard }], guard := some (1, true) }) (v := ?_) rfl (by kernel_rfl) (by kernel_rfl) (by kernel_rfl) (fun _ _ _ h => h) (Or.inl ⟨by rfl, ?_⟩) (by assumption) ?_
        rotate_left 1
        · intro w' hSw
          first | (go_simp; done) | (go_simp; with_reducible rfl)
        try simp only [Act.put, List.getElem_toArray, List.getElem_cons_succ, List.getElem_cons_zero, List.setIfInBounds_toArray, List.set_cons_zero, List.set_cons_succ]
        refine wpAnyH_take (i := 3) (oi := { dst := some 43, op := Go.Op.load 3 (Go.Operand.tmp 42), type := 3, pos := "law.go:99", after := #[{ on := 2, ground := Go.Ground.data }, { on := 1, ground := Go.Ground.guard }], guard := some (1, true) }) (v := ?_) rfl (by kernel_rfl) (by kernel_rfl) (by kernel_rfl) (fun _ _ _ h => h) (Or.inl ⟨by rfl, ?_⟩) (by assumption) ?_
        rotate_left 1
        · intro w' hSw
          obtain ⟨z0, z1, z2, z3, z4, z5, _⟩ := hold6 hSw.1
          first | (go_simp; done) | (go_simp; with_reducible rfl)
        try simp only [Act.put, List.getElem_toArray, List.getElem_cons_succ, List.getElem_cons_zero, List.setIfInBounds_toArray, List.set_cons_zero, List.set_cons_succ]
        refine wpAnyH_take (i := 4) (oi := { dst := some 44, op := Go.Op.binOp Go.BinOp.lss 3 (Go.Operand.tmp 43) (Go.Operand.const (Go.Value.int Go.IntKind.i64 0)) 3, type := 4, pos := "law.go:99", after := #[{ on := 3, ground := Go.Ground.data }, { on := 1, ground := Go.Ground.guard }], guard := some (1, true) }) (v := ?_) rfl (by kernel_rfl) (by kernel_rfl) (by kernel_rfl) (fun _ _ _ h => h) (Or.inl ⟨by rfl, ?_⟩) (by assumption) ?_
        rotate_left 1
        · intro w' hSw
          first | (go_simp; done) | (go_simp; with_reducible rfl)
        try simp only [Act.put, List.getElem_toArray, List.getElem_cons_succ, List.getElem_cons_zero, List.setIfInBounds_toArray, List.set_cons_zero, List.set_cons_succ]
        refine wpAnyH_take (i := 5) (oi := { dst := some 45, op := Go.Op.move (Go.Operand.tmp 44), type := 4, pos := "law.go:99", after := #[{ on := 4, ground := Go.Ground.data }, { on := 1, ground := Go.Ground.chain }, { on := 1, ground := Go.Ground.guard }], guard := some (1, true) }) (v := ?_) rfl (by kernel_rfl) (by kernel_rfl) (by kernel_rfl) (fun _ _ _ h => h) (Or.inl ⟨by rfl, ?_⟩) (by assumption) ?_
        rotate_left 1
        · intro w' hSw
          first | (go_simp; done) | (go_simp; with_reducible rfl)
        try simp only [Act.put, List.getElem_toArray, List.getElem_cons_succ, List.getElem_cons_zero, List.setIfInBounds_toArray, List.set_cons_zero, List.set_cons_succ]
        refine wpAnyH_take (i := 6) (oi := { dst := some 46, op := Go.Op.fieldAddr 35 (Go.Operand.tmp 8) 1, type := 0, pos := "law.go:99", after := #[{ on := 5, ground := Go.Ground.guard }], guard := some (5, false) }) (v := ?_) rfl (by kernel_rfl) (by kernel_rfl) (by kernel_rfl) (fun _ _ _ h => h) (Or.inl ⟨by rfl, ?_⟩) (by assumption) ?_
        rotate_left 1
        · intro w' hSw
          first | (go_simp; done) | (go_simp; with_reducible rfl)
        try simp only [Act.put, List.getElem_toArray, List.getElem_cons_succ, List.getElem_cons_zero, List.setIfInBounds_toArray, List.set_cons_zero, List.set_cons_succ]
        refine wpAnyH_take (i := 7) (oi := { dst := some 47, op := Go.Op.load 3 (Go.Operand.tmp 46), type := 3, pos := "law.go:99", after := #[{ on := 6, ground := Go.Ground.data }, { on := 5, ground := Go.Ground.guard }], guard := some (5, false) }) (v := ?_) rfl (by kernel_rfl) (by kernel_rfl) (by kernel_rfl) (fun _ _ _ h => h) (Or.inl ⟨by rfl, ?_⟩) (by assumption) ?_
        rotate_left 1
        · intro w' hSw
          obtain ⟨z0, z1, z2, z3, z4, z5, _⟩ := hold6 hSw.1
          first | (go_simp; done) | (go_simp; with_reducible rfl)
        try simp only [Act.put, List.getElem_toArray, List.getElem_cons_succ, List.getElem_cons_zero, List.setIfInBounds_toArray, List.set_cons_zero, List.set_cons_succ]
        refine wpAnyH_take (i := 8) (oi := { dst := some 48, op := Go.Op.move (Go.Operand.tmp 0), type := 32, pos := "law.go:99", after := #[{ on := 5, ground := Go.Ground.guard }], guard := some (5, false) }) (v := ?_) rfl (by kernel_rfl) (by kernel_rfl) (by kernel_rfl) (fun _ _ _ h => h) (Or.inl ⟨by rfl, ?_⟩) (by assumption) ?_
        rotate_left 1
        · intro w' hSw
          first | (go_simp; done) | (go_simp; with_reducible rfl)
        try simp only [Act.put, List.getElem_toArray, List.getElem_cons_succ, List.getElem_cons_zero, List.setIfInBounds_toArray, List.set_cons_zero, List.set_cons_succ]
        refine wpAnyH_take (i := 9) (oi := { dst := some 49, op := Go.Op.call { callee := Go.Callee.builtin Go.Builtin.len, args := #[Go.Operand.tmp 48], argTypes := #[32] }, type := 3, pos := "law.go:99", after := #[{ on := 8, ground := Go.Ground.data }, { on := 5, ground := Go.Ground.guard }], guard := some (5, false) }) (v := ?_) rfl (by kernel_rfl) (by kernel_rfl) (by kernel_rfl) (fun _ _ _ h => h) (Or.inl ⟨by rfl, ?_⟩) (by assumption) ?_
        rotate_left 1
        · intro w' hSw
          first | (go_simp; done) | (go_simp; with_reducible rfl)
        try simp only [Act.put, List.getElem_toArray, List.getElem_cons_succ, List.getElem_cons_zero, List.setIfInBounds_toArray, List.set_cons_zero, List.set_cons_succ]
        refine wpAnyH_take (i := 10) (oi := { dst := some 50, op := Go.Op.binOp Go.BinOp.geq 3 (Go.Operand.tmp 47) (Go.Operand.tmp 49) 3, type := 4, pos := "law.go:99", after := #[{ on := 7, ground := Go.Ground.data }, { on := 9, ground := Go.Ground.data }, { on := 5, ground := Go.Ground.guard }], guard := some (5, false) }) (v := ?_) rfl (by kernel_rfl) (by kernel_rfl) (by kernel_rfl) (fun _ _ _ h => h) (Or.inl ⟨by rfl, ?_⟩) (by assumption) ?_
        rotate_left 1
        · intro w' hSw
          first | (go_simp; done) | (go_simp; with_reducible rfl)
        try simp only [Act.put, List.getElem_toArray, List.getElem_cons_succ, List.getElem_cons_zero, List.setIfInBounds_toArray, List.set_cons_zero, List.set_cons_succ]
        refine wpAnyH_take (i := 11) (oi := { dst := some 51, op := Go.Op.pick (Go.Operand.tmp 45) (Go.Operand.const (Go.Value.bool true)) (Go.Operand.tmp 50), type := 4, pos := "law.go:99", after := #[{ on := 5, ground := Go.Ground.data }, { on := 10, ground := Go.Ground.data }, { on := 1, ground := Go.Ground.guard }], guard := some (1, true) }) (v := ?_) rfl (by kernel_rfl) (by kernel_rfl) (by kernel_rfl) (fun _ _ _ h => h) (Or.inl ⟨by rfl, ?_⟩) (by assumption) ?_
        rotate_left 1
        · intro w' hSw
          first | (go_simp; done) | (go_simp; with_reducible rfl)
        try simp only [Act.put, List.getElem_toArray, List.getElem_cons_succ, List.getElem_cons_zero, List.setIfInBounds_toArray, List.set_cons_zero, List.set_cons_succ]
        refine wpAnyH_take (i := 12) (oi := { dst := some 52, op := Go.Op.move (Go.Operand.tmp 51), type := 4, pos := "law.go:99", after := #[{ on := 11, ground := Go.Ground.data }, { on := 5, ground := Go.Ground.chain }, { on := 1, ground := Go.Ground.guard }], guard := some (1, true) }) (v := ?_) rfl (by kernel_rfl) (by kernel_rfl) (by kernel_rfl) (fun _ _ _ h => h) (Or.inl ⟨by rfl, ?_⟩) (by assumption) ?_
        rotate_left 1
        · intro w' hSw
          first | (go_simp; done) | (go_simp; with_reducible rfl)
        try simp only [Act.put, List.getElem_toArray, List.getElem_cons_succ, List.getElem_cons_zero, List.setIfInBounds_toArray, List.set_cons_zero, List.set_cons_succ]
        refine wpAnyH_take (i := 13) (oi := { dst := some 53, op := Go.Op.move (Go.Operand.tmp 0), type := 32, pos := "law.go:99", after := #[{ on := 12, ground := Go.Ground.guard }], guard := some (12, false) }) (v := ?_) rfl (by kernel_rfl) (by kernel_rfl) (by kernel_rfl) (fun _ _ _ h => h) (Or.inl ⟨by rfl, ?_⟩) (by assumption) ?_
        rotate_left 1
        · intro w' hSw
          first | (go_simp; done) | (go_simp; with_reducible rfl)
        try simp only [Act.put, List.getElem_toArray, List.getElem_cons_succ, List.getElem_cons_zero, List.setIfInBounds_toArray, List.set_cons_zero, List.set_cons_succ]
        refine wpAnyH_take (i := 14) (oi := { dst := some 54, op := Go.Op.fieldAddr 35 (Go.Operand.tmp 8) 1, type := 0, pos := "law.go:99", after := #[{ on := 12, ground := Go.Ground.guard }], guard := some (12, false) }) (v := ?_) rfl (by kernel_rfl) (by kernel_rfl) (by kernel_rfl) (fun _ _ _ h => h) (Or.inl ⟨by rfl, ?_⟩) (by assumption) ?_
        rotate_left 1
        · intro w' hSw
          first | (go_simp; done) | (go_simp; with_reducible rfl)
        try simp only [Act.put, List.getElem_toArray, List.getElem_cons_succ, List.getElem_cons_zero, List.setIfInBounds_toArray, List.set_cons_zero, List.set_cons_succ]
        refine wpAnyH_take (i := 15) (oi := { dst := some 55, op := Go.Op.load 3 (Go.Operand.tmp 54), type := 3, pos := "law.go:99", after := #[{ on := 14, ground := Go.Ground.data }, { on := 12, ground := Go.Ground.guard }], guard := some (12, false) }) (v := ?_) rfl (by kernel_rfl) (by kernel_rfl) (by kernel_rfl) (fun _ _ _ h => h) (Or.inl ⟨by rfl, ?_⟩) (by assumption) ?_
        rotate_left 1
        · intro w' hSw
          obtain ⟨z0, z1, z2, z3, z4, z5, _⟩ := hold6 hSw.1
          first | (go_simp; done) | (go_simp; with_reducible rfl)
        try simp only [Act.put, List.getElem_toArray, List.getElem_cons_succ, List.getElem_cons_zero, List.setIfInBounds_toArray, List.set_cons_zero, List.set_cons_succ]
        refine wpAnyH_take (i := 16) (oi := { dst := some 56, op := Go.Op.indexAddr 32 (Go.Operand.tmp 53) (Go.Operand.tmp 55), type := 0, pos := "law.go:99", after := #[{ on := 13, ground := Go.Ground.data }, { on := 15, ground := Go.Ground.data }, { on := 12, ground := Go.Ground.guard }], guard := some (12, false) }) (v := ?_) rfl (by kernel_rfl) (by kernel_rfl) (by kernel_rfl) (fun _ _ _ h => h) (Or.inl ⟨by rfl, ?_⟩) (by assumption) ?_
        rotate_left 1
        · intro w' hSw
          first | (go_simp; done) | (go_simp; with_reducible rfl)
        try simp only [Act.put, List.getElem_toArray, List.getElem_cons_succ, List.getElem_cons_zero, List.setIfInBounds_toArray, List.set_cons_zero, List.set_cons_succ]
        refine wpAnyH_take (i := 17) (oi := { dst := some 57, op := Go.Op.load 29 (Go.Operand.tmp 56), type := 29, pos := "law.go:99", after := #[{ on := 16, ground := Go.Ground.data }, { on := 12, ground := Go.Ground.guard }], guard := some (12, false) }) (v := ?_) rfl (by kernel_rfl) (by kernel_rfl) (by kernel_rfl) (fun _ _ _ h => h) (Or.inl ⟨by rfl, ?_⟩) (by assumption) ?_
        rotate_left 1
        · intro w' hSw
          obtain ⟨c0, c1, c2, c3, c4⟩ := nt_cellsAt hSw.2.2
          first | (go_simp; done) | (go_simp; with_reducible rfl)
        try simp only [Act.put, List.getElem_toArray, List.getElem_cons_succ, List.getElem_cons_zero, List.setIfInBounds_toArray, List.set_cons_zero, List.set_cons_succ]
        refine wpAnyH_take (i := 18) (oi := { dst := some 58, op := Go.Op.fieldAddr 35 (Go.Operand.tmp 8) 0, type := 0, pos := "law.go:99", after := #[{ on := 12, ground := Go.Ground.guard }], guard := some (12, false) }) (v := ?_) rfl (by kernel_rfl) (by kernel_rfl) (by kernel_rfl) (fun _ _ _ h => h) (Or.inl ⟨by rfl, ?_⟩) (by assumption) ?_
        rotate_left 1
        · intro w' hSw
          first | (go_simp; done) | (go_simp; with_reducible rfl)
        try simp only [Act.put, List.getElem_toArray, List.getElem_cons_succ, List.getElem_cons_zero, List.setIfInBounds_toArray, List.set_cons_zero, List.set_cons_succ]
        refine wpAnyH_take (i := 19) (oi := { dst := some 59, op := Go.Op.load 29 (Go.Operand.tmp 58), type := 29, pos := "law.go:99", after := #[{ on := 18, ground := Go.Ground.data }, { on := 12, ground := Go.Ground.guard }], guard := some (12, false) }) (v := ?_) rfl (by kernel_rfl) (by kernel_rfl) (by kernel_rfl) (fun _ _ _ h => h) (Or.inl ⟨by rfl, ?_⟩) (by assumption) ?_
        rotate_left 1
        · intro w' hSw
          obtain ⟨z0, z1, z2, z3, z4, z5, _⟩ := hold6 hSw.1
          first | (go_simp; done) | (go_simp; with_reducible rfl)
        try simp only [Act.put, List.getElem_toArray, List.getElem_cons_succ, List.getElem_cons_zero, List.setIfInBounds_toArray, List.set_cons_zero, List.set_cons_succ]
        refine wpAnyH_take (i := 20) (oi := { dst := some 60, op := Go.Op.binOp Go.BinOp.neq 29 (Go.Operand.tmp 57) (Go.Operand.tmp 59) 29, type := 4, pos := "law.go:99", after := #[{ on := 17, ground := Go.Ground.data }, { on := 19, ground := Go.Ground.data }, { on := 12, ground := Go.Ground.guard }], guard := some (12, false) }) (v := ?_) rfl (by kernel_rfl) (by kernel_rfl) (by kernel_rfl) (fun _ _ _ h => h) (Or.inl ⟨by rfl, ?_⟩) (by assumption) ?_
        rotate_left 1
        · intro w' hSw
          first | (go_simp; done) | (go_simp; with_reducible rfl)
        try simp only [Act.put, List.getElem_toArray, List.getElem_cons_succ, List.getElem_cons_zero, List.setIfInBounds_toArray, List.set_cons_zero, List.set_cons_succ]
        refine wpAnyH_take (i := 21) (oi := { dst := some 61, op := Go.Op.pick (Go.Operand.tmp 52) (Go.Operand.const (Go.Value.bool true)) (Go.Operand.tmp 60), type := 4, pos := "law.go:99", after := #[{ on := 12, ground := Go.Ground.data }, { on := 20, ground := Go.Ground.data }, { on := 1, ground := Go.Ground.guard }], guard := some (1, true) }) (v := ?_) rfl (by kernel_rfl) (by kernel_rfl) (by kernel_rfl) (fun _ _ _ h => h) (Or.inl ⟨by rfl, ?_⟩) (by assumption) ?_
        rotate_left 1
        · intro w' hSw
          first | (go_simp; done) | (go_simp; with_reducible rfl)
        try simp only [Act.put, List.getElem_toArray, List.getElem_cons_succ, List.getElem_cons_zero, List.setIfInBounds_toArray, List.set_cons_zero, List.set_cons_succ]
        refine wpAnyH_take (i := 22) (oi := { dst := some 62, op := Go.Op.move (Go.Operand.tmp 61), type := 4, pos := "law.go:99", after := #[{ on := 21, ground := Go.Ground.data }, { on := 12, ground := Go.Ground.chain }, { on := 1, ground := Go.Ground.guard }], guard := some (1, true) }) (v := ?_) rfl (by kernel_rfl) (by kernel_rfl) (by kernel_rfl) (fun _ _ _ h => h) (Or.inl ⟨by rfl, ?_⟩) (by assumption) ?_
        rotate_left 1
        · intro w' hSw
          first | (go_simp; done) | (go_simp; with_reducible rfl)
        try simp only [Act.put, List.getElem_toArray, List.getElem_cons_succ, List.getElem_cons_zero, List.setIfInBounds_toArray, List.set_cons_zero, List.set_cons_succ]
        refine wpAnyH_take (i := 23) (oi := { dst := some 63, op := Go.Op.load 27 (Go.Operand.tmp 3), type := 27, pos := "law.go:99", after := #[{ on := 22, ground := Go.Ground.guard }], guard := some (22, false) }) (v := ?_) rfl (by kernel_rfl) (by kernel_rfl) (by kernel_rfl) (fun _ _ _ h => h) (Or.inl ⟨by rfl, ?_⟩) (by assumption) ?_
        rotate_left 1
        · intro w' hSw
          obtain ⟨y0, y1, y2, y3, _⟩ := hold4 hSw.2.1
          first | (go_simp; done) | (go_simp; with_reducible rfl)
        try simp only [Act.put, List.getElem_toArray, List.getElem_cons_succ, List.getElem_cons_zero, List.setIfInBounds_toArray, List.set_cons_zero, List.set_cons_succ]
        refine wpAnyH_take (i := 24) (oi := { dst := some 64, op := Go.Op.fieldAddr 35 (Go.Operand.tmp 8) 0, type := 0, pos := "law.go:99", after := #[{ on := 22, ground := Go.Ground.guard }], guard := some (22, false) }) (v := ?_) rfl (by kernel_rfl) (by kernel_rfl) (by kernel_rfl) (fun _ _ _ h => h) (Or.inl ⟨by rfl, ?_⟩) (by assumption) ?_
        rotate_left 1
        · intro w' hSw
          first | (go_simp; done) | (go_simp; with_reducible rfl)
        try simp only [Act.put, List.getElem_toArray, List.getElem_cons_succ, List.getElem_cons_zero, List.setIfInBounds_toArray, List.set_cons_zero, List.set_cons_succ]
        refine wpAnyH_take (i := 25) (oi := { dst := some 65, op := Go.Op.load 29 (Go.Operand.tmp 64), type := 29, pos := "law.go:99", after := #[{ on := 24, ground := Go.Ground.data }, { on := 22, ground := Go.Ground.guard }], guard := some (22, false) }) (v := ?_) rfl (by kernel_rfl) (by kernel_rfl) (by kernel_rfl) (fun _ _ _ h => h) (Or.inl ⟨by rfl, ?_⟩) (by assumption) ?_
        rotate_left 1
        · intro w' hSw
          obtain ⟨z0, z1, z2, z3, z4, z5, _⟩ := hold6 hSw.1
          first | (go_simp; done) | (go_simp; with_reducible rfl)
        try simp only [Act.put, List.getElem_toArray, List.getElem_cons_succ, List.getElem_cons_zero, List.setIfInBounds_toArray, List.set_cons_zero, List.set_cons_succ]
        refine wpAnyH_ready (rs := [26]) (by kernel_rfl) (by simp) ?_
        refine (AllReadyH.cons (o := { dst := some 66, op := Go.Op.call { callee := Go.Callee.value (Go.Operand.func 14), args := #[Go.Operand.tmp 63, Go.Operand.tmp 65], argTypes := #[27, 29] }, type := 4, pos := "law.go:99", after := #[{ on := 23, ground := Go.Ground.data }, { on := 25, ground := Go.Ground.data }, { on := 22, ground := Go.Ground.chain }, { on := 22, ground := Go.Ground.guard }], guard := some (22, false) }) rfl (fun K hK => ?_) AllReadyH.nil)
        go_simp
        go_at_call 14
        refine (rin_any p q r s xa xb xc xd xn _ hp hokj).mono ?_
        rw [hinB.out]
        rintro e w7 ⟨rfl, hB7⟩
        go_wp2_with (fail)
        refine hK.out _ _ ?_ (fun hHeld => ?_)
        · exact ⟨bk_below hB7 hHeld.1, bk_below hB7 hHeld.2.1, hHeld.2.2.far hB7⟩
        clear hK K
        try simp only [Act.put, List.getElem_toArray, List.getElem_cons_succ, List.getElem_cons_zero, List.setIfInBounds_toArray, List.set_cons_zero, List.set_cons_succ]
        refine wpAnyH_take (i := 27) (oi := { dst := some 67, op := Go.Op.unOp Go.UnOp.not 4 (Go.Operand.tmp 66), type := 4, pos := "law.go:99", after := #[{ on := 26, ground := Go.Ground.data }, { on := 22, ground := Go.Ground.guard }], guard := some (22, false) }) (v := ?_) rfl (by kernel_rfl) (by kernel_rfl) (by kernel_rfl) (fun _ _ _ h => h) (Or.inl ⟨by rfl, ?_⟩) (by assumption) ?_
        rotate_left 1
        · intro w' hSw
          first | (go_simp; done) | (go_simp; with_reducible rfl)
        try simp only [Act.put, List.getElem_toArray, List.getElem_cons_succ, List.getElem_cons_zero, List.setIfInBounds_toArray, List.set_cons_zero, List.set_cons_succ]
        refine wpAnyH_take (i := 28) (oi := { dst := some 68, op := Go.Op.pick (Go.Operand.tmp 62) (Go.Operand.const (Go.Value.bool true)) (Go.Operand.tmp 67), type := 4, pos := "law.go:99", after := #[{ on := 22, ground := Go.Ground.data }, { on := 27, ground := Go.Ground.data }, { on := 1, ground := Go.Ground.guard }], guard := some (1, true) }) (v := ?_) rfl (by kernel_rfl) (by kernel_rfl) (by kernel_rfl) (fun _ _ _ h => h) (Or.inl ⟨by rfl, ?_⟩) (by assumption) ?_
        rotate_left 1
        · intro w' hSw
          first | (go_simp; done) | (go_simp; with_reducible rfl)
        try simp only [Act.put, List.getElem_toArray, List.getElem_cons_succ, List.getElem_cons_zero, List.setIfInBounds_toArray, List.set_cons_zero, List.set_cons_succ]
        refine wpAnyH_take (i := 29) (oi := { dst := some 69, op := Go.Op.pick (Go.Operand.tmp 41) (Go.Operand.tmp 68) (Go.Operand.const (Go.Value.bool false)), type := 4, pos := "law.go:99", after := #[{ on := 1, ground := Go.Ground.data }, { on := 28, ground := Go.Ground.data }], guard := none }) (v := ?_) rfl (by kernel_rfl) (by kernel_rfl) (by kernel_rfl) (fun _ _ _ h => h) (Or.inl ⟨by rfl, ?_⟩) (by assumption) ?_
        rotate_left 1
        · intro w' hSw
          first | (go_simp; done) | (go_simp; with_reducible rfl)
        try simp only [Act.put, List.getElem_toArray, List.getElem_cons_succ, List.getElem_cons_zero, List.setIfInBounds_toArray, List.set_cons_zero, List.set_cons_succ]
        refine wpAnyH_done (by kernel_rfl) ?_ _
        refine NoPanic.normal ?_
        have hrb7 := bk_below hB7 (bk_drew hrb.out)
        have hbx7 := bk_below hB7 (bk_drew hbx4.out)
        have hB8 := bl_then (bl_drew hB4'.out) hB7
        clear hHeld hj1 hj2 hj3 hj4 heqr
        replace hrb7 := Lib.hid hrb7
        replace hbx7 := Lib.hid hbx7
        replace hB8 := Lib.hid hB8
        clear hB7
        go_wp2
        go_loopw [72] (fun v wr => ∃ i : Nat, v = .int .i64 i ∧ i ≤ ns.length ∧ Below w7.heap.size w7 wr) (fun v _ => ns.length - (intOf v).toNat)
        case atStart => exact ⟨0, rfl, Nat.zero_le _, Below.refl _ _⟩
        case round =>
          obtain ⟨i, rfl, hi, hBl⟩ := hrel
          have hBw2 := bl_then hB8.out hBl
          have hbx5 := bk_below hBl hbx7.out
          have hrb5 := bk_below hBl hrb7.out
          by_cases hil : i < ns.length
          · have hil2 : decide ((i : Int) < ns.length) = true := decide_eq_true (by omega)
            obtain ⟨hok, ad, had, hrow⟩ := hns.out i hil
            obtain rfl := Option.some.inj had
            have hbest := longest_best (p := p) (q := q) (r := r) (s := s) hl64 hil
            rw [hfind.out] at hbest
            obtain ⟨x, hx⟩ : ∃ x, ns.getD i zeroN = x := ⟨_, rfl⟩
            rw [hx] at hok hrow hbest
            replace hx := Lib.hid hx
            obtain ⟨c0, c1, c2, c3, c4⟩ := nt_cellsAt (hrow.far hBw2)
            obtain ⟨y0, y1, y2, y3, _⟩ := hold4 (bk_alloc hbx5 (.cells #[.int .u8 x.1, .int .u8 x.2.1, .int .u8 x.2.2.1, .int .u8 x.2.2.2.1, .int .i64 x.2.2.2.2] 29))
            have hBn := bl_alloc hBl (.cells #[.int .u8 x.1, .int .u8 x.2.1, .int .u8 x.2.2.1, .int .u8 x.2.2.2.1, .int .i64 x.2.2.2.2] 29)
            have hnb := bk_new wr #[.int .u8 x.1, .int .u8 x.2.1, .int .u8 x.2.2.1, .int .u8 x.2.2.2.1, .int .i64 x.2.2.2.2] 29
            have hrb6 := bk_alloc hrb5 (.cells #[.int .u8 x.1, .int .u8 x.2.1, .int .u8 x.2.2.1, .int .u8 x.2.2.2.1, .int .i64 x.2.2.2.2] 29)
            replace hBn := Lib.hid hBn
            replace hnb := Lib.hid hnb
            replace hrb6 := Lib.hid hrb6
            cases hin2 : inT p q r s x with
            | false =>
              replace hin2 := Lib.hid hin2
              clear hbest
              go_wp2_with (go_at_call 14; (with_reducible refine (rin_any p q r s x.1 x.2.1 x.2.2.1 x.2.2.2.1 x.2.2.2.2 _ hp hok).mono ?_); rw [show inB p q r s x.1 x.2.1 x.2.2.1 x.2.2.2.1 x.2.2.2.2 = false from hin2.out]; rintro e w6 ⟨rfl, hB6⟩)
              exact ⟨⟨i + 1, by first | rfl | (congr 1; omega), by omega, bl_then hBn.out hB6⟩, by simp [intOf]; omega⟩
            | true =>
              obtain ⟨x', v', e1, hb1, hb2⟩ := hbest hin2
              simp only [Option.some.injEq, Prod.mk.injEq] at e1
              obtain ⟨rfl, rfl⟩ := e1
              dsimp only at hb1 hb2
              replace hin2 := Lib.hid hin2
              have g1 : decide (xn < x.2.2.2.2) = false := decide_eq_false (by omega)
              cases heq : eqN x (xa, xb, xc, xd, xn) with
              | true =>
                have g2 : decide ((j : Int) < (i : Int)) = false := decide_eq_false (by have := hb2 (eqN_iff.1 heq); omega)
                have g2' : decide (j < i) = false := decide_eq_false (by have := hb2 (eqN_iff.1 heq); omega)
                have heq' : eqN (x.1, x.2.1, x.2.2.1, x.2.2.2.1, x.2.2.2.2) (xa, xb, xc, xd, xn) = true := heq
                clear heq hb2 hbest
                go_wp2_with (go_at_call 14; (with_reducible refine (rin_any p q r s x.1 x.2.1 x.2.2.1 x.2.2.2.1 x.2.2.2.2 _ hp hok).mono ?_); rw [show inB p q r s x.1 x.2.1 x.2.2.1 x.2.2.2.1 x.2.2.2.2 = true from hin2.out]; rintro e w6 ⟨rfl, hB6⟩; obtain ⟨n0, n1, n2, n3, n4, _⟩ := hold5 (bk_below hB6 hnb.out); obtain ⟨r0, r1, r2, r3, r4, r5, _⟩ := hold6 (bk_below hB6 hrb6.out))
                exact ⟨⟨i + 1, by first | rfl | (congr 1; omega), by omega, bl_then hBn.out hB6⟩, by simp [intOf]; omega⟩
              | false =>
                have heq' : eqN (x.1, x.2.1, x.2.2.1, x.2.2.2.1, x.2.2.2.2) (xa, xb, xc, xd, xn) = false := heq
                clear heq hb2 hbest
                go_wp2_with (go_at_call 14; (with_reducible refine (rin_any p q r s x.1 x.2.1 x.2.2.1 x.2.2.2.1 x.2.2.2.2 _ hp hok).mono ?_); rw [show inB p q r s x.1 x.2.1 x.2.2.1 x.2.2.2.1 x.2.2.2.2 = true from hin2.out]; rintro e w6 ⟨rfl, hB6⟩; obtain ⟨n0, n1, n2, n3, n4, _⟩ := hold5 (bk_below hB6 hnb.out); obtain ⟨r0, r1, r2, r3, r4, r5, _⟩ := hold6 (bk_below hB6 hrb6.out))
                exact ⟨⟨i + 1, by first | rfl | (congr 1; omega), by omega, bl_then hBn.out hB6⟩, by simp [intOf]; omega⟩
          · have hil2 : decide ((i : Int) < ns.length) = false := decide_eq_false (by omega)
            go_wp2
            go_ret
            exact ⟨rfl, hBw2⟩
end Go.Proofs.Ytebeknnjjoobnaa
