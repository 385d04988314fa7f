/- Contracts: two slices of policies, or of ints: are they equal? Contracts: are two events the same? and the small tests. Contracts: are two events the same (the reference's)? -/
import Derived.Test.YtfcekicjlgdmaaaPolicy12
set_option linter.unusedVariables false
set_option linter.unusedSimpArgs false
set_option maxRecDepth 100000
namespace Go.Proofs.Ytfcekicjlgdmaaa
open Go.RowKit Go.Proofs.YtfcekicjlgdmaaaW.PrintWords
attribute [local go_sem] max2_int min2_int max_two min_two
attribute [local go_sem ↓] eql_nt neq_nt eql_ad net_addr net_bits eql_pol neq_pol

theorem ext_getD {α : Type} (d : α) {xs ys : List α} (hl : xs.length = ys.length) (h : ∀ i, i < xs.length → xs.getD i d = ys.getD i d) : xs = ys := by
  refine List.ext_getElem hl fun i h1 h2 => ?_
  have := h i h1
  rwa [List.getD_eq_getElem?_getD, List.getD_eq_getElem?_getD, List.getElem?_eq_getElem h1, List.getElem?_eq_getElem h2, Option.getD_some, Option.getD_some] at this
theorem eqP_iff' {x y : Pol} : eqP (x.1, (x.2.1.1, x.2.1.2.1, x.2.1.2.2.1, x.2.1.2.2.2.1, x.2.1.2.2.2.2), x.2.2.1, x.2.2.2.1, x.2.2.2.2.1, x.2.2.2.2.2.1, x.2.2.2.2.2.2.1, x.2.2.2.2.2.2.2.1, x.2.2.2.2.2.2.2.2) (y.1, (y.2.1.1, y.2.1.2.1, y.2.1.2.2.1, y.2.1.2.2.2.1, y.2.1.2.2.2.2), y.2.2.1, y.2.2.2.1, y.2.2.2.2.1, y.2.2.2.2.2.1, y.2.2.2.2.2.2.1, y.2.2.2.2.2.2.2.1, y.2.2.2.2.2.2.2.2) = true ↔ x = y := eqP_iff
set_option maxHeartbeats 1600000 in
theorem eq_pols_any (A B : Option Addr) (ca cb : Nat) (ps qs : List Pol) (w : World) (hp : PolsAt w A ps) (hq : PolsAt w B qs) (hm : ps.length ≤ 1000) :
    Calls Try.prog 52 #[.slice A ps.length ca, .slice B qs.length cb] w fun e w' => e = .returned (.bool (decide (ps = qs))) ∧ Below w.heap.size w w' := by
  by_cases hlen : ps.length = qs.length
  · have hd : ((ps.length : Int) != (qs.length : Int)) = false := by rw [hlen]; simp
    obtain ⟨V, hV⟩ : ∃ V, decide (ps = qs) = V := ⟨_, rfl⟩
    rw [hV]
    replace hV := Lib.hid hV
    replace hp := Lib.hid hp
    replace hq := Lib.hid hq
    go_enter Try.func52, Try.ntmps52
    go_wp2
    go_loopw [13] (fun v wr => ∃ k : Nat, v = .int .i64 k ∧ k ≤ ps.length ∧ (∀ i, i < k → ps.getD i zeroP = qs.getD i zeroP) ∧ Below w.heap.size w wr) (fun v _ => ps.length - (intOf v).toNat)
    case atStart => exact ⟨0, rfl, Nat.zero_le _, fun i hi => absurd hi (by omega), Below.refl _ _⟩
    case round =>
      obtain ⟨k, rfl, hk, hg, hBl⟩ := hrel
      replace hg := Lib.hid hg
      by_cases hkl : k < ps.length
      · have hkl2 : decide ((k : Int) < (ps.length : Int)) = true := decide_eq_true (by omega)
        have hk1 : (k : Int) < (ps.length : Int) := by omega
        have hk2 : decide ((k : Int) < 0) = false := decide_eq_false (by omega)
        have hk3 : decide ((ps.length : Int) ≤ (k : Int)) = false := decide_eq_false (by omega)
        have hk4 : decide (ps.length ≤ k) = false := decide_eq_false (by omega)
        have hk5 : (k : Int) < (qs.length : Int) := by omega
        have hk6 : decide (qs.length ≤ k) = false := decide_eq_false (by omega)
        obtain ⟨hok, ad, rfl, hrow⟩ := hp.out k hkl
        obtain ⟨hok2, bd, rfl, hrow2⟩ := hq.out k (by omega)
        obtain ⟨x, hx⟩ : ∃ x, ps.getD k zeroP = x := ⟨_, rfl⟩
        obtain ⟨y, hy⟩ : ∃ y, qs.getD k zeroP = y := ⟨_, rfl⟩
        rw [hx] at hok hrow
        rw [hy] at hok2 hrow2
        have hox : PolOk (x.1, (x.2.1.1, x.2.1.2.1, x.2.1.2.2.1, x.2.1.2.2.2.1, x.2.1.2.2.2.2), x.2.2.1, x.2.2.2.1, x.2.2.2.2.1, x.2.2.2.2.2.1, x.2.2.2.2.2.2.1, x.2.2.2.2.2.2.2.1, x.2.2.2.2.2.2.2.2) := hok
        have hoy : PolOk (y.1, (y.2.1.1, y.2.1.2.1, y.2.1.2.2.1, y.2.1.2.2.2.1, y.2.1.2.2.2.2), y.2.2.1, y.2.2.2.1, y.2.2.2.2.1, y.2.2.2.2.2.1, y.2.2.2.2.2.2.1, y.2.2.2.2.2.2.2.1, y.2.2.2.2.2.2.2.2) := hok2
        obtain ⟨b, hb⟩ : ∃ b, eqP (x.1, (x.2.1.1, x.2.1.2.1, x.2.1.2.2.1, x.2.1.2.2.2.1, x.2.1.2.2.2.2), x.2.2.1, x.2.2.2.1, x.2.2.2.2.1, x.2.2.2.2.2.1, x.2.2.2.2.2.2.1, x.2.2.2.2.2.2.2.1, x.2.2.2.2.2.2.2.2) (y.1, (y.2.1.1, y.2.1.2.1, y.2.1.2.2.1, y.2.1.2.2.2.1, y.2.1.2.2.2.2), y.2.2.1, y.2.2.2.1, y.2.2.2.2.1, y.2.2.2.2.2.1, y.2.2.2.2.2.2.1, y.2.2.2.2.2.2.2.1, y.2.2.2.2.2.2.2.2) = b := ⟨_, rfl⟩
        replace hx := Lib.hid hx
        replace hy := Lib.hid hy
        go_wp2_with (fail)
        refine wp_region_noPanic ?_
        refine wp_region_held_drew (S := fun w' => Below w.heap.size w w') (by kernel_rfl) (bl_drew hBl) (fun hHeld => ?_)
        refine wpAnyH_take (i := 0) (oi := { dst := some 16, op := Go.Op.move (Go.Operand.tmp 0), type := 43, pos := "slices.go:25", after := #[], guard := none }) (v := ?_) rfl (by kernel_rfl) (by kernel_rfl) (by kernel_rfl) (fun _ _ _ h => h) (Or.inl ⟨by rfl, ?_⟩) (by assumption) ?_
        rotate_left 1
        · intro w' hSw
          first | (go_simp; done) | (go_simp; with_reducible rfl)
        try simp only [Act.put, List.getElem_toArray, List.getElem_cons_succ, List.getElem_cons_zero, List.setIfInBounds_toArray, List.set_cons_zero, List.set_cons_succ]
        refine wpAnyH_take (i := 1) (oi := { dst := some 17, op := Go.Op.move (Go.Operand.tmp 5), type := 3, pos := "slices.go:25", after := #[], guard := none }) (v := ?_) rfl (by kernel_rfl) (by kernel_rfl) (by kernel_rfl) (fun _ _ _ h => h) (Or.inl ⟨by rfl, ?_⟩) (by assumption) ?_
        rotate_left 1
        · intro w' hSw
          first | (go_simp; done) | (go_simp; with_reducible rfl)
        try simp only [Act.put, List.getElem_toArray, List.getElem_cons_succ, List.getElem_cons_zero, List.setIfInBounds_toArray, List.set_cons_zero, List.set_cons_succ]
        refine wpAnyH_take (i := 2) (oi := { dst := some 18, op := Go.Op.indexAddr 43 (Go.Operand.tmp 16) (Go.Operand.tmp 17), type := 0, pos := "slices.go:25", after := #[{ on := 0, ground := Go.Ground.data }, { on := 1, ground := Go.Ground.data }], guard := none }) (v := ?_) rfl (by kernel_rfl) (by kernel_rfl) (by kernel_rfl) (fun _ _ _ h => h) (Or.inl ⟨by rfl, ?_⟩) (by assumption) ?_
        rotate_left 1
        · intro w' hSw
          first | (go_simp; done) | (go_simp; with_reducible rfl)
        try simp only [Act.put, List.getElem_toArray, List.getElem_cons_succ, List.getElem_cons_zero, List.setIfInBounds_toArray, List.set_cons_zero, List.set_cons_succ]
        refine wpAnyH_take (i := 3) (oi := { dst := some 19, op := Go.Op.load 28 (Go.Operand.tmp 18), type := 28, pos := "slices.go:25", after := #[{ on := 2, ground := Go.Ground.data }], guard := none }) (v := ?_) rfl (by kernel_rfl) (by kernel_rfl) (by kernel_rfl) (fun _ _ _ h => h) (Or.inl ⟨by rfl, ?_⟩) (by assumption) ?_
        rotate_left 1
        · intro w' hSw
          obtain ⟨c0, c1, c2, c3, c4, c5, c6, c7, c8, c9, c10, c11, c12⟩ := pol_cellsAt (hrow.far hSw)
          first | (go_simp; done) | (go_simp; with_reducible rfl)
        try simp only [Act.put, List.getElem_toArray, List.getElem_cons_succ, List.getElem_cons_zero, List.setIfInBounds_toArray, List.set_cons_zero, List.set_cons_succ]
        refine wpAnyH_take (i := 4) (oi := { dst := some 20, op := Go.Op.move (Go.Operand.tmp 1), type := 43, pos := "slices.go:25", after := #[], guard := none }) (v := ?_) rfl (by kernel_rfl) (by kernel_rfl) (by kernel_rfl) (fun _ _ _ h => h) (Or.inl ⟨by rfl, ?_⟩) (by assumption) ?_
        rotate_left 1
        · intro w' hSw
          first | (go_simp; done) | (go_simp; with_reducible rfl)
        try simp only [Act.put, List.getElem_toArray, List.getElem_cons_succ, List.getElem_cons_zero, List.setIfInBounds_toArray, List.set_cons_zero, List.set_cons_succ]
        refine wpAnyH_take (i := 5) (oi := { dst := some 21, op := Go.Op.move (Go.Operand.tmp 5), type := 3, pos := "slices.go:25", after := #[], guard := none }) (v := ?_) rfl (by kernel_rfl) (by kernel_rfl) (by kernel_rfl) (fun _ _ _ h => h) (Or.inl ⟨by rfl, ?_⟩) (by assumption) ?_
        rotate_left 1
        · intro w' hSw
          first | (go_simp; done) | (go_simp; with_reducible rfl)
        try simp only [Act.put, List.getElem_toArray, List.getElem_cons_succ, List.getElem_cons_zero, List.setIfInBounds_toArray, List.set_cons_zero, List.set_cons_succ]
        refine wpAnyH_take (i := 6) (oi := { dst := some 22, op := Go.Op.indexAddr 43 (Go.Operand.tmp 20) (Go.Operand.tmp 21), type := 0, pos := "slices.go:25", after := #[{ on := 4, ground := Go.Ground.data }, { on := 5, ground := Go.Ground.data }], guard := none }) (v := ?_) rfl (by kernel_rfl) (by kernel_rfl) (by kernel_rfl) (fun _ _ _ h => h) (Or.inl ⟨by rfl, ?_⟩) (by assumption) ?_
        rotate_left 1
        · intro w' hSw
          first | (go_simp; done) | (go_simp; with_reducible rfl)
        try simp only [Act.put, List.getElem_toArray, List.getElem_cons_succ, List.getElem_cons_zero, List.setIfInBounds_toArray, List.set_cons_zero, List.set_cons_succ]
        refine wpAnyH_take (i := 7) (oi := { dst := some 23, op := Go.Op.load 28 (Go.Operand.tmp 22), type := 28, pos := "slices.go:25", after := #[{ on := 6, ground := Go.Ground.data }], guard := none }) (v := ?_) rfl (by kernel_rfl) (by kernel_rfl) (by kernel_rfl) (fun _ _ _ h => h) (Or.inl ⟨by rfl, ?_⟩) (by assumption) ?_
        rotate_left 1
        · intro w' hSw
          obtain ⟨c0, c1, c2, c3, c4, c5, c6, c7, c8, c9, c10, c11, c12⟩ := pol_cellsAt (hrow2.far hSw)
          first | (go_simp; done) | (go_simp; with_reducible rfl)
        try simp only [Act.put, List.getElem_toArray, List.getElem_cons_succ, List.getElem_cons_zero, List.setIfInBounds_toArray, List.set_cons_zero, List.set_cons_succ]
        refine wpAnyH_take (i := 8) (oi := { dst := some 24, op := Go.Op.binOp Go.BinOp.neq 28 (Go.Operand.tmp 19) (Go.Operand.tmp 23) 28, type := 4, pos := "slices.go:25", after := #[{ on := 3, ground := Go.Ground.data }, { on := 7, ground := Go.Ground.data }], guard := none }) (v := ?_) rfl (by kernel_rfl) (by kernel_rfl) (by kernel_rfl) (fun _ _ _ h => h) (Or.inl ⟨by rfl, ?_⟩) (by assumption) ?_
        rotate_left 1
        · intro w' hSw
          first | (go_simp; done) | (go_simp; with_reducible rfl)
        try simp only [Act.put, List.getElem_toArray, List.getElem_cons_succ, List.getElem_cons_zero, List.setIfInBounds_toArray, List.set_cons_zero, List.set_cons_succ]
        refine wpAnyH_done (by kernel_rfl) ?_ _
        refine NoPanic.normal ?_
        cases b with
        | true =>
          have hxy : ps.getD k zeroP = qs.getD k zeroP := by rw [hx.out, hy.out]; exact eqP_iff'.1 hb
          replace hxy := Lib.hid hxy
          go_wp2
          refine ⟨⟨k + 1, by first | rfl | (congr 1; omega), by omega, fun i hi => ?_, hHeld⟩, by simp [intOf]; omega⟩
          rcases Nat.lt_or_ge i k with h | h
          · exact hg.out i h
          · obtain rfl : i = k := by omega
            exact hxy.out
        | false =>
          have hv : V = false := by
            rw [← hV.out]
            refine decide_eq_false (fun h => ?_)
            have : x = y := by rw [← hx.out, ← hy.out, h]
            rw [eqP_iff'.2 this] at hb
            cases hb
          subst hv
          go_wp2
          go_ret
          exact ⟨rfl, hHeld⟩
      · have hkl2 : decide ((k : Int) < (ps.length : Int)) = false := decide_eq_false (by omega)
        obtain rfl : k = ps.length := by omega
        have hv : V = true := by rw [← hV.out]; exact decide_eq_true (ext_getD zeroP hlen hg.out)
        subst hv
        go_wp2
        go_ret
        exact ⟨rfl, hBl⟩
  · have hd : ((ps.length : Int) != (qs.length : Int)) = true := by simp; omega
    have hv : decide (ps = qs) = false := decide_eq_false (fun h => hlen (by rw [h]))
    rw [hv]
    go_enter Try.func52, Try.ntmps52
    go_wp2
    go_ret
    exact ⟨rfl, Below.refl _ _⟩
set_option maxHeartbeats 1600000 in
theorem eq_ints_any (A B : Option Addr) (ca cb : Nat) (ps qs : List Int) (w : World) (hp : ReadsInt w .i64 A ps.length ps) (hq : ReadsInt w .i64 B qs.length qs) (hm : ps.length ≤ 1000) :
    Calls Try.prog 53 #[.slice A ps.length ca, .slice B qs.length cb] w fun e w' => e = .returned (.bool (decide (ps = qs))) ∧ Below w.heap.size w w' := by
  by_cases hlen : ps.length = qs.length
  · have hd : ((ps.length : Int) != (qs.length : Int)) = false := by rw [hlen]; simp
    obtain ⟨V, hV⟩ : ∃ V, decide (ps = qs) = V := ⟨_, rfl⟩
    rw [hV]
    replace hV := Lib.hid hV
    replace hp := Lib.hid hp
    replace hq := Lib.hid hq
    go_enter Try.func53, Try.ntmps53
    go_wp2
    go_loopw [13] (fun v wr => ∃ k : Nat, v = .int .i64 k ∧ k ≤ ps.length ∧ (∀ i, i < k → ps.getD i 0 = qs.getD i 0) ∧ Below w.heap.size w wr) (fun v _ => ps.length - (intOf v).toNat)
    case atStart => exact ⟨0, rfl, Nat.zero_le _, fun i hi => absurd hi (by omega), Below.refl _ _⟩
    case round =>
      obtain ⟨k, rfl, hk, hg, hBl⟩ := hrel
      replace hg := Lib.hid hg
      by_cases hkl : k < ps.length
      · have hkl2 : decide ((k : Int) < (ps.length : Int)) = true := decide_eq_true (by omega)
        have hk1 : (k : Int) < (ps.length : Int) := by omega
        have hk2 : decide ((k : Int) < 0) = false := decide_eq_false (by omega)
        have hk3 : decide ((ps.length : Int) ≤ (k : Int)) = false := decide_eq_false (by omega)
        have hk4 : decide (ps.length ≤ k) = false := decide_eq_false (by omega)
        have hk5 : (k : Int) < (qs.length : Int) := by omega
        have hk6 : decide (qs.length ≤ k) = false := decide_eq_false (by omega)
        obtain ⟨ad, rfl, hrow⟩ : ∃ ad, A = some ad ∧ ∀ w', Below w.heap.size w w' → w'.cell? (ad.add k) = some (.int .i64 (ps.getD k 0)) := by
          obtain ⟨ad, e, hc⟩ := hp.out.2.2 (by omega)
          exact ⟨ad, e, fun w' hB => cl_far hB (hc k hkl)⟩
        obtain ⟨bd, rfl, hrow2⟩ : ∃ ad, B = some ad ∧ ∀ w', Below w.heap.size w w' → w'.cell? (ad.add k) = some (.int .i64 (qs.getD k 0)) := by
          obtain ⟨ad, e, hc⟩ := hq.out.2.2 (by omega)
          exact ⟨ad, e, fun w' hB => cl_far hB (hc k (by omega))⟩
        obtain ⟨x, hx⟩ : ∃ x, ps.getD k 0 = x := ⟨_, rfl⟩
        obtain ⟨y, hy⟩ : ∃ y, qs.getD k 0 = y := ⟨_, rfl⟩
        rw [hx] at hrow
        rw [hy] at hrow2
        replace hx := Lib.hid hx
        replace hy := Lib.hid hy
        go_wp2_with (fail)
        by_cases hxy : x = y
        · subst hxy
          refine wp_region_noPanic ?_
          refine wp_region_held_drew (S := fun w' => Below w.heap.size w w') (by kernel_rfl) (bl_drew hBl) (fun hHeld => ?_)
          refine wpAnyH_take (i := 0) (oi := { dst := some 16, op := Go.Op.move (Go.Operand.tmp 0), type := 51, pos := "slices.go:25", after := #[], guard := none }) (v := ?_) rfl (by kernel_rfl) (by kernel_rfl) (by kernel_rfl) (fun _ _ _ h => h) (Or.inl ⟨by rfl, ?_⟩) (by assumption) ?_
          rotate_left 1
          · intro w' hSw
            first | (go_simp; done) | (go_simp; with_reducible rfl)
          try simp only [Act.put, List.getElem_toArray, List.getElem_cons_succ, List.getElem_cons_zero, List.setIfInBounds_toArray, List.set_cons_zero, List.set_cons_succ]
          refine wpAnyH_take (i := 1) (oi := { dst := some 17, op := Go.Op.move (Go.Operand.tmp 5), type := 3, pos := "slices.go:25", after := #[], guard := none }) (v := ?_) rfl (by kernel_rfl) (by kernel_rfl) (by kernel_rfl) (fun _ _ _ h => h) (Or.inl ⟨by rfl, ?_⟩) (by assumption) ?_
          rotate_left 1
          · intro w' hSw
            first | (go_simp; done) | (go_simp; with_reducible rfl)
          try simp only [Act.put, List.getElem_toArray, List.getElem_cons_succ, List.getElem_cons_zero, List.setIfInBounds_toArray, List.set_cons_zero, List.set_cons_succ]
          refine wpAnyH_take (i := 2) (oi := { dst := some 18, op := Go.Op.indexAddr 51 (Go.Operand.tmp 16) (Go.Operand.tmp 17), type := 0, pos := "slices.go:25", after := #[{ on := 0, ground := Go.Ground.data }, { on := 1, ground := Go.Ground.data }], guard := none }) (v := ?_) rfl (by kernel_rfl) (by kernel_rfl) (by kernel_rfl) (fun _ _ _ h => h) (Or.inl ⟨by rfl, ?_⟩) (by assumption) ?_
          rotate_left 1
          · intro w' hSw
            first | (go_simp; done) | (go_simp; with_reducible rfl)
          try simp only [Act.put, List.getElem_toArray, List.getElem_cons_succ, List.getElem_cons_zero, List.setIfInBounds_toArray, List.set_cons_zero, List.set_cons_succ]
          refine wpAnyH_take (i := 3) (oi := { dst := some 19, op := Go.Op.load 3 (Go.Operand.tmp 18), type := 3, pos := "slices.go:25", after := #[{ on := 2, ground := Go.Ground.data }], guard := none }) (v := ?_) rfl (by kernel_rfl) (by kernel_rfl) (by kernel_rfl) (fun _ _ _ h => h) (Or.inl ⟨by rfl, ?_⟩) (by assumption) ?_
          rotate_left 1
          · intro w' hSw
            have c0 := hrow _ hSw
            first | (go_simp; done) | (go_simp; with_reducible rfl)
          try simp only [Act.put, List.getElem_toArray, List.getElem_cons_succ, List.getElem_cons_zero, List.setIfInBounds_toArray, List.set_cons_zero, List.set_cons_succ]
          refine wpAnyH_take (i := 4) (oi := { dst := some 20, op := Go.Op.move (Go.Operand.tmp 1), type := 51, pos := "slices.go:25", after := #[], guard := none }) (v := ?_) rfl (by kernel_rfl) (by kernel_rfl) (by kernel_rfl) (fun _ _ _ h => h) (Or.inl ⟨by rfl, ?_⟩) (by assumption) ?_
          rotate_left 1
          · intro w' hSw
            first | (go_simp; done) | (go_simp; with_reducible rfl)
          try simp only [Act.put, List.getElem_toArray, List.getElem_cons_succ, List.getElem_cons_zero, List.setIfInBounds_toArray, List.set_cons_zero, List.set_cons_succ]
          refine wpAnyH_take (i := 5) (oi := { dst := some 21, op := Go.Op.move (Go.Operand.tmp 5), type := 3, pos := "slices.go:25", after := #[], guard := none }) (v := ?_) rfl (by kernel_rfl) (by kernel_rfl) (by kernel_rfl) (fun _ _ _ h => h) (Or.inl ⟨by rfl, ?_⟩) (by assumption) ?_
          rotate_left 1
          · intro w' hSw
            first | (go_simp; done) | (go_simp; with_reducible rfl)
          try simp only [Act.put, List.getElem_toArray, List.getElem_cons_succ, List.getElem_cons_zero, List.setIfInBounds_toArray, List.set_cons_zero, List.set_cons_succ]
          refine wpAnyH_take (i := 6) (oi := { dst := some 22, op := Go.Op.indexAddr 51 (Go.Operand.tmp 20) (Go.Operand.tmp 21), type := 0, pos := "slices.go:25", after := #[{ on := 4, ground := Go.Ground.data }, { on := 5, ground := Go.Ground.data }], guard := none }) (v := ?_) rfl (by kernel_rfl) (by kernel_rfl) (by kernel_rfl) (fun _ _ _ h => h) (Or.inl ⟨by rfl, ?_⟩) (by assumption) ?_
          rotate_left 1
          · intro w' hSw
            first | (go_simp; done) | (go_simp; with_reducible rfl)
          try simp only [Act.put, List.getElem_toArray, List.getElem_cons_succ, List.getElem_cons_zero, List.setIfInBounds_toArray, List.set_cons_zero, List.set_cons_succ]
          refine wpAnyH_take (i := 7) (oi := { dst := some 23, op := Go.Op.load 3 (Go.Operand.tmp 22), type := 3, pos := "slices.go:25", after := #[{ on := 6, ground := Go.Ground.data }], guard := none }) (v := ?_) rfl (by kernel_rfl) (by kernel_rfl) (by kernel_rfl) (fun _ _ _ h => h) (Or.inl ⟨by rfl, ?_⟩) (by assumption) ?_
          rotate_left 1
          · intro w' hSw
            have c0 := hrow2 _ hSw
            first | (go_simp; done) | (go_simp; with_reducible rfl)
          try simp only [Act.put, List.getElem_toArray, List.getElem_cons_succ, List.getElem_cons_zero, List.setIfInBounds_toArray, List.set_cons_zero, List.set_cons_succ]
          refine wpAnyH_take (i := 8) (oi := { dst := some 24, op := Go.Op.binOp Go.BinOp.neq 3 (Go.Operand.tmp 19) (Go.Operand.tmp 23) 3, type := 4, pos := "slices.go:25", after := #[{ on := 3, ground := Go.Ground.data }, { on := 7, ground := Go.Ground.data }], guard := none }) (v := ?_) rfl (by kernel_rfl) (by kernel_rfl) (by kernel_rfl) (fun _ _ _ h => h) (Or.inl ⟨by rfl, ?_⟩) (by assumption) ?_
          rotate_left 1
          · intro w' hSw
            first | (go_simp; done) | (go_simp; with_reducible rfl)
          try simp only [Act.put, List.getElem_toArray, List.getElem_cons_succ, List.getElem_cons_zero, List.setIfInBounds_toArray, List.set_cons_zero, List.set_cons_succ]
          refine wpAnyH_done (by kernel_rfl) ?_ _
          refine NoPanic.normal ?_
          have hxy : ps.getD k 0 = qs.getD k 0 := by rw [hx.out, hy.out]
          replace hxy := Lib.hid hxy
          go_wp2
          refine ⟨⟨k + 1, by first | rfl | (congr 1; omega), by omega, fun i hi => ?_, hHeld⟩, by simp [intOf]; omega⟩
          rcases Nat.lt_or_ge i k with h | h
          · exact hg.out i h
          · obtain rfl : i = k := by omega
            exact hxy.out
        · have hne : (x != y) = true := by simp [hxy]
          have hv : V = false := by
            rw [← hV.out]
            refine decide_eq_false (fun h => hxy ?_)
            rw [← hx.out, ← hy.out, h]
          subst hv
          refine wp_region_noPanic ?_
          refine wp_region_held_drew (S := fun w' => Below w.heap.size w w') (by kernel_rfl) (bl_drew hBl) (fun hHeld => ?_)
          refine wpAnyH_take (i := 0) (oi := { dst := some 16, op := Go.Op.move (Go.Operand.tmp 0), type := 51, pos := "slices.go:25", after := #[], guard := none }) (v := ?_) rfl (by kernel_rfl) (by kernel_rfl) (by kernel_rfl) (fun _ _ _ h => h) (Or.inl ⟨by rfl, ?_⟩) (by assumption) ?_
          rotate_left 1
          · intro w' hSw
            first | (go_simp; done) | (go_simp; with_reducible rfl)
          try simp only [Act.put, List.getElem_toArray, List.getElem_cons_succ, List.getElem_cons_zero, List.setIfInBounds_toArray, List.set_cons_zero, List.set_cons_succ]
          refine wpAnyH_take (i := 1) (oi := { dst := some 17, op := Go.Op.move (Go.Operand.tmp 5), type := 3, pos := "slices.go:25", after := #[], guard := none }) (v := ?_) rfl (by kernel_rfl) (by kernel_rfl) (by kernel_rfl) (fun _ _ _ h => h) (Or.inl ⟨by rfl, ?_⟩) (by assumption) ?_
          rotate_left 1
          · intro w' hSw
            first | (go_simp; done) | (go_simp; with_reducible rfl)
          try simp only [Act.put, List.getElem_toArray, List.getElem_cons_succ, List.getElem_cons_zero, List.setIfInBounds_toArray, List.set_cons_zero, List.set_cons_succ]
          refine wpAnyH_take (i := 2) (oi := { dst := some 18, op := Go.Op.indexAddr 51 (Go.Operand.tmp 16) (Go.Operand.tmp 17), type := 0, pos := "slices.go:25", after := #[{ on := 0, ground := Go.Ground.data }, { on := 1, ground := Go.Ground.data }], guard := none }) (v := ?_) rfl (by kernel_rfl) (by kernel_rfl) (by kernel_rfl) (fun _ _ _ h => h) (Or.inl ⟨by rfl, ?_⟩) (by assumption) ?_
          rotate_left 1
          · intro w' hSw
            first | (go_simp; done) | (go_simp; with_reducible rfl)
          try simp only [Act.put, List.getElem_toArray, List.getElem_cons_succ, List.getElem_cons_zero, List.setIfInBounds_toArray, List.set_cons_zero, List.set_cons_succ]
          refine wpAnyH_take (i := 3) (oi := { dst := some 19, op := Go.Op.load 3 (Go.Operand.tmp 18), type := 3, pos := "slices.go:25", after := #[{ on := 2, ground := Go.Ground.data }], guard := none }) (v := ?_) rfl (by kernel_rfl) (by kernel_rfl) (by kernel_rfl) (fun _ _ _ h => h) (Or.inl ⟨by rfl, ?_⟩) (by assumption) ?_
          rotate_left 1
          · intro w' hSw
            have c0 := hrow _ hSw
            first | (go_simp; done) | (go_simp; with_reducible rfl)
          try simp only [Act.put, List.getElem_toArray, List.getElem_cons_succ, List.getElem_cons_zero, List.setIfInBounds_toArray, List.set_cons_zero, List.set_cons_succ]
          refine wpAnyH_take (i := 4) (oi := { dst := some 20, op := Go.Op.move (Go.Operand.tmp 1), type := 51, pos := "slices.go:25", after := #[], guard := none }) (v := ?_) rfl (by kernel_rfl) (by kernel_rfl) (by kernel_rfl) (fun _ _ _ h => h) (Or.inl ⟨by rfl, ?_⟩) (by assumption) ?_
          rotate_left 1
          · intro w' hSw
            first | (go_simp; done) | (go_simp; with_reducible rfl)
          try simp only [Act.put, List.getElem_toArray, List.getElem_cons_succ, List.getElem_cons_zero, List.setIfInBounds_toArray, List.set_cons_zero, List.set_cons_succ]
          refine wpAnyH_take (i := 5) (oi := { dst := some 21, op := Go.Op.move (Go.Operand.tmp 5), type := 3, pos := "slices.go:25", after := #[], guard := none }) (v := ?_) rfl (by kernel_rfl) (by kernel_rfl) (by kernel_rfl) (fun _ _ _ h => h) (Or.inl ⟨by rfl, ?_⟩) (by assumption) ?_
          rotate_left 1
          · intro w' hSw
            first | (go_simp; done) | (go_simp; with_reducible rfl)
          try simp only [Act.put, List.getElem_toArray, List.getElem_cons_succ, List.getElem_cons_zero, List.setIfInBounds_toArray, List.set_cons_zero, List.set_cons_succ]
          refine wpAnyH_take (i := 6) (oi := { dst := some 22, op := Go.Op.indexAddr 51 (Go.Operand.tmp 20) (Go.Operand.tmp 21), type := 0, pos := "slices.go:25", after := #[{ on := 4, ground := Go.Ground.data }, { on := 5, ground := Go.Ground.data }], guard := none }) (v := ?_) rfl (by kernel_rfl) (by kernel_rfl) (by kernel_rfl) (fun _ _ _ h => h) (Or.inl ⟨by rfl, ?_⟩) (by assumption) ?_
          rotate_left 1
          · intro w' hSw
            first | (go_simp; done) | (go_simp; with_reducible rfl)
          try simp only [Act.put, List.getElem_toArray, List.getElem_cons_succ, List.getElem_cons_zero, List.setIfInBounds_toArray, List.set_cons_zero, List.set_cons_succ]
          refine wpAnyH_take (i := 7) (oi := { dst := some 23, op := Go.Op.load 3 (Go.Operand.tmp 22), type := 3, pos := "slices.go:25", after := #[{ on := 6, ground := Go.Ground.data }], guard := none }) (v := ?_) rfl (by kernel_rfl) (by kernel_rfl) (by kernel_rfl) (fun _ _ _ h => h) (Or.inl ⟨by rfl, ?_⟩) (by assumption) ?_
          rotate_left 1
          · intro w' hSw
            have c0 := hrow2 _ hSw
            first | (go_simp; done) | (go_simp; with_reducible rfl)
          try simp only [Act.put, List.getElem_toArray, List.getElem_cons_succ, List.getElem_cons_zero, List.setIfInBounds_toArray, List.set_cons_zero, List.set_cons_succ]
          refine wpAnyH_take (i := 8) (oi := { dst := some 24, op := Go.Op.binOp Go.BinOp.neq 3 (Go.Operand.tmp 19) (Go.Operand.tmp 23) 3, type := 4, pos := "slices.go:25", after := #[{ on := 3, ground := Go.Ground.data }, { on := 7, ground := Go.Ground.data }], guard := none }) (v := ?_) rfl (by kernel_rfl) (by kernel_rfl) (by kernel_rfl) (fun _ _ _ h => h) (Or.inl ⟨by rfl, ?_⟩) (by assumption) ?_
          rotate_left 1
          · intro w' hSw
            first | (go_simp; done) | (go_simp; with_reducible rfl)
          try simp only [Act.put, List.getElem_toArray, List.getElem_cons_succ, List.getElem_cons_zero, List.setIfInBounds_toArray, List.set_cons_zero, List.set_cons_succ]
          refine wpAnyH_done (by kernel_rfl) ?_ _
          refine NoPanic.normal ?_
          go_wp2
          go_ret
          exact ⟨rfl, hHeld⟩
      · have hkl2 : decide ((k : Int) < (ps.length : Int)) = false := decide_eq_false (by omega)
        obtain rfl : k = ps.length := by omega
        have hv : V = true := by rw [← hV.out]; exact decide_eq_true (ext_getD 0 hlen hg.out)
        subst hv
        go_wp2
        go_ret
        exact ⟨rfl, hBl⟩
  · have hd : ((ps.length : Int) != (qs.length : Int)) = true := by simp; omega
    have hv : decide (ps = qs) = false := decide_eq_false (fun h => hlen (by rw [h]))
    rw [hv]
    go_enter Try.func53, Try.ntmps53
    go_wp2
    go_ret
    exact ⟨rfl, Below.refl _ _⟩
end Go.Proofs.Ytfcekicjlgdmaaa
namespace Go.Proofs.Ytfcekicjlgdmaaa
open Go.RowKit Go.Proofs.YtfcekicjlgdmaaaW.PrintWords
attribute [local go_sem] max2_int min2_int max_two min_two
attribute [local go_sem ↓] eql_nt neq_nt eql_ad net_addr net_bits eql_pol neq_pol

theorem cells6 {w : World} {g : Nat} {v0 v1 v2 v3 v4 v5 : Value} {t : TypeId} (h : Bk w g #[v0, v1, v2, v3, v4, v5] t) :
    w.cell? ⟨g, 0, none⟩ = some v0 ∧ w.cell? ⟨g, 1, none⟩ = some v1 ∧ w.cell? ⟨g, 2, none⟩ = some v2 ∧ w.cell? ⟨g, 3, none⟩ = some v3 ∧ w.cell? ⟨g, 4, none⟩ = some v4 ∧ w.cell? ⟨g, 5, none⟩ = some v5 ∧ w.frozen? ⟨g, 0, none⟩ = false ∧ w.frozen? ⟨g, 1, none⟩ = false ∧ w.frozen? ⟨g, 2, none⟩ = false ∧ w.frozen? ⟨g, 3, none⟩ = false ∧ w.frozen? ⟨g, 4, none⟩ = false ∧ w.frozen? ⟨g, 5, none⟩ = false :=
  ⟨(bk_cell h 0).trans rfl, (bk_cell h 1).trans rfl, (bk_cell h 2).trans rfl, (bk_cell h 3).trans rfl, (bk_cell h 4).trans rfl, (bk_cell h 5).trans rfl, bk_frozen h 0, bk_frozen h 1, bk_frozen h 2, bk_frozen h 3, bk_frozen h 4, bk_frozen h 5⟩
def sameE (k s g p k' s' g' p' : Int) (ps qs : List Pol) (ds fs : List Int) : Bool := decide (k = k' ∧ s = s' ∧ g = g' ∧ p = p' ∧ ps = qs ∧ ds = fs)
set_option maxHeartbeats 3200000 in
theorem esame_any (k s g p k' s' g' p' : Int) (A1 A2 B1 B2 : Option Addr) (c1 c2 d1 d2 : Nat) (ps qs : List Pol) (ds fs : List Int) (w : World) (hp : PolsAt w A1 ps) (hq : PolsAt w B1 qs) (hd : ReadsInt w .i64 A2 ds.length ds) (hf : ReadsInt w .i64 B2 fs.length fs) (hm : ps.length ≤ 1000) (hm2 : ds.length ≤ 1000) :
    Calls Try.prog 32 #[.agg #[.int .i64 k, .int .i64 s, .slice A1 ps.length c1, .slice A2 ds.length c2, .int .u64 g, .int .u64 p], .agg #[.int .i64 k', .int .i64 s', .slice B1 qs.length d1, .slice B2 fs.length d2, .int .u64 g', .int .u64 p']] w fun e w' => e = .returned (.bool (sameE k s g p k' s' g' p' ps qs ds fs)) ∧ Below w.heap.size w w' := by
  have hx : Bk ((w.alloc (.cells #[.int .i64 k, .int .i64 s, .slice A1 ps.length c1, .slice A2 ds.length c2, .int .u64 g, .int .u64 p] 53)).alloc (.cells #[.int .i64 k', .int .i64 s', .slice B1 qs.length d1, .slice B2 fs.length d2, .int .u64 g', .int .u64 p'] 53)) w.heap.size #[.int .i64 k, .int .i64 s, .slice A1 ps.length c1, .slice A2 ds.length c2, .int .u64 g, .int .u64 p] 53 := bk_alloc (bk_new w #[.int .i64 k, .int .i64 s, .slice A1 ps.length c1, .slice A2 ds.length c2, .int .u64 g, .int .u64 p] 53) _
  have hy : Bk ((w.alloc (.cells #[.int .i64 k, .int .i64 s, .slice A1 ps.length c1, .slice A2 ds.length c2, .int .u64 g, .int .u64 p] 53)).alloc (.cells #[.int .i64 k', .int .i64 s', .slice B1 qs.length d1, .slice B2 fs.length d2, .int .u64 g', .int .u64 p'] 53)) (w.heap.size + 1) #[.int .i64 k', .int .i64 s', .slice B1 qs.length d1, .slice B2 fs.length d2, .int .u64 g', .int .u64 p'] 53 := bk_at (by simp)
  have hB := bl_alloc (bl_alloc (Below.refl _ w) (.cells #[.int .i64 k, .int .i64 s, .slice A1 ps.length c1, .slice A2 ds.length c2, .int .u64 g, .int .u64 p] 53)) (.cells #[.int .i64 k', .int .i64 s', .slice B1 qs.length d1, .slice B2 fs.length d2, .int .u64 g', .int .u64 p'] 53)
  obtain ⟨x0, x1, x2, x3, x4, x5, xf0, xf1, xf2, xf3, xf4, xf5⟩ := cells6 hx
  obtain ⟨y0, y1, y2, y3, y4, y5, yf0, yf1, yf2, yf3, yf4, yf5⟩ := cells6 hy
  obtain ⟨V, hV⟩ : ∃ V, sameE k s g p k' s' g' p' ps qs ds fs = V := ⟨_, rfl⟩
  rw [hV]
  unfold sameE at hV
  replace hV := Lib.hid hV
  replace hx := Lib.hid hx
  replace hy := Lib.hid hy
  replace hB := Lib.hid hB
  replace hp := Lib.hid hp
  replace hq := Lib.hid hq
  replace hd := Lib.hid hd
  replace hf := Lib.hid hf
  by_cases ek : k = k'
  rotate_left 1
  · have hv : V = false := by rw [← hV.out]; exact decide_eq_false (fun h => ek (by obtain ⟨h1, h2, h3, h4, _⟩ := h; assumption))
    have hd : decide (k = k') = false := decide_eq_false ek
    subst hv
    go_enter Try.func32, Try.ntmps32
    go_wp2
    go_ret
    exact ⟨rfl, hB.out⟩
  subst ek
  by_cases es : s = s'
  rotate_left 1
  · have hv : V = false := by rw [← hV.out]; exact decide_eq_false (fun h => es (by obtain ⟨h1, h2, h3, h4, _⟩ := h; assumption))
    have hd : decide (s = s') = false := decide_eq_false es
    subst hv
    go_enter Try.func32, Try.ntmps32
    go_wp2
    go_ret
    exact ⟨rfl, hB.out⟩
  subst es
  by_cases eg : g = g'
  rotate_left 1
  · have hv : V = false := by rw [← hV.out]; exact decide_eq_false (fun h => eg (by obtain ⟨h1, h2, h3, h4, _⟩ := h; assumption))
    have hd : decide (g = g') = false := decide_eq_false eg
    subst hv
    go_enter Try.func32, Try.ntmps32
    go_wp2
    go_ret
    exact ⟨rfl, hB.out⟩
  subst eg
  by_cases ep : p = p'
  rotate_left 1
  · have hv : V = false := by rw [← hV.out]; exact decide_eq_false (fun h => ep (by obtain ⟨h1, h2, h3, h4, _⟩ := h; assumption))
    have hd : decide (p = p') = false := decide_eq_false ep
    subst hv
    go_enter Try.func32, Try.ntmps32
    go_wp2
    go_ret
    exact ⟨rfl, hB.out⟩
  subst ep
  cases e1 : decide (ps = qs) with
  | false =>
    have hv : V = false := by rw [← hV.out]; exact decide_eq_false (fun h => of_decide_eq_false e1 h.2.2.2.2.1)
    subst hv
    replace e1 := Lib.hid e1
    go_enter Try.func32, Try.ntmps32
    go_wp2_with (go_at_call 52; (with_reducible refine (eq_pols_any A1 B1 c1 d1 ps qs _ (hp.out.below hB.out) (hq.out.below hB.out) hm).mono ?_); rw [e1.out]; rintro e w1 ⟨rfl, hB1⟩)
    go_ret
    exact ⟨rfl, bl_then hB.out hB1⟩
  | true =>
    have hv : decide (ds = fs) = V := by
      rw [← hV.out]
      have := of_decide_eq_true e1
      simp [this]
    replace hv := Lib.hid hv
    replace e1 := Lib.hid e1
    go_enter Try.func32, Try.ntmps32
    go_wp2_with (first | (go_at_call 52; (with_reducible refine (eq_pols_any A1 B1 c1 d1 ps qs _ (hp.out.below hB.out) (hq.out.below hB.out) hm).mono ?_); rw [e1.out]; rintro e w1 ⟨rfl, hB1⟩; obtain ⟨z0, z1, z2, z3, z4, z5, zf0, zf1, zf2, zf3, zf4, zf5⟩ := cells6 (bk_below hB1 hx.out); obtain ⟨u0, u1, u2, u3, u4, u5, uf0, uf1, uf2, uf3, uf4, uf5⟩ := cells6 (bk_below hB1 hy.out); have hB2 := bl_then hB.out hB1) | (go_at_call 53; (with_reducible refine (eq_ints_any A2 B2 c2 d2 ds fs _ (hd.out.below hB2) (hf.out.below hB2) hm2).mono ?_); rw [hv.out]; rintro e w2 ⟨rfl, hB3⟩))
    go_ret
    exact ⟨rfl, bl_then hB2 hB3⟩
theorem esub_any (n : Int) (w : World) : Calls Try.prog 50 #[.int .i64 n] w fun e w' => e = .returned (.bool (decide (1 ≤ n ∧ n ≤ 255))) ∧ w = w' := by
  by_cases h1 : 1 ≤ n
  · have d1 : decide (1 ≤ n) = true := decide_eq_true h1
    go_enter Try.func50, Try.ntmps50
    go_wp2
    go_ret
    exact ⟨ret_bool (by simp [h1]), rfl⟩
  · have d1 : decide (1 ≤ n) = false := decide_eq_false h1
    go_enter Try.func50, Try.ntmps50
    go_wp2
    go_ret
    exact ⟨ret_bool (by simp [h1]), rfl⟩
theorem eval_any (n : Int) (w : World) : Calls Try.prog 51 #[.int .u64 n] w fun e w' => e = .returned (.bool (decide (1 ≤ n ∧ n ≤ 281474976710656))) ∧ w = w' := by
  by_cases h1 : 1 ≤ n
  · have d1 : decide (1 ≤ n) = true := decide_eq_true h1
    go_enter Try.func51, Try.ntmps51
    go_wp2
    go_ret
    exact ⟨ret_bool (by simp [h1]), rfl⟩
  · have d1 : decide (1 ≤ n) = false := decide_eq_false h1
    go_enter Try.func51, Try.ntmps51
    go_wp2
    go_ret
    exact ⟨ret_bool (by simp [h1]), rfl⟩
end Go.Proofs.Ytfcekicjlgdmaaa
namespace Go.Proofs.Ytfcekicjlgdmaaa
open Go.RowKit Go.Proofs.YtfcekicjlgdmaaaW.PrintWords
attribute [local go_sem] max2_int min2_int max_two min_two
attribute [local go_sem ↓] eql_nt neq_nt eql_ad net_addr net_bits eql_pol neq_pol

set_option maxHeartbeats 3200000 in
theorem resame_eq (k s g p : Int) (A1 A2 B1 B2 : Option Addr) (c1 c2 d1 d2 : Nat) (ps qs : List Pol) (ds fs : List Int) (w : World) (n n' m m' : Nat) (en : n = n') (em : m = m') (hn : ps.length = n) (hn' : qs.length = n') (hm0 : ds.length = m) (hm' : fs.length = m') (hp : PolsAt w A1 ps) (hq : PolsAt w B1 qs) (hd : ReadsInt w .i64 A2 m ds) (hf : ReadsInt w .i64 B2 m' fs) (hm : n ≤ 1000) (hm2 : m ≤ 1000) :
    Calls Try.prog 33 #[.agg #[.int .i64 k, .int .i64 s, .slice A1 n c1, .slice A2 m c2, .int .u64 g, .int .u64 p], .agg #[.int .i64 k, .int .i64 s, .slice B1 n' d1, .slice B2 m' d2, .int .u64 g, .int .u64 p]] w fun e w' => e = .returned (.bool (decide (ps = qs ∧ ds = fs))) ∧ Below w.heap.size w w' := by
  subst en em
  have hx : Bk ((w.alloc (.cells #[.int .i64 k, .int .i64 s, .slice A1 n c1, .slice A2 m c2, .int .u64 g, .int .u64 p] 53)).alloc (.cells #[.int .i64 k, .int .i64 s, .slice B1 n d1, .slice B2 m d2, .int .u64 g, .int .u64 p] 53)) w.heap.size #[.int .i64 k, .int .i64 s, .slice A1 n c1, .slice A2 m c2, .int .u64 g, .int .u64 p] 53 := bk_alloc (bk_new w #[.int .i64 k, .int .i64 s, .slice A1 n c1, .slice A2 m c2, .int .u64 g, .int .u64 p] 53) _
  have hy : Bk ((w.alloc (.cells #[.int .i64 k, .int .i64 s, .slice A1 n c1, .slice A2 m c2, .int .u64 g, .int .u64 p] 53)).alloc (.cells #[.int .i64 k, .int .i64 s, .slice B1 n d1, .slice B2 m d2, .int .u64 g, .int .u64 p] 53)) (w.heap.size + 1) #[.int .i64 k, .int .i64 s, .slice B1 n d1, .slice B2 m d2, .int .u64 g, .int .u64 p] 53 := bk_at (by simp)
  have hB := bl_alloc (bl_alloc (Below.refl _ w) (.cells #[.int .i64 k, .int .i64 s, .slice A1 n c1, .slice A2 m c2, .int .u64 g, .int .u64 p] 53)) (.cells #[.int .i64 k, .int .i64 s, .slice B1 n d1, .slice B2 m d2, .int .u64 g, .int .u64 p] 53)
  obtain ⟨x0, x1, x2, x3, x4, x5, xf0, xf1, xf2, xf3, xf4, xf5⟩ := cells6 hx
  obtain ⟨y0, y1, y2, y3, y4, y5, yf0, yf1, yf2, yf3, yf4, yf5⟩ := cells6 hy
  obtain ⟨V, hV⟩ : ∃ V, decide (ps = qs ∧ ds = fs) = V := ⟨_, rfl⟩
  rw [hV]
  replace hV := Lib.hid hV
  replace hx := Lib.hid hx
  replace hy := Lib.hid hy
  replace hB := Lib.hid hB
  replace hp := Lib.hid hp
  replace hq := Lib.hid hq
  replace hd := Lib.hid hd
  replace hf := Lib.hid hf
  replace hn := Lib.hid hn
  replace hn' := Lib.hid hn'
  replace hm0 := Lib.hid hm0
  replace hm' := Lib.hid hm'
  go_enter Try.func33, Try.ntmps33
  go_wp2
  go_loopw [54] (fun v wr => ∃ i : Nat, v = .int .i64 i ∧ i ≤ n ∧ (∀ j, j < i → ps.getD j zeroP = qs.getD j zeroP) ∧ Below ((w.alloc (.cells #[.int .i64 k, .int .i64 s, .slice A1 n c1, .slice A2 m c2, .int .u64 g, .int .u64 p] 53)).alloc (.cells #[.int .i64 k, .int .i64 s, .slice B1 n d1, .slice B2 m d2, .int .u64 g, .int .u64 p] 53)).heap.size ((w.alloc (.cells #[.int .i64 k, .int .i64 s, .slice A1 n c1, .slice A2 m c2, .int .u64 g, .int .u64 p] 53)).alloc (.cells #[.int .i64 k, .int .i64 s, .slice B1 n d1, .slice B2 m d2, .int .u64 g, .int .u64 p] 53)) wr) (fun v _ => n - (intOf v).toNat)
  case atStart => exact ⟨0, rfl, Nat.zero_le _, fun i hi => absurd hi (by omega), Below.refl _ _⟩
  case round =>
    obtain ⟨i, rfl, hi, hgd, hBl⟩ := hrel
    replace hgd := Lib.hid hgd
    have hx1 := bk_below hBl hx.out
    have hy1 := bk_below hBl hy.out
    have hBw := bl_then hB.out hBl
    obtain ⟨z0, z1, z2, z3, z4, z5, zf0, zf1, zf2, zf3, zf4, zf5⟩ := cells6 hx1
    by_cases hkl : i < n
    · have hkl2 : decide ((i : Int) < (n : Int)) = true := decide_eq_true (by omega)
      have hk1 : (i : Int) < (n : Int) := by omega
      have hk2 : decide ((i : Int) < 0) = false := decide_eq_false (by omega)
      have hk3 : decide ((n : Int) ≤ (i : Int)) = false := decide_eq_false (by omega)
      have hk4 : decide (n ≤ i) = false := decide_eq_false (by omega)
      have hk5 : (i : Int) < (n : Int) := by omega
      have hk6 : decide (n ≤ i) = false := decide_eq_false (by omega)
      obtain ⟨hok, ad, rfl, hrow⟩ := hp.out i (by rw [hn.out]; exact hkl)
      obtain ⟨hok2, bd, rfl, hrow2⟩ := hq.out i (by rw [hn'.out]; exact hkl)
      obtain ⟨x, hxx⟩ : ∃ x, ps.getD i zeroP = x := ⟨_, rfl⟩
      obtain ⟨y, hyy⟩ : ∃ y, qs.getD i zeroP = y := ⟨_, rfl⟩
      rw [hxx] at hok hrow
      rw [hyy] at hok2 hrow2
      have hox : PolOk (x.1, (x.2.1.1, x.2.1.2.1, x.2.1.2.2.1, x.2.1.2.2.2.1, x.2.1.2.2.2.2), x.2.2.1, x.2.2.2.1, x.2.2.2.2.1, x.2.2.2.2.2.1, x.2.2.2.2.2.2.1, x.2.2.2.2.2.2.2.1, x.2.2.2.2.2.2.2.2) := hok
      have hoy : PolOk (y.1, (y.2.1.1, y.2.1.2.1, y.2.1.2.2.1, y.2.1.2.2.2.1, y.2.1.2.2.2.2), y.2.2.1, y.2.2.2.1, y.2.2.2.2.1, y.2.2.2.2.2.1, y.2.2.2.2.2.2.1, y.2.2.2.2.2.2.2.1, y.2.2.2.2.2.2.2.2) := hok2
      obtain ⟨b, hb⟩ : ∃ b, eqP (x.1, (x.2.1.1, x.2.1.2.1, x.2.1.2.2.1, x.2.1.2.2.2.1, x.2.1.2.2.2.2), x.2.2.1, x.2.2.2.1, x.2.2.2.2.1, x.2.2.2.2.2.1, x.2.2.2.2.2.2.1, x.2.2.2.2.2.2.2.1, x.2.2.2.2.2.2.2.2) (y.1, (y.2.1.1, y.2.1.2.1, y.2.1.2.2.1, y.2.1.2.2.2.1, y.2.1.2.2.2.2), y.2.2.1, y.2.2.2.1, y.2.2.2.2.1, y.2.2.2.2.2.1, y.2.2.2.2.2.2.1, y.2.2.2.2.2.2.2.1, y.2.2.2.2.2.2.2.2) = b := ⟨_, rfl⟩
      replace hxx := Lib.hid hxx
      replace hyy := Lib.hid hyy
      replace hx1 := Lib.hid hx1
      replace hy1 := Lib.hid hy1
      go_wp2_with (fail)
      clear z0 z1 z2 z3 z4 z5 zf0 zf1 zf2 zf3 zf4 zf5
      refine wp_region_noPanic ?_
      refine wp_region_held_drew (S := fun w' => Bk w' w.heap.size #[.int .i64 k, .int .i64 s, .slice (some ad) n c1, .slice A2 m c2, .int .u64 g, .int .u64 p] 53 ∧ Bk w' (w.heap.size + 1) #[.int .i64 k, .int .i64 s, .slice (some bd) n d1, .slice B2 m d2, .int .u64 g, .int .u64 p] 53 ∧ Below w.heap.size w w') (by kernel_rfl) (⟨bk_drew hx1.out, bk_drew hy1.out, bl_drew hBw⟩) (fun hHeld => ?_)
      refine wpAnyH_take (i := 0) (oi := { dst := some 57, op := Go.Op.fieldAddr 53 (Go.Operand.tmp 2) 2, type := 0, pos := "ref.go:19", after := #[], guard := none }) (v := ?_) rfl (by kernel_rfl) (by kernel_rfl) (by kernel_rfl) (fun _ _ _ h => h) (Or.inl ⟨by rfl, ?_⟩) (by assumption) ?_
      rotate_left 1
      · intro w' hSw
        first | (go_simp; done) | (go_simp; with_reducible rfl)
      try simp only [Act.put, List.getElem_toArray, List.getElem_cons_succ, List.getElem_cons_zero, List.setIfInBounds_toArray, List.set_cons_zero, List.set_cons_succ]
      refine wpAnyH_take (i := 1) (oi := { dst := some 58, op := Go.Op.load 43 (Go.Operand.tmp 57), type := 43, pos := "ref.go:19", after := #[{ on := 0, ground := Go.Ground.data }], guard := none }) (v := ?_) rfl (by kernel_rfl) (by kernel_rfl) (by kernel_rfl) (fun _ _ _ h => h) (Or.inl ⟨by rfl, ?_⟩) (by assumption) ?_
      rotate_left 1
      · intro w' hSw
        obtain ⟨z0, z1, z2, z3, z4, z5, zf0, zf1, zf2, zf3, zf4, zf5⟩ := cells6 hSw.1
        first | (go_simp; done) | (go_simp; with_reducible rfl)
      try simp only [Act.put, List.getElem_toArray, List.getElem_cons_succ, List.getElem_cons_zero, List.setIfInBounds_toArray, List.set_cons_zero, List.set_cons_succ]
      refine wpAnyH_take (i := 2) (oi := { dst := some 59, op := Go.Op.move (Go.Operand.tmp 5), type := 3, pos := "ref.go:19", after := #[], guard := none }) (v := ?_) rfl (by kernel_rfl) (by kernel_rfl) (by kernel_rfl) (fun _ _ _ h => h) (Or.inl ⟨by rfl, ?_⟩) (by assumption) ?_
      rotate_left 1
      · intro w' hSw
        first | (go_simp; done) | (go_simp; with_reducible rfl)
      try simp only [Act.put, List.getElem_toArray, List.getElem_cons_succ, List.getElem_cons_zero, List.setIfInBounds_toArray, List.set_cons_zero, List.set_cons_succ]
      refine wpAnyH_take (i := 3) (oi := { dst := some 60, op := Go.Op.indexAddr 43 (Go.Operand.tmp 58) (Go.Operand.tmp 59), type := 0, pos := "ref.go:19", after := #[{ on := 1, ground := Go.Ground.data }, { on := 2, ground := Go.Ground.data }], guard := none }) (v := ?_) rfl (by kernel_rfl) (by kernel_rfl) (by kernel_rfl) (fun _ _ _ h => h) (Or.inl ⟨by rfl, ?_⟩) (by assumption) ?_
      rotate_left 1
      · intro w' hSw
        first | (go_simp; done) | (go_simp; with_reducible rfl)
      try simp only [Act.put, List.getElem_toArray, List.getElem_cons_succ, List.getElem_cons_zero, List.setIfInBounds_toArray, List.set_cons_zero, List.set_cons_succ]
      refine wpAnyH_take (i := 4) (oi := { dst := some 61, op := Go.Op.load 28 (Go.Operand.tmp 60), type := 28, pos := "ref.go:19", after := #[{ on := 3, ground := Go.Ground.data }], guard := none }) (v := ?_) rfl (by kernel_rfl) (by kernel_rfl) (by kernel_rfl) (fun _ _ _ h => h) (Or.inl ⟨by rfl, ?_⟩) (by assumption) ?_
      rotate_left 1
      · intro w' hSw
        obtain ⟨c0, c1, c2, c3, c4, c5, c6, c7, c8, c9, c10, c11, c12⟩ := pol_cellsAt (hrow.far hSw.2.2)
        first | (go_simp; done) | (go_simp; with_reducible rfl)
      try simp only [Act.put, List.getElem_toArray, List.getElem_cons_succ, List.getElem_cons_zero, List.setIfInBounds_toArray, List.set_cons_zero, List.set_cons_succ]
      refine wpAnyH_take (i := 5) (oi := { dst := some 62, op := Go.Op.fieldAddr 53 (Go.Operand.tmp 3) 2, type := 0, pos := "ref.go:19", after := #[], guard := none }) (v := ?_) rfl (by kernel_rfl) (by kernel_rfl) (by kernel_rfl) (fun _ _ _ h => h) (Or.inl ⟨by rfl, ?_⟩) (by assumption) ?_
      rotate_left 1
      · intro w' hSw
        first | (go_simp; done) | (go_simp; with_reducible rfl)
      try simp only [Act.put, List.getElem_toArray, List.getElem_cons_succ, List.getElem_cons_zero, List.setIfInBounds_toArray, List.set_cons_zero, List.set_cons_succ]
      refine wpAnyH_take (i := 6) (oi := { dst := some 63, op := Go.Op.load 43 (Go.Operand.tmp 62), type := 43, pos := "ref.go:19", after := #[{ on := 5, ground := Go.Ground.data }], guard := none }) (v := ?_) rfl (by kernel_rfl) (by kernel_rfl) (by kernel_rfl) (fun _ _ _ h => h) (Or.inl ⟨by rfl, ?_⟩) (by assumption) ?_
      rotate_left 1
      · intro w' hSw
        obtain ⟨z0, z1, z2, z3, z4, z5, zf0, zf1, zf2, zf3, zf4, zf5⟩ := cells6 hSw.2.1
        first | (go_simp; done) | (go_simp; with_reducible rfl)
      try simp only [Act.put, List.getElem_toArray, List.getElem_cons_succ, List.getElem_cons_zero, List.setIfInBounds_toArray, List.set_cons_zero, List.set_cons_succ]
      refine wpAnyH_take (i := 7) (oi := { dst := some 64, op := Go.Op.move (Go.Operand.tmp 5), type := 3, pos := "ref.go:19", after := #[], guard := none }) (v := ?_) rfl (by kernel_rfl) (by kernel_rfl) (by kernel_rfl) (fun _ _ _ h => h) (Or.inl ⟨by rfl, ?_⟩) (by assumption) ?_
      rotate_left 1
      · intro w' hSw
        first | (go_simp; done) | (go_simp; with_reducible rfl)
      try simp only [Act.put, List.getElem_toArray, List.getElem_cons_succ, List.getElem_cons_zero, List.setIfInBounds_toArray, List.set_cons_zero, List.set_cons_succ]
      refine wpAnyH_take (i := 8) (oi := { dst := some 65, op := Go.Op.indexAddr 43 (Go.Operand.tmp 63) (Go.Operand.tmp 64), type := 0, pos := "ref.go:19", after := #[{ on := 6, ground := Go.Ground.data }, { on := 7, ground := Go.Ground.data }], guard := none }) (v := ?_) rfl (by kernel_rfl) (by kernel_rfl) (by kernel_rfl) (fun _ _ _ h => h) (Or.inl ⟨by rfl, ?_⟩) (by assumption) ?_
      rotate_left 1
      · intro w' hSw
        first | (go_simp; done) | (go_simp; with_reducible rfl)
      try simp only [Act.put, List.getElem_toArray, List.getElem_cons_succ, List.getElem_cons_zero, List.setIfInBounds_toArray, List.set_cons_zero, List.set_cons_succ]
      refine wpAnyH_take (i := 9) (oi := { dst := some 66, op := Go.Op.load 28 (Go.Operand.tmp 65), type := 28, pos := "ref.go:19", after := #[{ on := 8, ground := Go.Ground.data }], guard := none }) (v := ?_) rfl (by kernel_rfl) (by kernel_rfl) (by kernel_rfl) (fun _ _ _ h => h) (Or.inl ⟨by rfl, ?_⟩) (by assumption) ?_
      rotate_left 1
      · intro w' hSw
        obtain ⟨c0, c1, c2, c3, c4, c5, c6, c7, c8, c9, c10, c11, c12⟩ := pol_cellsAt (hrow2.far hSw.2.2)
        first | (go_simp; done) | (go_simp; with_reducible rfl)
      try simp only [Act.put, List.getElem_toArray, List.getElem_cons_succ, List.getElem_cons_zero, List.setIfInBounds_toArray, List.set_cons_zero, List.set_cons_succ]
      refine wpAnyH_take (i := 10) (oi := { dst := some 67, op := Go.Op.binOp Go.BinOp.neq 28 (Go.Operand.tmp 61) (Go.Operand.tmp 66) 28, type := 4, pos := "ref.go:19", after := #[{ on := 4, ground := Go.Ground.data }, { on := 9, ground := Go.Ground.data }], guard := none }) (v := ?_) rfl (by kernel_rfl) (by kernel_rfl) (by kernel_rfl) (fun _ _ _ h => h) (Or.inl ⟨by rfl, ?_⟩) (by assumption) ?_
      rotate_left 1
      · intro w' hSw
        first | (go_simp; done) | (go_simp; with_reducible rfl)
      try simp only [Act.put, List.getElem_toArray, List.getElem_cons_succ, List.getElem_cons_zero, List.setIfInBounds_toArray, List.set_cons_zero, List.set_cons_succ]
      refine wpAnyH_done (by kernel_rfl) ?_ _
      refine NoPanic.normal ?_
      cases b with
      | true =>
        have hxy : ps.getD i zeroP = qs.getD i zeroP := by rw [hxx.out, hyy.out]; exact eqP_iff'.1 hb
        replace hxy := Lib.hid hxy
        go_wp2
        refine ⟨⟨i + 1, by first | rfl | (congr 1; omega), by omega, fun j hj => ?_, bl_drew hBl⟩, by simp [intOf]; omega⟩
        rcases Nat.lt_or_ge j i with h | h
        · exact hgd.out j h
        · obtain rfl : j = i := by omega
          exact hxy.out
      | false =>
        have hv : V = false := by
          rw [← hV.out]
          refine decide_eq_false (fun h => ?_)
          have : x = y := by rw [← hxx.out, ← hyy.out, h.1]
          rw [eqP_iff'.2 this] at hb
          cases hb
        subst hv
        go_wp2
        go_ret
        exact ⟨rfl, hHeld.2.2⟩
    · have hkl2 : decide ((i : Int) < (n : Int)) = false := decide_eq_false (by omega)
      have hin : i = n := by omega
      have hpq : ps = qs := ext_getD zeroP (hn.out.trans hn'.out.symm) (fun j hj => hgd.out j (by have := hn.out; omega))
      clear hin
      replace hpq := Lib.hid hpq
      go_wp2_with (fail)
      clear z0 z1 z2 z3 z4 z5 zf0 zf1 zf2 zf3 zf4 zf5
      go_loopw [72] (fun v wr => ∃ i : Nat, v = .int .i64 i ∧ i ≤ m ∧ (∀ j, j < i → ds.getD j 0 = fs.getD j 0) ∧ Below ((w.alloc (.cells #[.int .i64 k, .int .i64 s, .slice A1 n c1, .slice A2 m c2, .int .u64 g, .int .u64 p] 53)).alloc (.cells #[.int .i64 k, .int .i64 s, .slice B1 n d1, .slice B2 m d2, .int .u64 g, .int .u64 p] 53)).heap.size ((w.alloc (.cells #[.int .i64 k, .int .i64 s, .slice A1 n c1, .slice A2 m c2, .int .u64 g, .int .u64 p] 53)).alloc (.cells #[.int .i64 k, .int .i64 s, .slice B1 n d1, .slice B2 m d2, .int .u64 g, .int .u64 p] 53)) wr) (fun v _ => m - (intOf v).toNat)
      case atStart => exact ⟨0, rfl, Nat.zero_le _, fun i hi => absurd hi (by omega), hBl⟩
      case round =>
        obtain ⟨i, rfl, hi2, hgd2, hBl2⟩ := hrel
        replace hgd2 := Lib.hid hgd2
        have hx2 := Lib.hid (bk_below hBl2 hx.out)
        have hy2 := Lib.hid (bk_below hBl2 hy.out)
        have hBw2 := bl_then hB.out hBl2
        by_cases hkl : i < m
        · have hkl3 : decide ((i : Int) < (m : Int)) = true := decide_eq_true (by omega)
          have hk1 : (i : Int) < (m : Int) := by omega
          have hk2 : decide ((i : Int) < 0) = false := decide_eq_false (by omega)
          have hk3 : decide ((m : Int) ≤ (i : Int)) = false := decide_eq_false (by omega)
          have hk4 : decide (m ≤ i) = false := decide_eq_false (by omega)
          have hk5 : (i : Int) < (m : Int) := by omega
          have hk6 : decide (m ≤ i) = false := decide_eq_false (by omega)
          obtain ⟨ad, rfl, hrow⟩ : ∃ ad, A2 = some ad ∧ ∀ w', Below w.heap.size w w' → w'.cell? (ad.add i) = some (.int .i64 (ds.getD i 0)) := by
            obtain ⟨ad, e, hc⟩ := hd.out.2.2 (by omega)
            exact ⟨ad, e, fun w' hB => cl_far hB (hc i hkl)⟩
          obtain ⟨bd, rfl, hrow2⟩ : ∃ ad, B2 = some ad ∧ ∀ w', Below w.heap.size w w' → w'.cell? (ad.add i) = some (.int .i64 (fs.getD i 0)) := by
            obtain ⟨ad, e, hc⟩ := hf.out.2.2 (by omega)
            exact ⟨ad, e, fun w' hB => cl_far hB (hc i hkl)⟩
          obtain ⟨x, hxx⟩ : ∃ x, ds.getD i 0 = x := ⟨_, rfl⟩
          obtain ⟨y, hyy⟩ : ∃ y, fs.getD i 0 = y := ⟨_, rfl⟩
          rw [hxx] at hrow
          rw [hyy] at hrow2
          replace hxx := Lib.hid hxx
          replace hyy := Lib.hid hyy
          go_wp2_with (fail)
          by_cases hxy : x = y
          · subst hxy
            refine wp_region_noPanic ?_
            refine wp_region_held_drew (S := fun w' => Bk w' w.heap.size #[.int .i64 k, .int .i64 s, .slice A1 n c1, .slice (some ad) m c2, .int .u64 g, .int .u64 p] 53 ∧ Bk w' (w.heap.size + 1) #[.int .i64 k, .int .i64 s, .slice B1 n d1, .slice (some bd) m d2, .int .u64 g, .int .u64 p] 53 ∧ Below w.heap.size w w') (by kernel_rfl) (⟨bk_drew hx2.out, bk_drew hy2.out, bl_drew hBw2⟩) (fun hHeld => ?_)
            refine wpAnyH_take (i := 0) (oi := { dst := some 75, op := Go.Op.fieldAddr 53 (Go.Operand.tmp 2) 3, type := 0, pos := "ref.go:24", after := #[], guard := none }) (v := ?_) rfl (by kernel_rfl) (by kernel_rfl) (by kernel_rfl) (fun _ _ _ h => h) (Or.inl ⟨by rfl, ?_⟩) (by assumption) ?_
            rotate_left 1
            · intro w' hSw
              first | (go_simp; done) | (go_simp; with_reducible rfl)
            try simp only [Act.put, List.getElem_toArray, List.getElem_cons_succ, List.getElem_cons_zero, List.setIfInBounds_toArray, List.set_cons_zero, List.set_cons_succ]
            refine wpAnyH_take (i := 1) (oi := { dst := some 76, op := Go.Op.load 51 (Go.Operand.tmp 75), type := 51, pos := "ref.go:24", after := #[{ on := 0, ground := Go.Ground.data }], guard := none }) (v := ?_) rfl (by kernel_rfl) (by kernel_rfl) (by kernel_rfl) (fun _ _ _ h => h) (Or.inl ⟨by rfl, ?_⟩) (by assumption) ?_
            rotate_left 1
            · intro w' hSw
              obtain ⟨z0, z1, z2, z3, z4, z5, zf0, zf1, zf2, zf3, zf4, zf5⟩ := cells6 hSw.1
              first | (go_simp; done) | (go_simp; with_reducible rfl)
            try simp only [Act.put, List.getElem_toArray, List.getElem_cons_succ, List.getElem_cons_zero, List.setIfInBounds_toArray, List.set_cons_zero, List.set_cons_succ]
            refine wpAnyH_take (i := 2) (oi := { dst := some 77, op := Go.Op.move (Go.Operand.tmp 6), type := 3, pos := "ref.go:24", after := #[], guard := none }) (v := ?_) rfl (by kernel_rfl) (by kernel_rfl) (by kernel_rfl) (fun _ _ _ h => h) (Or.inl ⟨by rfl, ?_⟩) (by assumption) ?_
            rotate_left 1
            · intro w' hSw
              first | (go_simp; done) | (go_simp; with_reducible rfl)
            try simp only [Act.put, List.getElem_toArray, List.getElem_cons_succ, List.getElem_cons_zero, List.setIfInBounds_toArray, List.set_cons_zero, List.set_cons_succ]
            refine wpAnyH_take (i := 3) (oi := { dst := some 78, op := Go.Op.indexAddr 51 (Go.Operand.tmp 76) (Go.Operand.tmp 77), type := 0, pos := "ref.go:24", after := #[{ on := 1, ground := Go.Ground.data }, { on := 2, ground := Go.Ground.data }], guard := none }) (v := ?_) rfl (by kernel_rfl) (by kernel_rfl) (by kernel_rfl) (fun _ _ _ h => h) (Or.inl ⟨by rfl, ?_⟩) (by assumption) ?_
            rotate_left 1
            · intro w' hSw
              first | (go_simp; done) | (go_simp; with_reducible rfl)
            try simp only [Act.put, List.getElem_toArray, List.getElem_cons_succ, List.getElem_cons_zero, List.setIfInBounds_toArray, List.set_cons_zero, List.set_cons_succ]
            refine wpAnyH_take (i := 4) (oi := { dst := some 79, op := Go.Op.load 3 (Go.Operand.tmp 78), type := 3, pos := "ref.go:24", after := #[{ on := 3, ground := Go.Ground.data }], guard := none }) (v := ?_) rfl (by kernel_rfl) (by kernel_rfl) (by kernel_rfl) (fun _ _ _ h => h) (Or.inl ⟨by rfl, ?_⟩) (by assumption) ?_
            rotate_left 1
            · intro w' hSw
              have c0 := hrow _ hSw.2.2
              first | (go_simp; done) | (go_simp; with_reducible rfl)
            try simp only [Act.put, List.getElem_toArray, List.getElem_cons_succ, List.getElem_cons_zero, List.setIfInBounds_toArray, List.set_cons_zero, List.set_cons_succ]
            refine wpAnyH_take (i := 5) (oi := { dst := some 80, op := Go.Op.fieldAddr 53 (Go.Operand.tmp 3) 3, type := 0, pos := "ref.go:24", after := #[], guard := none }) (v := ?_) rfl (by kernel_rfl) (by kernel_rfl) (by kernel_rfl) (fun _ _ _ h => h) (Or.inl ⟨by rfl, ?_⟩) (by assumption) ?_
            rotate_left 1
            · intro w' hSw
              first | (go_simp; done) | (go_simp; with_reducible rfl)
            try simp only [Act.put, List.getElem_toArray, List.getElem_cons_succ, List.getElem_cons_zero, List.setIfInBounds_toArray, List.set_cons_zero, List.set_cons_succ]
            refine wpAnyH_take (i := 6) (oi := { dst := some 81, op := Go.Op.load 51 (Go.Operand.tmp 80), type := 51, pos := "ref.go:24", after := #[{ on := 5, ground := Go.Ground.data }], guard := none }) (v := ?_) rfl (by kernel_rfl) (by kernel_rfl) (by kernel_rfl) (fun _ _ _ h => h) (Or.inl ⟨by rfl, ?_⟩) (by assumption) ?_
            rotate_left 1
            · intro w' hSw
              obtain ⟨z0, z1, z2, z3, z4, z5, zf0, zf1, zf2, zf3, zf4, zf5⟩ := cells6 hSw.2.1
              first | (go_simp; done) | (go_simp; with_reducible rfl)
            try simp only [Act.put, List.getElem_toArray, List.getElem_cons_succ, List.getElem_cons_zero, List.setIfInBounds_toArray, List.set_cons_zero, List.set_cons_succ]
            refine wpAnyH_take (i := 7) (oi := { dst := some 82, op := Go.Op.move (Go.Operand.tmp 6), type := 3, pos := "ref.go:24", after := #[], guard := none }) (v := ?_) rfl (by kernel_rfl) (by kernel_rfl) (by kernel_rfl) (fun _ _ _ h => h) (Or.inl ⟨by rfl, ?_⟩) (by assumption) ?_
            rotate_left 1
            · intro w' hSw
              first | (go_simp; done) | (go_simp; with_reducible rfl)
            try simp only [Act.put, List.getElem_toArray, List.getElem_cons_succ, List.getElem_cons_zero, List.setIfInBounds_toArray, List.set_cons_zero, List.set_cons_succ]
            refine wpAnyH_take (i := 8) (oi := { dst := some 83, op := Go.Op.indexAddr 51 (Go.Operand.tmp 81) (Go.Operand.tmp 82), type := 0, pos := "ref.go:24", after := #[{ on := 6, ground := Go.Ground.data }, { on := 7, ground := Go.Ground.data }], guard := none }) (v := ?_) rfl (by kernel_rfl) (by kernel_rfl) (by kernel_rfl) (fun _ _ _ h => h) (Or.inl ⟨by rfl, ?_⟩) (by assumption) ?_
            rotate_left 1
            · intro w' hSw
              first | (go_simp; done) | (go_simp; with_reducible rfl)
            try simp only [Act.put, List.getElem_toArray, List.getElem_cons_succ, List.getElem_cons_zero, List.setIfInBounds_toArray, List.set_cons_zero, List.set_cons_succ]
            refine wpAnyH_take (i := 9) (oi := { dst := some 84, op := Go.Op.load 3 (Go.Operand.tmp 83), type := 3, pos := "ref.go:24", after := #[{ on := 8, ground := Go.Ground.data }], guard := none }) (v := ?_) rfl (by kernel_rfl) (by kernel_rfl) (by kernel_rfl) (fun _ _ _ h => h) (Or.inl ⟨by rfl, ?_⟩) (by assumption) ?_
            rotate_left 1
            · intro w' hSw
              have c0 := hrow2 _ hSw.2.2
              first | (go_simp; done) | (go_simp; with_reducible rfl)
            try simp only [Act.put, List.getElem_toArray, List.getElem_cons_succ, List.getElem_cons_zero, List.setIfInBounds_toArray, List.set_cons_zero, List.set_cons_succ]
            refine wpAnyH_take (i := 10) (oi := { dst := some 85, op := Go.Op.binOp Go.BinOp.neq 3 (Go.Operand.tmp 79) (Go.Operand.tmp 84) 3, type := 4, pos := "ref.go:24", after := #[{ on := 4, ground := Go.Ground.data }, { on := 9, ground := Go.Ground.data }], guard := none }) (v := ?_) rfl (by kernel_rfl) (by kernel_rfl) (by kernel_rfl) (fun _ _ _ h => h) (Or.inl ⟨by rfl, ?_⟩) (by assumption) ?_
            rotate_left 1
            · intro w' hSw
              first | (go_simp; done) | (go_simp; with_reducible rfl)
            try simp only [Act.put, List.getElem_toArray, List.getElem_cons_succ, List.getElem_cons_zero, List.setIfInBounds_toArray, List.set_cons_zero, List.set_cons_succ]
            refine wpAnyH_done (by kernel_rfl) ?_ _
            refine NoPanic.normal ?_
            have hxy : ds.getD i 0 = fs.getD i 0 := by rw [hxx.out, hyy.out]
            replace hxy := Lib.hid hxy
            go_wp2
            refine ⟨⟨i + 1, by first | rfl | (congr 1; omega), by omega, fun j hj => ?_, bl_drew hBl2⟩, by simp [intOf]; omega⟩
            rcases Nat.lt_or_ge j i with h | h
            · exact hgd2.out j h
            · obtain rfl : j = i := by omega
              exact hxy.out
          · have hne : (x != y) = true := by simp [hxy]
            have hv : V = false := by
              rw [← hV.out]
              refine decide_eq_false (fun h => hxy ?_)
              rw [← hxx.out, ← hyy.out, h.2]
            subst hv
            refine wp_region_noPanic ?_
            refine wp_region_held_drew (S := fun w' => Bk w' w.heap.size #[.int .i64 k, .int .i64 s, .slice A1 n c1, .slice (some ad) m c2, .int .u64 g, .int .u64 p] 53 ∧ Bk w' (w.heap.size + 1) #[.int .i64 k, .int .i64 s, .slice B1 n d1, .slice (some bd) m d2, .int .u64 g, .int .u64 p] 53 ∧ Below w.heap.size w w') (by kernel_rfl) (⟨bk_drew hx2.out, bk_drew hy2.out, bl_drew hBw2⟩) (fun hHeld => ?_)
            refine wpAnyH_take (i := 0) (oi := { dst := some 75, op := Go.Op.fieldAddr 53 (Go.Operand.tmp 2) 3, type := 0, pos := "ref.go:24", after := #[], guard := none }) (v := ?_) rfl (by kernel_rfl) (by kernel_rfl) (by kernel_rfl) (fun _ _ _ h => h) (Or.inl ⟨by rfl, ?_⟩) (by assumption) ?_
            rotate_left 1
            · intro w' hSw
              first | (go_simp; done) | (go_simp; with_reducible rfl)
            try simp only [Act.put, List.getElem_toArray, List.getElem_cons_succ, List.getElem_cons_zero, List.setIfInBounds_toArray, List.set_cons_zero, List.set_cons_succ]
            refine wpAnyH_take (i := 1) (oi := { dst := some 76, op := Go.Op.load 51 (Go.Operand.tmp 75), type := 51, pos := "ref.go:24", after := #[{ on := 0, ground := Go.Ground.data }], guard := none }) (v := ?_) rfl (by kernel_rfl) (by kernel_rfl) (by kernel_rfl) (fun _ _ _ h => h) (Or.inl ⟨by rfl, ?_⟩) (by assumption) ?_
            rotate_left 1
            · intro w' hSw
              obtain ⟨z0, z1, z2, z3, z4, z5, zf0, zf1, zf2, zf3, zf4, zf5⟩ := cells6 hSw.1
              first | (go_simp; done) | (go_simp; with_reducible rfl)
            try simp only [Act.put, List.getElem_toArray, List.getElem_cons_succ, List.getElem_cons_zero, List.setIfInBounds_toArray, List.set_cons_zero, List.set_cons_succ]
            refine wpAnyH_take (i := 2) (oi := { dst := some 77, op := Go.Op.move (Go.Operand.tmp 6), type := 3, pos := "ref.go:24", after := #[], guard := none }) (v := ?_) rfl (by kernel_rfl) (by kernel_rfl) (by kernel_rfl) (fun _ _ _ h => h) (Or.inl ⟨by rfl, ?_⟩) (by assumption) ?_
            rotate_left 1
            · intro w' hSw
              first | (go_simp; done) | (go_simp; with_reducible rfl)
            try simp only [Act.put, List.getElem_toArray, List.getElem_cons_succ, List.getElem_cons_zero, List.setIfInBounds_toArray, List.set_cons_zero, List.set_cons_succ]
            refine wpAnyH_take (i := 3) (oi := { dst := some 78, op := Go.Op.indexAddr 51 (Go.Operand.tmp 76) (Go.Operand.tmp 77), type := 0, pos := "ref.go:24", after := #[{ on := 1, ground := Go.Ground.data }, { on := 2, ground := Go.Ground.data }], guard := none }) (v := ?_) rfl (by kernel_rfl) (by kernel_rfl) (by kernel_rfl) (fun _ _ _ h => h) (Or.inl ⟨by rfl, ?_⟩) (by assumption) ?_
            rotate_left 1
            · intro w' hSw
              first | (go_simp; done) | (go_simp; with_reducible rfl)
            try simp only [Act.put, List.getElem_toArray, List.getElem_cons_succ, List.getElem_cons_zero, List.setIfInBounds_toArray, List.set_cons_zero, List.set_cons_succ]
            refine wpAnyH_take (i := 4) (oi := { dst := some 79, op := Go.Op.load 3 (Go.Operand.tmp 78), type := 3, pos := "ref.go:24", after := #[{ on := 3, ground := Go.Ground.data }], guard := none }) (v := ?_) rfl (by kernel_rfl) (by kernel_rfl) (by kernel_rfl) (fun _ _ _ h => h) (Or.inl ⟨by rfl, ?_⟩) (by assumption) ?_
            rotate_left 1
            · intro w' hSw
              have c0 := hrow _ hSw.2.2
              first | (go_simp; done) | (go_simp; with_reducible rfl)
            try simp only [Act.put, List.getElem_toArray, List.getElem_cons_succ, List.getElem_cons_zero, List.setIfInBounds_toArray, List.set_cons_zero, List.set_cons_succ]
            refine wpAnyH_take (i := 5) (oi := { dst := some 80, op := Go.Op.fieldAddr 53 (Go.Operand.tmp 3) 3, type := 0, pos := "ref.go:24", after := #[], guard := none }) (v := ?_) rfl (by kernel_rfl) (by kernel_rfl) (by kernel_rfl) (fun _ _ _ h => h) (Or.inl ⟨by rfl, ?_⟩) (by assumption) ?_
            rotate_left 1
            · intro w' hSw
              first | (go_simp; done) | (go_simp; with_reducible rfl)
            try simp only [Act.put, List.getElem_toArray, List.getElem_cons_succ, List.getElem_cons_zero, List.setIfInBounds_toArray, List.set_cons_zero, List.set_cons_succ]
            refine wpAnyH_take (i := 6) (oi := { dst := some 81, op := Go.Op.load 51 (Go.Operand.tmp 80), type := 51, pos := "ref.go:24", after := #[{ on := 5, ground := Go.Ground.data }], guard := none }) (v := ?_) rfl (by kernel_rfl) (by kernel_rfl) (by kernel_rfl) (fun _ _ _ h => h) (Or.inl ⟨by rfl, ?_⟩) (by assumption) ?_
            rotate_left 1
            · intro w' hSw
              obtain ⟨z0, z1, z2, z3, z4, z5, zf0, zf1, zf2, zf3, zf4, zf5⟩ := cells6 hSw.2.1
              first | (go_simp; done) | (go_simp; with_reducible rfl)
            try simp only [Act.put, List.getElem_toArray, List.getElem_cons_succ, List.getElem_cons_zero, List.setIfInBounds_toArray, List.set_cons_zero, List.set_cons_succ]
            refine wpAnyH_take (i := 7) (oi := { dst := some 82, op := Go.Op.move (Go.Operand.tmp 6), type := 3, pos := "ref.go:24", after := #[], guard := none }) (v := ?_) rfl (by kernel_rfl) (by kernel_rfl) (by kernel_rfl) (fun _ _ _ h => h) (Or.inl ⟨by rfl, ?_⟩) (by assumption) ?_
            rotate_left 1
            · intro w' hSw
              first | (go_simp; done) | (go_simp; with_reducible rfl)
            try simp only [Act.put, List.getElem_toArray, List.getElem_cons_succ, List.getElem_cons_zero, List.setIfInBounds_toArray, List.set_cons_zero, List.set_cons_succ]
            refine wpAnyH_take (i := 8) (oi := { dst := some 83, op := Go.Op.indexAddr 51 (Go.Operand.tmp 81) (Go.Operand.tmp 82), type := 0, pos := "ref.go:24", after := #[{ on := 6, ground := Go.Ground.data }, { on := 7, ground := Go.Ground.data }], guard := none }) (v := ?_) rfl (by kernel_rfl) (by kernel_rfl) (by kernel_rfl) (fun _ _ _ h => h) (Or.inl ⟨by rfl, ?_⟩) (by assumption) ?_
            rotate_left 1
            · intro w' hSw
              first | (go_simp; done) | (go_simp; with_reducible rfl)
            try simp only [Act.put, List.getElem_toArray, List.getElem_cons_succ, List.getElem_cons_zero, List.setIfInBounds_toArray, List.set_cons_zero, List.set_cons_succ]
            refine wpAnyH_take (i := 9) (oi := { dst := some 84, op := Go.Op.load 3 (Go.Operand.tmp 83), type := 3, pos := "ref.go:24", after := #[{ on := 8, ground := Go.Ground.data }], guard := none }) (v := ?_) rfl (by kernel_rfl) (by kernel_rfl) (by kernel_rfl) (fun _ _ _ h => h) (Or.inl ⟨by rfl, ?_⟩) (by assumption) ?_
            rotate_left 1
            · intro w' hSw
              have c0 := hrow2 _ hSw.2.2
              first | (go_simp; done) | (go_simp; with_reducible rfl)
            try simp only [Act.put, List.getElem_toArray, List.getElem_cons_succ, List.getElem_cons_zero, List.setIfInBounds_toArray, List.set_cons_zero, List.set_cons_succ]
            refine wpAnyH_take (i := 10) (oi := { dst := some 85, op := Go.Op.binOp Go.BinOp.neq 3 (Go.Operand.tmp 79) (Go.Operand.tmp 84) 3, type := 4, pos := "ref.go:24", after := #[{ on := 4, ground := Go.Ground.data }, { on := 9, ground := Go.Ground.data }], guard := none }) (v := ?_) rfl (by kernel_rfl) (by kernel_rfl) (by kernel_rfl) (fun _ _ _ h => h) (Or.inl ⟨by rfl, ?_⟩) (by assumption) ?_
            rotate_left 1
            · intro w' hSw
              first | (go_simp; done) | (go_simp; with_reducible rfl)
            try simp only [Act.put, List.getElem_toArray, List.getElem_cons_succ, List.getElem_cons_zero, List.setIfInBounds_toArray, List.set_cons_zero, List.set_cons_succ]
            refine wpAnyH_done (by kernel_rfl) ?_ _
            refine NoPanic.normal ?_
            go_wp2
            go_ret
            exact ⟨rfl, hHeld.2.2⟩
        · have hkl3 : decide ((i : Int) < (m : Int)) = false := decide_eq_false (by omega)
          obtain rfl : i = m := by omega
          have hv : V = true := by rw [← hV.out]; exact decide_eq_true ⟨hpq.out, ext_getD 0 (hm0.out.trans hm'.out.symm) (fun j hj => hgd2.out j (by rw [← hm0.out]; exact hj))⟩
          subst hv
          go_wp2
          go_ret
          exact ⟨rfl, hBw2⟩
set_option maxHeartbeats 1600000 in
theorem resame_dl (k s g p : Int) (A1 A2 B1 B2 : Option Addr) (c1 c2 d1 d2 : Nat) (w : World) (n n' m m' : Nat) (en : n = n') (em : m ≠ m') :
    Calls Try.prog 33 #[.agg #[.int .i64 k, .int .i64 s, .slice A1 n c1, .slice A2 m c2, .int .u64 g, .int .u64 p], .agg #[.int .i64 k, .int .i64 s, .slice B1 n' d1, .slice B2 m' d2, .int .u64 g, .int .u64 p]] w fun e w' => e = .returned (.bool false) ∧ Below w.heap.size w w' := by
  subst en
  have hB := bl_alloc (bl_alloc (Below.refl _ w) (.cells #[.int .i64 k, .int .i64 s, .slice A1 n c1, .slice A2 m c2, .int .u64 g, .int .u64 p] 53)) (.cells #[.int .i64 k, .int .i64 s, .slice B1 n d1, .slice B2 m' d2, .int .u64 g, .int .u64 p] 53)
  have hd2 : ((m : Int) != (m' : Int)) = true := by simp; omega
  replace hB := Lib.hid hB
  go_enter Try.func33, Try.ntmps33
  go_wp2
  go_ret
  exact ⟨rfl, hB.out⟩
set_option maxHeartbeats 3200000 in
theorem resame_any (k s g p k' s' g' p' : Int) (A1 A2 B1 B2 : Option Addr) (c1 c2 d1 d2 : Nat) (ps qs : List Pol) (ds fs : List Int) (w : World) (hp : PolsAt w A1 ps) (hq : PolsAt w B1 qs) (hd : ReadsInt w .i64 A2 ds.length ds) (hf : ReadsInt w .i64 B2 fs.length fs) (hm : ps.length ≤ 1000) (hm2 : ds.length ≤ 1000) :
    Calls Try.prog 33 #[.agg #[.int .i64 k, .int .i64 s, .slice A1 ps.length c1, .slice A2 ds.length c2, .int .u64 g, .int .u64 p], .agg #[.int .i64 k', .int .i64 s', .slice B1 qs.length d1, .slice B2 fs.length d2, .int .u64 g', .int .u64 p']] w fun e w' => e = .returned (.bool (sameE k s g p k' s' g' p' ps qs ds fs)) ∧ Below w.heap.size w w' := by
  have hx : Bk ((w.alloc (.cells #[.int .i64 k, .int .i64 s, .slice A1 ps.length c1, .slice A2 ds.length c2, .int .u64 g, .int .u64 p] 53)).alloc (.cells #[.int .i64 k', .int .i64 s', .slice B1 qs.length d1, .slice B2 fs.length d2, .int .u64 g', .int .u64 p'] 53)) w.heap.size #[.int .i64 k, .int .i64 s, .slice A1 ps.length c1, .slice A2 ds.length c2, .int .u64 g, .int .u64 p] 53 := bk_alloc (bk_new w #[.int .i64 k, .int .i64 s, .slice A1 ps.length c1, .slice A2 ds.length c2, .int .u64 g, .int .u64 p] 53) _
  have hy : Bk ((w.alloc (.cells #[.int .i64 k, .int .i64 s, .slice A1 ps.length c1, .slice A2 ds.length c2, .int .u64 g, .int .u64 p] 53)).alloc (.cells #[.int .i64 k', .int .i64 s', .slice B1 qs.length d1, .slice B2 fs.length d2, .int .u64 g', .int .u64 p'] 53)) (w.heap.size + 1) #[.int .i64 k', .int .i64 s', .slice B1 qs.length d1, .slice B2 fs.length d2, .int .u64 g', .int .u64 p'] 53 := bk_at (by simp)
  have hB := bl_alloc (bl_alloc (Below.refl _ w) (.cells #[.int .i64 k, .int .i64 s, .slice A1 ps.length c1, .slice A2 ds.length c2, .int .u64 g, .int .u64 p] 53)) (.cells #[.int .i64 k', .int .i64 s', .slice B1 qs.length d1, .slice B2 fs.length d2, .int .u64 g', .int .u64 p'] 53)
  obtain ⟨x0, x1, x2, x3, x4, x5, xf0, xf1, xf2, xf3, xf4, xf5⟩ := cells6 hx
  obtain ⟨y0, y1, y2, y3, y4, y5, yf0, yf1, yf2, yf3, yf4, yf5⟩ := cells6 hy
  obtain ⟨V, hV⟩ : ∃ V, sameE k s g p k' s' g' p' ps qs ds fs = V := ⟨_, rfl⟩
  rw [hV]
  unfold sameE at hV
  replace hV := Lib.hid hV
  replace hx := Lib.hid hx
  replace hy := Lib.hid hy
  replace hB := Lib.hid hB
  replace hp := Lib.hid hp
  replace hq := Lib.hid hq
  replace hd := Lib.hid hd
  replace hf := Lib.hid hf
  by_cases ek : k = k'
  rotate_left 1
  · have hv : V = false := by rw [← hV.out]; exact decide_eq_false (fun h => ek (by obtain ⟨h1, h2, h3, h4, _⟩ := h; assumption))
    have hd : decide (k = k') = false := decide_eq_false ek
    have hd2 : (k != k') = true := by simp [ek]
    subst hv
    go_enter Try.func33, Try.ntmps33
    go_wp2
    go_ret
    exact ⟨rfl, hB.out⟩
  subst ek
  by_cases es : s = s'
  rotate_left 1
  · have hv : V = false := by rw [← hV.out]; exact decide_eq_false (fun h => es (by obtain ⟨h1, h2, h3, h4, _⟩ := h; assumption))
    have hd : decide (s = s') = false := decide_eq_false es
    have hd2 : (s != s') = true := by simp [es]
    subst hv
    go_enter Try.func33, Try.ntmps33
    go_wp2
    go_ret
    exact ⟨rfl, hB.out⟩
  subst es
  by_cases eg : g = g'
  rotate_left 1
  · have hv : V = false := by rw [← hV.out]; exact decide_eq_false (fun h => eg (by obtain ⟨h1, h2, h3, h4, _⟩ := h; assumption))
    have hd : decide (g = g') = false := decide_eq_false eg
    have hd2 : (g != g') = true := by simp [eg]
    subst hv
    go_enter Try.func33, Try.ntmps33
    go_wp2
    go_ret
    exact ⟨rfl, hB.out⟩
  subst eg
  by_cases ep : p = p'
  rotate_left 1
  · have hv : V = false := by rw [← hV.out]; exact decide_eq_false (fun h => ep (by obtain ⟨h1, h2, h3, h4, _⟩ := h; assumption))
    have hd : decide (p = p') = false := decide_eq_false ep
    have hd2 : (p != p') = true := by simp [ep]
    subst hv
    go_enter Try.func33, Try.ntmps33
    go_wp2
    go_ret
    exact ⟨rfl, hB.out⟩
  subst ep
  by_cases epl : ps.length = qs.length
  rotate_left 1
  · have hv : V = false := by rw [← hV.out]; exact decide_eq_false (fun h => epl (by rw [h.2.2.2.2.1]))
    have hd2 : ((ps.length : Int) != (qs.length : Int)) = true := by simp; omega
    subst hv
    go_enter Try.func33, Try.ntmps33
    go_wp2
    go_ret
    exact ⟨rfl, hB.out⟩
  have epl := Lib.hid epl
  by_cases edl : ds.length = fs.length
  rotate_left 1
  · have hv : V = false := by rw [← hV.out]; exact decide_eq_false (fun h => edl (by rw [h.2.2.2.2.2]))
    have hh := resame_dl k s g p A1 A2 B1 B2 c1 c2 d1 d2 w ps.length qs.length ds.length fs.length epl.out edl
    rw [hv]
    exact hh
  replace edl := Lib.hid edl
  have hh := resame_eq k s g p A1 A2 B1 B2 c1 c2 d1 d2 ps qs ds fs w ps.length qs.length ds.length fs.length epl.out edl.out rfl rfl rfl rfl hp.out hq.out hd.out hf.out hm hm2
  have hVV : decide (ps = qs ∧ ds = fs) = V := by rw [← hV.out]; simp
  rw [hVV] at hh
  exact hh
end Go.Proofs.Ytfcekicjlgdmaaa
