/- The walk of BillTotals. -/
import Derived.Test.YtebeknnjjoobnaaDoorBi1
set_option linter.unusedVariables false
set_option linter.unusedSimpArgs false
set_option maxRecDepth 100000
namespace Go.Proofs.YtebeknnjjoobnaaDoor
open Go.RowKit Go.Sort Go.Lib Go.Shelf Go.Proofs Go.Proofs.YtebeknnjjoobnaaDoorW.PrintWords
attribute [local go_sem] max2_int min2_int max_two min_two
attribute [local go_sem ↓] eql_rw neq_rw

theorem total_at (A : Option Addr) (rows : List Rw) (cap : Nat) (V : Bv) (hV : totA rows = V) (w : World) (hA : RwAt w A rows) (hro : AllOk rows) (hl : rows.length ≤ 1000) :
    Calls Tryd.prog 17 #[.slice A rows.length cap] w fun e w' => e = .returned (.agg #[.int .i64 0, .int .u64 0, .int .u64 V.1, .int .u64 V.2.1, .int .u64 V.2.2.1, .int .u64 V.2.2.2]) ∧ Below w.heap.size w w' := by
  subst hV
  exact total_any A rows cap w hA hro hl
theorem plus_at (V B R : Bv) (hV : BvOk V) (hB : BvOk B) (hR : addV V B = R) (w : World) :
    Calls Tryd.prog 18 #[.agg #[.int .i64 0, .int .u64 0, .int .u64 V.1, .int .u64 V.2.1, .int .u64 V.2.2.1, .int .u64 V.2.2.2], .agg #[.int .i64 0, .int .u64 0, .int .u64 B.1, .int .u64 B.2.1, .int .u64 B.2.2.1, .int .u64 B.2.2.2]] w fun e w' => e = .returned (.agg #[.int .i64 0, .int .u64 0, .int .u64 R.1, .int .u64 R.2.1, .int .u64 R.2.2.1, .int .u64 R.2.2.2]) ∧ Below w.heap.size w w' := by
  subst hR
  exact rplus_any ((0, 0), V) ((0, 0), B) hV hB w
theorem key0 : KyOkT (0, 0) := ⟨⟨by decide, by decide⟩, ⟨by decide, by decide⟩⟩
theorem row0_ok {V : Bv} (h : BvOk V) : RwOk ((0, 0), (V.1, V.2.1, V.2.2.1, V.2.2.2)) := ⟨key0, h⟩
set_option maxHeartbeats 12800000 in
theorem totals_any (A B : Option Addr) (ca cx : Nat) (ms : List Mo) (b : List Rw) (w : World) (hA : MomIn w A ms) (hB : RwAt w B b) (hbo : AllOk b) (hb : b.length ≤ 60) :
    Calls Tryd.prog 7 #[.slice A ms.length ca, .slice B b.length cx] w fun e w' => e = .returned (.bool true) ∧ Below w.heap.size w w' := by
  have qb : decide ((60 : Int) < (b.length : Int)) = false := decide_eq_false (by omega)
  replace hA := Lib.hid hA
  replace hB := Lib.hid hB
  replace hbo := Lib.hid hbo
  replace hb := Lib.hid hb
  go_enter Tryd.func7, Tryd.ntmps7
  go_wp2_with (fail)
  refine (billAlive_any _).mono ?_; rintro e w1 ⟨rfl, hB1⟩
  go_wp2_with (fail)
  refine (great_any A ms ca _ (hA.out.below hB1)).mono ?_; rintro e w2 ⟨⟨G, rfl, hG⟩, hB2⟩
  have hBa := bl_then hB1 hB2
  clear hB1 hB2
  cases G with
  | true =>
    clear hG
    go_wp2
    go_ret
    exact ⟨rfl, hBa⟩
  | false =>
    obtain ⟨h300, hnb⟩ := hG rfl
    have hwt := want_tot ms hnb h300
    have hat := (hA.out.at_ hnb)
    have hms := hA.out.below hBa
    have hle := fun (i : Nat) => want_le (ms.take i) (fun m hm => hnb m (List.mem_of_mem_take hm))
    obtain ⟨N, hN⟩ : ∃ N, ms.length = N := ⟨_, rfl⟩
    rw [hN] at h300
    rw [hN]
    replace hN := Lib.hid hN
    replace hnb := Lib.hid hnb
    replace hwt := Lib.hid hwt
    replace hat := Lib.hid hat
    replace hms := Lib.hid hms
    replace hle := Lib.hid hle
    have hbk := bk_new w2 #[.int .i64 0, .int .u64 0, .int .u64 0, .int .u64 0, .int .u64 0, .int .u64 0] 32
    have hBb := bl_alloc hBa (.cells #[.int .i64 0, .int .u64 0, .int .u64 0, .int .u64 0, .int .u64 0, .int .u64 0] 32)
    have hg5 : w.heap.size ≤ w2.heap.size := hBa.size
    replace hbk := Lib.hid hbk
    replace hBb := Lib.hid hBb
    replace hBa := Lib.hid hBa
    clear hG
    go_wp2_with (fail)
    go_loopw [22] (fun v wr => ∃ i : Nat, v = .int .i64 i ∧ i ≤ N ∧ Bk wr w2.heap.size #[.int .i64 0, .int .u64 0, .int .u64 (wantV (ms.take i)).1, .int .u64 (wantV (ms.take i)).2.1, .int .u64 (wantV (ms.take i)).2.2.1, .int .u64 (wantV (ms.take i)).2.2.2] 32 ∧ Below w2.heap.size w2 wr) (fun v _ => N - (intOf v).toNat)
    case atStart => exact ⟨0, rfl, Nat.zero_le _, hbk.out, bl_alloc (Below.refl _ _) _⟩
    case round =>
      obtain ⟨i, rfl, hi, hx5, hBr⟩ := hrel
      by_cases hil : i < N
      · have hil2 : decide ((i : Int) < (N : Int)) = true := decide_eq_true (by omega)
        obtain ⟨_, ad, hAd, hmi⟩ := hms.out i (by rw [hN.out]; exact hil)
        have hstep := wantV_snoc (ms.take i) (ms.getD i zeroMo)
        rw [← take_snoc' zeroMo ms i (by rw [hN.out]; exact hil)] at hstep
        have hmb := hnb.out _ (getD_mem ms i zeroMo (by rw [hN.out]; exact hil))
        obtain ⟨⟨v1, v1'⟩, ⟨v2, v2'⟩, ⟨v3, v3'⟩, v4, v4'⟩ := hle.out i
        rw [List.length_take] at v1' v2' v3' v4'
        obtain ⟨m, hm⟩ : ∃ m, ms.getD i zeroMo = m := ⟨_, rfl⟩
        rw [hm] at hmi hstep hmb
        obtain ⟨⟨V1, V2, V3, V4⟩, hV⟩ : ∃ V, wantV (ms.take i) = V := ⟨_, rfl⟩
        rw [hV] at hx5 hstep v1 v1' v2 v2' v3 v3' v4 v4'
        dsimp only at hx5 v1 v1' v2 v2' v3 v3' v4 v4'
        unfold wantStep at hstep
        dsimp only at hstep
        have a1 : IntKind.u64.wrap (V1 + 1) = V1 + 1 := by rw [IntKind.wrap_u64]; omega
        have a2 : IntKind.u64.wrap (V2 + (m.nb : Int)) = V2 + m.nb := by rw [IntKind.wrap_u64]; omega
        have a3 : IntKind.u64.wrap (V3 + 1) = V3 + 1 := by rw [IntKind.wrap_u64]; omega
        have a4 : IntKind.u64.wrap (V4 + (m.nb : Int)) = V4 + m.nb := by rw [IntKind.wrap_u64]; omega
        have a5 : IntKind.u64.wrap (m.nb : Int) = m.nb := by rw [IntKind.wrap_u64]; omega
        obtain ⟨cs, f, Ab, Ai, cb, ni, ci, hlen, hrow, hone, p0, p19, p22, p23, p24, p25, p48, _⟩ := hmi
        have hrow := hrow.far hBr
        subst hAd
        replace hrow := Lib.hid hrow
        replace hone := Lib.hid hone
        replace hlen := Lib.hid hlen
        replace hstep := Lib.hid hstep
        replace hBr := Lib.hid hBr
        replace hx5 := Lib.hid hx5
        clear hm hV v1 v1' v2 v2' v3 v3' v4 v4' hmb
        go_upto_region 8 with (fail)
        go_cut [7] from 23 to 69 (fun v7 wx => v7 = .pointer (some ⟨wr.heap.size, 0, none⟩) ∧ wx.cell? ⟨wr.heap.size, 0, none⟩ = some (.int .i64 m.kind) ∧ wx.cell? ⟨wr.heap.size, 19, none⟩ = some (.int .i64 m.err) ∧ wx.cell? ⟨wr.heap.size, 22, none⟩ = some (.int .i64 m.sub) ∧ wx.cell? ⟨wr.heap.size, 23, none⟩ = some (.int .i64 m.tier) ∧ wx.cell? ⟨wr.heap.size, 24, none⟩ = some (.bool f) ∧ wx.cell? ⟨wr.heap.size, 25, none⟩ = some (.slice Ab m.nb cb) ∧ wx.cell? ⟨wr.heap.size, 48, none⟩ = some (.slice Ai ni ci) ∧ wr.heap.size < wx.heap.size ∧ Below wr.heap.size wr wx)
        case first =>
          refine wp_region_lit ?_
          refine wpList_plain rfl (fun K hK => ?_)
          go_simp
          refine hK _ _ ?_
          clear hK K
          try simp only [Act.put, List.getElem_toArray, List.getElem_cons_succ, List.getElem_cons_zero, List.setIfInBounds_toArray, List.set_cons_zero, List.set_cons_succ]
          refine wpList_load_at rfl 55 (.tmp 24) rfl (ad.add (i * 49)) rfl cs _ hrow.out Tryd.underlying55 rfl (by rw [hlen.out]; exact mo_size) ?_
          refine wpList_plain rfl (fun K hK => ?_)
          go_simp
          refine hK _ _ ?_
          clear hK K
          try simp only [Act.put, List.getElem_toArray, List.getElem_cons_succ, List.getElem_cons_zero, List.setIfInBounds_toArray, List.set_cons_zero, List.set_cons_succ]
          refine wpList_store_row rfl 55 (.tmp 7) (.tmp 25) rfl wr.heap.size cs.toArray rfl rfl 55 _ (heap_alloc_new wr _) (by rw [List.size_toArray, hlen.out]; exact mo_size) (by show 49 = cs.toArray.size; rw [List.size_toArray, hlen.out]) (by rw [Array.all_eq_true_iff_forall_mem]; intro u hu; exact hone.out u (by simpa using hu)) ?_
          go_wp2_with (fail)
          go_meet
          have hbx := bk_setRow (cs := cs.toArray) (bk_new wr #[.int .i64 0, .int .i64 0, .int .i64 0, .int .u64 0, .slice none 0 0, .int .i64 0, .int .u8 0, .int .u8 0, .int .u8 0, .int .u8 0, .int .i64 0, .int .u64 0, .int .u64 0, .int .u64 0, .int .u64 0, .int .u64 0, .int .u64 0, .int .u64 0, .slice none 0 0, .int .i64 0, .int .i64 0, .bool false, .int .i64 0, .int .i64 0, .bool false, .slice none 0 0, .int .u64 0, .int .i64 0, .bool false, .int .i64 0, .int .u8 0, .int .u8 0, .int .u8 0, .int .u8 0, .int .i64 0, .int .u64 0, .int .u64 0, .int .u64 0, .int .u64 0, .int .u64 0, .int .u64 0, .int .u64 0, .int .u64 0, .int .u64 0, .int .i64 0, .int .u64 0, .int .u64 0, .bool false, .slice none 0 0] 55)
          exact ⟨rfl, (bk_cell hbx 0).trans (by rw [List.getElem?_toArray]; exact p0), (bk_cell hbx 19).trans (by rw [List.getElem?_toArray]; exact p19), (bk_cell hbx 22).trans (by rw [List.getElem?_toArray]; exact p22), (bk_cell hbx 23).trans (by rw [List.getElem?_toArray]; exact p23), (bk_cell hbx 24).trans (by rw [List.getElem?_toArray]; exact p24), (bk_cell hbx 25).trans (by rw [List.getElem?_toArray]; exact p25), (bk_cell hbx 48).trans (by rw [List.getElem?_toArray]; exact p48), bk_lt hbx, bl_setRow (bl_alloc (Below.refl _ _) _) (Nat.le_refl _)⟩
        case rest =>
          obtain ⟨rfl, z0, z19, z22, z23, z24, z25, z48, hlt, hBx⟩ := hcut
          clear p0 p19 p22 p23 p24 p25 p48 hlen hrow hone
          have hy5 := bk_below hBx hx5.out
          have hBc := bl_then hBr.out hBx
          have hne : wr.heap.size ≠ w2.heap.size := by have := bk_lt hx5.out; omega
          obtain ⟨c0, c1, c2, c3, c4, c5, f0, f1, f2, f3, f4, f5⟩ := hold6 hy5
          replace hy5 := Lib.hid hy5
          replace hBc := Lib.hid hBc
          clear hBr hBx hx5
          by_cases hk : m.kind = 2
          · by_cases he : m.err = 0
            · have e1 : (m.kind != 2) = false := by simp [hk]
              have e2 : (m.err != 0) = false := by simp [he]
              have hsb : sentB m = true := by unfold sentB; simp [hk, he]
              have hstep2 := hstep.out
              rw [hsb, if_pos rfl] at hstep2
              replace hk := Lib.hid hk
              replace he := Lib.hid he
              clear hstep
              by_cases ht : m.tier = 1
              · rw [if_pos ht] at hstep2
                have e3 : (m.tier == 1) = true := by simp [ht]
                replace ht := Lib.hid ht
                replace hstep2 := Lib.hid hstep2
                go_wp2
                exact ⟨⟨i + 1, by first | rfl | (congr 1; omega), by omega, by rw [hstep2.out]; exact bk_put (bk_put hy5.out rfl) rfl, bl_set (bl_set hBc.out (Nat.le_refl _) _) (Nat.le_refl _) _⟩, by simp [intOf]; omega⟩
              · rw [if_neg ht] at hstep2
                have e3 : (m.tier == 1) = false := by simp [ht]
                replace ht := Lib.hid ht
                replace hstep2 := Lib.hid hstep2
                go_wp2
                exact ⟨⟨i + 1, by first | rfl | (congr 1; omega), by omega, by rw [hstep2.out]; exact bk_put (bk_put hy5.out rfl) rfl, bl_set (bl_set hBc.out (Nat.le_refl _) _) (Nat.le_refl _) _⟩, by simp [intOf]; omega⟩
            · have e1 : (m.kind != 2) = false := by simp [hk]
              have e2 : (m.err != 0) = true := by simp [he]
              have hsb : sentB m = false := by unfold sentB; simp [he]
              have hstep2 := hstep.out
              rw [hsb, if_neg Bool.false_ne_true] at hstep2
              replace hk := Lib.hid hk
              replace he := Lib.hid he
              replace hstep2 := Lib.hid hstep2
              clear hstep
              go_wp2
              exact ⟨⟨i + 1, by first | rfl | (congr 1; omega), by omega, by rw [hstep2.out]; exact hy5.out, hBc.out⟩, by simp [intOf]; omega⟩
          · have e1 : (m.kind != 2) = true := by simp [hk]
            have hsb : sentB m = false := by unfold sentB; simp [hk]
            have hstep2 := hstep.out
            rw [hsb, if_neg Bool.false_ne_true] at hstep2
            replace hk := Lib.hid hk
            replace hstep2 := Lib.hid hstep2
            clear hstep
            go_wp2
            exact ⟨⟨i + 1, by first | rfl | (congr 1; omega), by omega, by rw [hstep2.out]; exact hy5.out, hBc.out⟩, by simp [intOf]; omega⟩
      · have hil2 : decide ((i : Int) < (N : Int)) = false := decide_eq_false (by omega)
        obtain rfl : i = N := by omega
        rw [show ms.take i = ms by rw [← hN.out]; exact List.take_length] at hx5
        have hmo : ∀ m ∈ ms, MoOk m := fun m hm => by
          obtain ⟨j, hj, rfl⟩ := List.mem_iff_getElem.1 hm
          have := (hat.out j hj).1
          rwa [List.getD_eq_getElem?_getD, List.getElem?_eq_getElem hj] at this
        have hro : AllOk (rowsL ms).1 := (rows_ok hmo).1
        have hrl := rows_len ms
        have hmr := rows_any A ms ca wr ((hms.out.below hBr).at_ hnb.out) (by rw [hN.out]; omega)
        rw [hN.out] at hmr hrl
        obtain ⟨V, hV⟩ : ∃ V, wantV ms = V := ⟨_, rfl⟩
        have hwt2 := hwt.out
        rw [hV] at hx5 hwt2
        replace hmr := Lib.hid hmr
        replace hro := Lib.hid hro
        replace hwt2 := Lib.hid hwt2
        replace hx5 := Lib.hid hx5
        replace hBr := Lib.hid hBr
        clear hmo hV hwt hat
        go_wp2_with (fail)
        refine hmr.out.mono ?_; rintro e w3 ⟨A8, c8, d, rfl, r8, ho, hm, hok, hdl, hB3⟩
        have m8 : Mg d (rowsL ms).1 := ⟨ho, hm, hok, hdl⟩
        have hT8 : totA d = V := (m8.totA hro.out).trans hwt2.out
        have hVo : BvOk V := by rw [← hT8]; exact totA_ok hok
        have hdl3 : d.length ≤ 300 := by omega
        have hB4 := bl_then (bl_then hBa.out hBr.out) hB3
        have hk5 := bk_below hB3 hx5.out
        have rB := hB.out.below hB4
        have hokV := row0_ok hVo
        have hself : eqW ((0, 0), (V.1, V.2.1, V.2.2.1, V.2.2.2)) ((0, 0), (V.1, V.2.1, V.2.2.1, V.2.2.2)) = true := eqW_iff.2 rfl
        have kT := fun (W : World) (h : RwAt W A8 d) => total_at A8 d c8 V hT8 W h hok (by omega)
        replace kT := Lib.hid kT
        replace m8 := Lib.hid m8
        replace hT8 := Lib.hid hT8
        replace hVo := Lib.hid hVo
        replace hk5 := Lib.hid hk5
        replace r8 := Lib.hid r8
        replace rB := Lib.hid rB
        replace hB4 := Lib.hid hB4
        clear ho hm hok hdl hB3 hx5 hmr hBr
        go_wp2_with (fail)
        refine wp_region_noPanic ?_
        refine wp_region_held_drew (S := fun w' => Bk w' w2.heap.size #[.int .i64 0, .int .u64 0, .int .u64 V.1, .int .u64 V.2.1, .int .u64 V.2.2.1, .int .u64 V.2.2.2] 32 ∧ RwAt w' A8 d ∧ RwAt w' B b ∧ Below w.heap.size w w') (by kernel_rfl) (⟨bk_drew hk5.out, r8.out.below (bl_drew (Below.refl _ _)), rB.out.below (bl_drew (Below.refl _ _)), bl_drew hB4.out⟩) (fun hHeld => ?_)
        refine wpAnyH_take (i := 0) (oi := { dst := some 72, op := Go.Op.move (Go.Operand.tmp 8), type := 26, pos := "law.go:78", after := #[], guard := none }) (v := ?_) rfl (by kernel_rfl) (by kernel_rfl) (by kernel_rfl) (fun _ _ _ h => h) (Or.inl ⟨by rfl, ?_⟩) (by assumption) ?_
        rotate_left 1
        · intro w' hSw
          first | (go_simp; done) | (go_simp; with_reducible rfl)
        try simp only [Act.put, List.getElem_toArray, List.getElem_cons_succ, List.getElem_cons_zero, List.setIfInBounds_toArray, List.set_cons_zero, List.set_cons_succ]
        refine wpAnyH_take (i := 2) (oi := { dst := some 74, op := Go.Op.load 32 (Go.Operand.tmp 5), type := 32, pos := "law.go:78", after := #[], guard := none }) (v := ?_) rfl (by kernel_rfl) (by kernel_rfl) (by kernel_rfl) (fun _ _ _ h => h) (Or.inl ⟨by rfl, ?_⟩) (by assumption) ?_
        rotate_left 1
        · intro w' hSw
          obtain ⟨u0, u1, u2, u3, u4, u5, _⟩ := hold6 hSw.1
          first | (go_simp; done) | (go_simp; with_reducible rfl)
        try simp only [Act.put, List.getElem_toArray, List.getElem_cons_succ, List.getElem_cons_zero, List.setIfInBounds_toArray, List.set_cons_zero, List.set_cons_succ]
        refine wpAnyH_ready (rs := [1]) (by kernel_rfl) (by simp) ?_
        refine (AllReadyH.cons (o := { dst := some 73, op := Go.Op.call { callee := Go.Callee.value (Go.Operand.func 17), args := #[Go.Operand.tmp 72], argTypes := #[26] }, type := 32, pos := "law.go:78", after := #[{ on := 0, ground := Go.Ground.data }], guard := none }) rfl (fun K hK => ?_) AllReadyH.nil)
        go_simp
        go_at_call 17
        (refine (kT.out _ hHeld.2.1).mono ?_)
        rintro e wa ⟨rfl, hBx⟩
        have hS1 : Bk wa w2.heap.size #[.int .i64 0, .int .u64 0, .int .u64 V.1, .int .u64 V.2.1, .int .u64 V.2.2.1, .int .u64 V.2.2.2] 32 ∧ RwAt wa A8 d ∧ RwAt wa B b ∧ Below w.heap.size w wa := ⟨bk_below hBx hHeld.1, hHeld.2.1.below hBx, hHeld.2.2.1.below hBx, bl_then hHeld.2.2.2 hBx⟩
        go_wp2_with (fail)
        refine hK.out _ _ ?_ (fun hHeld => ?_)
        · first | with_reducible exact hHeld | exact hS1
        clear hK K
        try simp only [Act.put, List.getElem_toArray, List.getElem_cons_succ, List.getElem_cons_zero, List.setIfInBounds_toArray, List.set_cons_zero, List.set_cons_succ]
        refine wpAnyH_take (i := 3) (oi := { dst := some 75, op := Go.Op.binOp Go.BinOp.neq 32 (Go.Operand.tmp 73) (Go.Operand.tmp 74) 32, type := 4, pos := "law.go:78", after := #[{ on := 1, ground := Go.Ground.data }, { on := 2, ground := Go.Ground.data }], guard := none }) (v := ?_) rfl (by kernel_rfl) (by kernel_rfl) (by kernel_rfl) (fun _ _ _ h => h) (Or.inl ⟨by rfl, ?_⟩) (by assumption) ?_
        rotate_left 1
        · intro w' hSw
          first | (go_simp; done) | (go_simp; with_reducible rfl)
        try simp only [Act.put, List.getElem_toArray, List.getElem_cons_succ, List.getElem_cons_zero, List.setIfInBounds_toArray, List.set_cons_zero, List.set_cons_succ]
        refine wpAnyH_done (by kernel_rfl) ?_ _
        refine NoPanic.normal ?_
        clear hk5 r8 rB hB4
        obtain ⟨_, r8, rB, hB4⟩ := hHeld
        obtain ⟨T, hT⟩ : ∃ T, totA b = T := ⟨_, rfl⟩
        obtain ⟨R, hR⟩ : ∃ R, addV V T = R := ⟨_, rfl⟩
        have hTo : BvOk T := by rw [← hT]; exact totA_ok hbo.out
        have hRo : BvOk R := by rw [← hR]; exact addV_ok hVo.out hTo
        have hokR := row0_ok hRo
        have hself2 : eqW ((0, 0), (R.1, R.2.1, R.2.2.1, R.2.2.2)) ((0, 0), (R.1, R.2.1, R.2.2.1, R.2.2.2)) = true := eqW_iff.2 rfl
        have kB := fun (W : World) (h : RwAt W B b) => total_at B b cx T hT W h hbo.out (by have := hb.out; omega)
        have kP := fun (W : World) => plus_at V T R hVo.out hTo hR W
        replace hT := Lib.hid hT
        replace hR := Lib.hid hR
        replace hTo := Lib.hid hTo
        replace hRo := Lib.hid hRo
        replace kB := Lib.hid kB
        replace kP := Lib.hid kP
        clear hself hokV
        go_wp2_with (fail)
        refine (merge_mg A8 B c8 cx d b _ r8 rB m8.out.ok hbo.out (by omega) (by have := hb.out; omega)).mono ?_; rintro e w5 ⟨A9, c9, e9, rfl, r9, m9, hB5⟩
        have hB6 := bl_then hB4 hB5
        have r8b := r8.below hB5
        have rBb := rB.below hB5
        have hR9 : totA e9 = R := by rw [m9.totA (m8.out.ok.app hbo.out), totA_app m8.out.ok hbo.out, hT8.out, hT.out, hR.out]
        have hl9 := m9.len
        rw [List.length_append] at hl9
        have k9 := total_at A9 e9 c9 R hR9 w5 r9 m9.ok (by have := hb.out; omega)
        replace k9 := Lib.hid k9
        replace r8b := Lib.hid r8b
        replace rBb := Lib.hid rBb
        replace hB6 := Lib.hid hB6
        clear r8 rB hB4 hB5 r9 m9 hl9 hR9
        go_wp2_with (fail)
        refine k9.out.mono ?_; rintro e w6 ⟨rfl, hB7⟩
        have hk9 := bk_new w6 #[.int .i64 0, .int .u64 0, .int .u64 R.1, .int .u64 R.2.1, .int .u64 R.2.2.1, .int .u64 R.2.2.2] 32
        have r8c := (r8b.out.below hB7).below (bl_alloc (Below.refl _ w6) (.cells #[.int .i64 0, .int .u64 0, .int .u64 R.1, .int .u64 R.2.1, .int .u64 R.2.2.1, .int .u64 R.2.2.2] 32))
        have rBc := (rBb.out.below hB7).below (bl_alloc (Below.refl _ w6) (.cells #[.int .i64 0, .int .u64 0, .int .u64 R.1, .int .u64 R.2.1, .int .u64 R.2.2.1, .int .u64 R.2.2.2] 32))
        have hB8 := bl_alloc (bl_then hB6.out hB7) (.cells #[.int .i64 0, .int .u64 0, .int .u64 R.1, .int .u64 R.2.1, .int .u64 R.2.2.1, .int .u64 R.2.2.2] 32)
        replace hk9 := Lib.hid hk9
        replace r8c := Lib.hid r8c
        replace rBc := Lib.hid rBc
        replace hB8 := Lib.hid hB8
        clear r8b rBb hB6 hB7 k9
        go_wp2_with (fail)
        refine wp_region_noPanic ?_
        refine wp_region_held_drew (S := fun w' => Bk w' w6.heap.size #[.int .i64 0, .int .u64 0, .int .u64 R.1, .int .u64 R.2.1, .int .u64 R.2.2.1, .int .u64 R.2.2.2] 32 ∧ RwAt w' A8 d ∧ RwAt w' B b ∧ Below w.heap.size w w') (by kernel_rfl) (⟨bk_drew hk9.out, r8c.out.below (bl_drew (Below.refl _ _)), rBc.out.below (bl_drew (Below.refl _ _)), bl_drew hB8.out⟩) (fun hHeld => ?_)
        refine wpAnyH_take (i := 0) (oi := { dst := some 80, op := Go.Op.load 32 (Go.Operand.tmp 9), type := 32, pos := "law.go:82", after := #[], guard := none }) (v := ?_) rfl (by kernel_rfl) (by kernel_rfl) (by kernel_rfl) (fun _ _ _ h => h) (Or.inl ⟨by rfl, ?_⟩) (by assumption) ?_
        rotate_left 1
        · intro w' hSw
          obtain ⟨u0, u1, u2, u3, u4, u5, _⟩ := hold6 hSw.1
          first | (go_simp; done) | (go_simp; with_reducible rfl)
        try simp only [Act.put, List.getElem_toArray, List.getElem_cons_succ, List.getElem_cons_zero, List.setIfInBounds_toArray, List.set_cons_zero, List.set_cons_succ]
        refine wpAnyH_take (i := 1) (oi := { dst := some 81, op := Go.Op.move (Go.Operand.tmp 8), type := 26, pos := "law.go:82", after := #[], guard := none }) (v := ?_) rfl (by kernel_rfl) (by kernel_rfl) (by kernel_rfl) (fun _ _ _ h => h) (Or.inl ⟨by rfl, ?_⟩) (by assumption) ?_
        rotate_left 1
        · intro w' hSw
          first | (go_simp; done) | (go_simp; with_reducible rfl)
        try simp only [Act.put, List.getElem_toArray, List.getElem_cons_succ, List.getElem_cons_zero, List.setIfInBounds_toArray, List.set_cons_zero, List.set_cons_succ]
        refine wpAnyH_take (i := 3) (oi := { dst := some 83, op := Go.Op.move (Go.Operand.tmp 1), type := 26, pos := "law.go:82", after := #[], guard := none }) (v := ?_) rfl (by kernel_rfl) (by kernel_rfl) (by kernel_rfl) (fun _ _ _ h => h) (Or.inl ⟨by rfl, ?_⟩) (by assumption) ?_
        rotate_left 1
        · intro w' hSw
          first | (go_simp; done) | (go_simp; with_reducible rfl)
        try simp only [Act.put, List.getElem_toArray, List.getElem_cons_succ, List.getElem_cons_zero, List.setIfInBounds_toArray, List.set_cons_zero, List.set_cons_succ]
        refine wpAnyH_ready (rs := [2]) (by kernel_rfl) (by simp) ?_
        refine (AllReadyH.cons (o := { dst := some 82, op := Go.Op.call { callee := Go.Callee.value (Go.Operand.func 17), args := #[Go.Operand.tmp 81], argTypes := #[26] }, type := 32, pos := "law.go:82", after := #[{ on := 1, ground := Go.Ground.data }], guard := none }) rfl (fun K hK => ?_) AllReadyH.nil)
        go_simp
        go_at_call 17
        (refine (kT.out _ hHeld.2.1).mono ?_)
        rintro e wa ⟨rfl, hBx⟩
        have hS1 : (fun w' => Bk w' w6.heap.size #[.int .i64 0, .int .u64 0, .int .u64 R.1, .int .u64 R.2.1, .int .u64 R.2.2.1, .int .u64 R.2.2.2] 32 ∧ RwAt w' A8 d ∧ RwAt w' B b ∧ Below w.heap.size w w') wa := ⟨bk_below hBx hHeld.1, hHeld.2.1.below hBx, hHeld.2.2.1.below hBx, bl_then hHeld.2.2.2 hBx⟩
        go_wp2_with (fail)
        refine hK.out _ _ ?_ (fun hHeld => ?_)
        · first | with_reducible exact hHeld | exact hS5 | exact hS4 | exact hS3 | exact hS2 | exact hS1
        clear hK K
        try simp only [Act.put, List.getElem_toArray, List.getElem_cons_succ, List.getElem_cons_zero, List.setIfInBounds_toArray, List.set_cons_zero, List.set_cons_succ]
        refine wpAnyH_ready (rs := [4]) (by kernel_rfl) (by simp) ?_
        refine (AllReadyH.cons (o := { dst := some 84, op := Go.Op.call { callee := Go.Callee.value (Go.Operand.func 17), args := #[Go.Operand.tmp 83], argTypes := #[26] }, type := 32, pos := "law.go:82", after := #[{ on := 3, ground := Go.Ground.data }, { on := 2, ground := Go.Ground.chain }], guard := none }) rfl (fun K hK => ?_) AllReadyH.nil)
        go_simp
        go_at_call 17
        (refine (kB.out _ hS1.2.2.1).mono ?_)
        rintro e wb ⟨rfl, hBx⟩
        have hS2 : (fun w' => Bk w' w6.heap.size #[.int .i64 0, .int .u64 0, .int .u64 R.1, .int .u64 R.2.1, .int .u64 R.2.2.1, .int .u64 R.2.2.2] 32 ∧ RwAt w' A8 d ∧ RwAt w' B b ∧ Below w.heap.size w w') wb := ⟨bk_below hBx hS1.1, hS1.2.1.below hBx, hS1.2.2.1.below hBx, bl_then hS1.2.2.2 hBx⟩
        go_wp2_with (fail)
        refine hK.out _ _ ?_ (fun hHeld => ?_)
        · first | with_reducible exact hHeld | exact hS5 | exact hS4 | exact hS3 | exact hS2 | exact hS1
        clear hK K
        try simp only [Act.put, List.getElem_toArray, List.getElem_cons_succ, List.getElem_cons_zero, List.setIfInBounds_toArray, List.set_cons_zero, List.set_cons_succ]
        refine wpAnyH_ready (rs := [5]) (by kernel_rfl) (by simp) ?_
        refine (AllReadyH.cons (o := { dst := some 85, op := Go.Op.call { callee := Go.Callee.value (Go.Operand.func 18), args := #[Go.Operand.tmp 82, Go.Operand.tmp 84], argTypes := #[32, 32] }, type := 32, pos := "law.go:82", after := #[{ on := 2, ground := Go.Ground.data }, { on := 4, ground := Go.Ground.data }, { on := 4, ground := Go.Ground.chain }], guard := none }) rfl (fun K hK => ?_) AllReadyH.nil)
        go_simp
        go_at_call 18
        (refine (kP.out _).mono ?_)
        rintro e wc ⟨rfl, hBx⟩
        have hS3 : (fun w' => Bk w' w6.heap.size #[.int .i64 0, .int .u64 0, .int .u64 R.1, .int .u64 R.2.1, .int .u64 R.2.2.1, .int .u64 R.2.2.2] 32 ∧ RwAt w' A8 d ∧ RwAt w' B b ∧ Below w.heap.size w w') wc := ⟨bk_below hBx hS2.1, hS2.2.1.below hBx, hS2.2.2.1.below hBx, bl_then hS2.2.2.2 hBx⟩
        go_wp2_with (fail)
        refine hK.out _ _ ?_ (fun hHeld => ?_)
        · first | with_reducible exact hHeld | exact hS5 | exact hS4 | exact hS3 | exact hS2 | exact hS1
        clear hK K
        try simp only [Act.put, List.getElem_toArray, List.getElem_cons_succ, List.getElem_cons_zero, List.setIfInBounds_toArray, List.set_cons_zero, List.set_cons_succ]
        refine wpAnyH_take (i := 6) (oi := { dst := some 86, op := Go.Op.binOp Go.BinOp.eql 32 (Go.Operand.tmp 80) (Go.Operand.tmp 85) 32, type := 4, pos := "law.go:82", after := #[{ on := 0, ground := Go.Ground.data }, { on := 5, ground := Go.Ground.data }], guard := none }) (v := ?_) rfl (by kernel_rfl) (by kernel_rfl) (by kernel_rfl) (fun _ _ _ h => h) (Or.inl ⟨by rfl, ?_⟩) (by assumption) ?_
        rotate_left 1
        · intro w' hSw
          first | (go_simp; done) | (go_simp; with_reducible rfl)
        try simp only [Act.put, List.getElem_toArray, List.getElem_cons_succ, List.getElem_cons_zero, List.setIfInBounds_toArray, List.set_cons_zero, List.set_cons_succ]
        refine wpAnyH_take (i := 7) (oi := { dst := some 87, op := Go.Op.move (Go.Operand.tmp 86), type := 4, pos := "law.go:82", after := #[{ on := 6, ground := Go.Ground.data }, { on := 5, ground := Go.Ground.chain }], guard := none }) (v := ?_) rfl (by kernel_rfl) (by kernel_rfl) (by kernel_rfl) (fun _ _ _ h => h) (Or.inl ⟨by rfl, ?_⟩) (by assumption) ?_
        rotate_left 1
        · intro w' hSw
          first | (go_simp; done) | (go_simp; with_reducible rfl)
        try simp only [Act.put, List.getElem_toArray, List.getElem_cons_succ, List.getElem_cons_zero, List.setIfInBounds_toArray, List.set_cons_zero, List.set_cons_succ]
        refine wpAnyH_take (i := 8) (oi := { dst := some 88, op := Go.Op.move (Go.Operand.tmp 1), type := 26, pos := "law.go:82", after := #[{ on := 7, ground := Go.Ground.guard }], guard := some (7, true) }) (v := ?_) rfl (by kernel_rfl) (by kernel_rfl) (by kernel_rfl) (fun _ _ _ h => h) (Or.inl ⟨by rfl, ?_⟩) (by assumption) ?_
        rotate_left 1
        · intro w' hSw
          first | (go_simp; done) | (go_simp; with_reducible rfl)
        try simp only [Act.put, List.getElem_toArray, List.getElem_cons_succ, List.getElem_cons_zero, List.setIfInBounds_toArray, List.set_cons_zero, List.set_cons_succ]
        refine wpAnyH_take (i := 9) (oi := { dst := some 89, op := Go.Op.move (Go.Operand.tmp 8), type := 26, pos := "law.go:82", after := #[{ on := 7, ground := Go.Ground.guard }], guard := some (7, true) }) (v := ?_) rfl (by kernel_rfl) (by kernel_rfl) (by kernel_rfl) (fun _ _ _ h => h) (Or.inl ⟨by rfl, ?_⟩) (by assumption) ?_
        rotate_left 1
        · intro w' hSw
          first | (go_simp; done) | (go_simp; with_reducible rfl)
        try simp only [Act.put, List.getElem_toArray, List.getElem_cons_succ, List.getElem_cons_zero, List.setIfInBounds_toArray, List.set_cons_zero, List.set_cons_succ]
        refine wpAnyH_take (i := 12) (oi := { dst := some 92, op := Go.Op.load 32 (Go.Operand.tmp 9), type := 32, pos := "law.go:82", after := #[{ on := 7, ground := Go.Ground.guard }], guard := some (7, true) }) (v := ?_) rfl (by kernel_rfl) (by kernel_rfl) (by kernel_rfl) (fun _ _ _ h => h) (Or.inl ⟨by rfl, ?_⟩) (by assumption) ?_
        rotate_left 1
        · intro w' hSw
          obtain ⟨u0, u1, u2, u3, u4, u5, _⟩ := hold6 hSw.1
          first | (go_simp; done) | (go_simp; with_reducible rfl)
        try simp only [Act.put, List.getElem_toArray, List.getElem_cons_succ, List.getElem_cons_zero, List.setIfInBounds_toArray, List.set_cons_zero, List.set_cons_succ]
        refine wpAnyH_ready (rs := [10]) (by kernel_rfl) (by simp) ?_
        refine (AllReadyH.cons (o := { dst := some 90, op := Go.Op.call { callee := Go.Callee.value (Go.Operand.func 13), args := #[Go.Operand.tmp 88, Go.Operand.tmp 89], argTypes := #[26, 26] }, type := 26, pos := "law.go:82", after := #[{ on := 8, ground := Go.Ground.data }, { on := 9, ground := Go.Ground.data }, { on := 7, ground := Go.Ground.chain }, { on := 7, ground := Go.Ground.guard }], guard := some (7, true) }) rfl (fun K hK => ?_) AllReadyH.nil)
        go_simp
        go_at_call 13
        (refine (merge_mg B A8 cx c8 b d _ hS3.2.2.1 hS3.2.1 hbo.out m8.out.ok (by have := hb.out; omega) (by omega)).mono ?_)
        rintro e wd ⟨A10, c10, e10, rfl, r10, m10, hBx⟩
        have hS4 : (fun w' => Bk w' w6.heap.size #[.int .i64 0, .int .u64 0, .int .u64 R.1, .int .u64 R.2.1, .int .u64 R.2.2.1, .int .u64 R.2.2.2] 32 ∧ RwAt w' A8 d ∧ RwAt w' B b ∧ Below w.heap.size w w') wd := ⟨bk_below hBx hS3.1, hS3.2.1.below hBx, hS3.2.2.1.below hBx, bl_then hS3.2.2.2 hBx⟩
        have hR10 : totA e10 = R := by rw [m10.totA (hbo.out.app m8.out.ok), totA_app hbo.out m8.out.ok, hT8.out, hT.out, addV_comm, hR.out]
        have hl10 := m10.len
        rw [List.length_append] at hl10
        have k10 := Lib.hid (total_at A10 e10 c10 R hR10 wd r10 m10.ok (by have := hb.out; omega))
        clear hR10 hl10 r10 m10
        go_wp2_with (fail)
        refine hK.out _ _ ?_ (fun hHeld => ?_)
        · first | with_reducible exact hHeld | exact hS5 | exact hS4 | exact hS3 | exact hS2 | exact hS1
        clear hK K
        try simp only [Act.put, List.getElem_toArray, List.getElem_cons_succ, List.getElem_cons_zero, List.setIfInBounds_toArray, List.set_cons_zero, List.set_cons_succ]
        refine wpAnyH_ready (rs := [11]) (by kernel_rfl) (by simp) ?_
        refine (AllReadyH.cons (o := { dst := some 91, op := Go.Op.call { callee := Go.Callee.value (Go.Operand.func 17), args := #[Go.Operand.tmp 90], argTypes := #[26] }, type := 32, pos := "law.go:82", after := #[{ on := 10, ground := Go.Ground.data }, { on := 10, ground := Go.Ground.chain }, { on := 7, ground := Go.Ground.guard }], guard := some (7, true) }) rfl (fun K hK => ?_) AllReadyH.nil)
        go_simp
        go_at_call 17
        (refine k10.out.mono ?_)
        rintro e we ⟨rfl, hBx⟩
        have hS5 : (fun w' => Bk w' w6.heap.size #[.int .i64 0, .int .u64 0, .int .u64 R.1, .int .u64 R.2.1, .int .u64 R.2.2.1, .int .u64 R.2.2.2] 32 ∧ RwAt w' A8 d ∧ RwAt w' B b ∧ Below w.heap.size w w') we := ⟨bk_below hBx hS4.1, hS4.2.1.below hBx, hS4.2.2.1.below hBx, bl_then hS4.2.2.2 hBx⟩
        go_wp2_with (fail)
        refine hK.out _ _ ?_ (fun hHeld => ?_)
        · first | with_reducible exact hHeld | exact hS5 | exact hS4 | exact hS3 | exact hS2 | exact hS1
        clear hK K
        try simp only [Act.put, List.getElem_toArray, List.getElem_cons_succ, List.getElem_cons_zero, List.setIfInBounds_toArray, List.set_cons_zero, List.set_cons_succ]
        refine wpAnyH_take (i := 13) (oi := { dst := some 93, op := Go.Op.binOp Go.BinOp.eql 32 (Go.Operand.tmp 91) (Go.Operand.tmp 92) 32, type := 4, pos := "law.go:82", after := #[{ on := 11, ground := Go.Ground.data }, { on := 12, ground := Go.Ground.data }, { on := 7, ground := Go.Ground.guard }], guard := some (7, true) }) (v := ?_) rfl (by kernel_rfl) (by kernel_rfl) (by kernel_rfl) (fun _ _ _ h => h) (Or.inl ⟨by rfl, ?_⟩) (by assumption) ?_
        rotate_left 1
        · intro w' hSw
          first | (go_simp; done) | (go_simp; with_reducible rfl)
        try simp only [Act.put, List.getElem_toArray, List.getElem_cons_succ, List.getElem_cons_zero, List.setIfInBounds_toArray, List.set_cons_zero, List.set_cons_succ]
        refine wpAnyH_take (i := 14) (oi := { dst := some 94, op := Go.Op.pick (Go.Operand.tmp 87) (Go.Operand.tmp 93) (Go.Operand.const (Go.Value.bool false)), type := 4, pos := "law.go:82", after := #[{ on := 7, ground := Go.Ground.data }, { on := 13, ground := Go.Ground.data }], guard := none }) (v := ?_) rfl (by kernel_rfl) (by kernel_rfl) (by kernel_rfl) (fun _ _ _ h => h) (Or.inl ⟨by rfl, ?_⟩) (by assumption) ?_
        rotate_left 1
        · intro w' hSw
          first | (go_simp; done) | (go_simp; with_reducible rfl)
        try simp only [Act.put, List.getElem_toArray, List.getElem_cons_succ, List.getElem_cons_zero, List.setIfInBounds_toArray, List.set_cons_zero, List.set_cons_succ]
        refine wpAnyH_take (i := 15) (oi := { dst := some 4, op := Go.Op.assign (Go.Operand.tmp 94), type := 4, pos := "law.go:82", after := #[{ on := 14, ground := Go.Ground.data }, { on := 11, ground := Go.Ground.chain }, { on := 0, ground := Go.Ground.phase }, { on := 1, ground := Go.Ground.phase }, { on := 2, ground := Go.Ground.phase }, { on := 3, ground := Go.Ground.phase }, { on := 4, ground := Go.Ground.phase }, { on := 5, ground := Go.Ground.phase }, { on := 6, ground := Go.Ground.phase }, { on := 7, ground := Go.Ground.phase }, { on := 8, ground := Go.Ground.phase }, { on := 9, ground := Go.Ground.phase }, { on := 10, ground := Go.Ground.phase }, { on := 11, ground := Go.Ground.phase }, { on := 12, ground := Go.Ground.phase }, { on := 13, ground := Go.Ground.phase }, { on := 14, ground := Go.Ground.phase }], guard := none }) (v := ?_) rfl (by kernel_rfl) (by kernel_rfl) (by kernel_rfl) (fun _ _ _ h => h) (Or.inl ⟨by rfl, ?_⟩) (by assumption) ?_
        rotate_left 1
        · intro w' hSw
          first | (go_simp; done) | (go_simp; with_reducible rfl)
        try simp only [Act.put, List.getElem_toArray, List.getElem_cons_succ, List.getElem_cons_zero, List.setIfInBounds_toArray, List.set_cons_zero, List.set_cons_succ]
        refine wpAnyH_done (by kernel_rfl) ?_ _
        refine NoPanic.normal ?_
        go_wp2
        go_ret
        exact ⟨rfl, hHeld.2.2.2⟩
set_option maxHeartbeats 1600000 in
theorem billTotals_walk (A : Option Addr) (la ca : Nat) {w : World} (ha : IsMoms w A la) (B : Option Addr) (lb cx : Nat) (hb : IsFlat [.i .i64, .i .u64, .i .u64, .i .u64, .i .u64, .i .u64] w B lb cx) :
    Calls Tryd.prog 7 #[.slice A la ca, .slice B lb cx] w fun e w' => e = .returned (.bool true) ∧ Below w.heap.size w w' := by
  have hlb : lb ≤ cx := by rcases hb with ⟨_, rfl, h⟩ | ⟨x, rfl, hl, hm, hx⟩ <;> omega
  obtain ⟨ms, rfl, hA⟩ := ha
  obtain ⟨b, rfl, hB, hbo⟩ := rws_of hb
  clear hb
  by_cases h2 : 60 < b.length
  · have q2 : decide ((60 : Int) < (b.length : Int)) = true := decide_eq_true (by omega)
    replace hA := Lib.hid hA
    clear hB hbo
    go_enter Tryd.func7, Tryd.ntmps7
    go_wp2_with (fail)
    refine (billAlive_any _).mono ?_; rintro e w1 ⟨rfl, hB1⟩
    go_wp2_with (fail)
    refine (great_any A ms ca _ (hA.out.below hB1)).mono ?_; rintro e w2 ⟨⟨G, rfl, _⟩, hB2⟩
    have hBa := bl_then hB1 hB2
    replace hBa := Lib.hid hBa
    clear hB1 hB2
    cases G with
    | true =>
      go_wp2
      go_ret
      exact ⟨rfl, hBa.out⟩
    | false =>
      go_wp2
      go_ret
      exact ⟨rfl, hBa.out⟩
  exact totals_any A B ca cx ms b w hA hB hbo (by omega)
end Go.Proofs.YtebeknnjjoobnaaDoor
