/- The document's rows of a history; the walk of BillRows. -/
import Derived.Test.YtebeknnjjoobnaaDoorBi5
set_option linter.unusedVariables false
set_option linter.unusedSimpArgs false
set_option maxRecDepth 100000
namespace Go.Proofs.YtebeknnjjoobnaaDoor
open Go.RowKit Go.Sort Go.Lib Go.Shelf Go.Proofs Go.Proofs.YtebeknnjjoobnaaDoorW.PrintWords
attribute [local go_sem] max2_int min2_int max_two min_two
attribute [local go_sem ↓] eql_rw neq_rw

theorem put_any' (ad : Addr) (l : List Rw) (cap : Nat) (a b c d e f : Int) (w : World) (hr : RwAt w (some ad) l) (hlo : AllOk l) (hx : RwOk ((a, b), (c, d, e, f))) (hl : l.length ≤ 400) (hlc : l.length ≤ cap) (hcm : cap ≤ 9223372036854775807) :
    Calls Tryd.prog 21 #[.slice (some ad) l.length cap, .agg #[.int .i64 a, .int .u64 b, .int .u64 c, .int .u64 d, .int .u64 e, .int .u64 f]] w (PutPost ((a, b), (c, d, e, f)) l w) := put_any ad l cap ((a, b), (c, d, e, f)) w hr hlo hx hl hlc hcm
theorem u0 : U64 0 := ⟨by decide, by decide⟩
theorem u1 : U64 1 := ⟨by decide, by decide⟩
theorem bv1 (n : Nat) (h : n ≤ 1000000) : BvOk (1, (n : Int), 0, 0) := ⟨u1, (show U64 (n : Int) from ⟨by omega, by omega⟩), u0, u0⟩
theorem bv2 (n : Nat) (h : n ≤ 1000000) : BvOk (0, 0, 1, (n : Int)) := ⟨u0, u0, u1, (show U64 (n : Int) from ⟨by omega, by omega⟩)⟩
set_option maxHeartbeats 12800000 in
theorem rrows_any (A : Option Addr) (ms : List Mo) (ca : Nat) (w : World) (hA : MomIn w A ms) (hnb : ∀ m ∈ ms, m.nb ≤ 5000) (hl : ms.length ≤ 300) (hlc : ms.length ≤ ca) :
    Calls Tryd.prog 12 #[.slice A ms.length ca] w fun e w' => ∃ (D : Addr) (c : Nat) (P : List Rw), e = .returned (.slice (some D) P.length c) ∧ RwAt w' (some D) P ∧ PutS P (rowsL ms).1 ∧ P.length ≤ 300 ∧ Below w.heap.size w w' := by
  have hat := hA.at_ hnb
  have hmo : ∀ m ∈ ms, MoOk m := fun m hm => by
    obtain ⟨j, hj, rfl⟩ := List.mem_iff_getElem.1 hm
    have := (hat j hj).1
    rwa [List.getD_eq_getElem?_getD, List.getElem?_eq_getElem hj] at this
  have hrk := fun (i : Nat) => rows_ok (ms := ms.take i) (fun m hm => hmo m (List.mem_of_mem_take hm))
  have hO : ∃ o, (rowsL ms).1 = o := ⟨_, rfl⟩
  obtain ⟨OUT, hO⟩ := hO
  rw [hO]
  obtain ⟨N, hN⟩ : ∃ N, ms.length = N := ⟨_, rfl⟩
  rw [hN] at hl hlc ⊢
  have hB0 := bl_alloc (Below.refl _ w) (.cells #[] 32)
  replace hB0 := Lib.hid hB0
  replace hO := Lib.hid hO
  replace hN := Lib.hid hN
  replace hA := Lib.hid hA
  replace hmo := Lib.hid hmo
  replace hnb := Lib.hid hnb
  replace hrk := Lib.hid hrk
  clear hat
  go_enter Tryd.func12, Tryd.ntmps12
  go_wp2_with (fail)
  go_loopw [3, 11] (fun v3 v11 wr => ∃ (i : Nat) (P : List Rw) (D : Addr) (c : Nat), v11 = .int .i64 i ∧ i ≤ N ∧ v3 = .slice (some D) P.length c ∧ PutS P (rowsL (ms.take i)).1 ∧ RwAt wr (some D) P ∧ P.length ≤ c ∧ c ≤ 9223372036854775807 ∧ P.length ≤ i ∧ Below w.heap.size w wr) (fun _ v _ => N - (intOf v).toNat)
  case atStart => exact ⟨0, [], _, 0, rfl, Nat.zero_le _, rfl, PutS.nil, rw_nil _ _ [] rfl, Nat.le_refl _, by omega, Nat.le_refl _, hB0.out⟩
  case round =>
    obtain ⟨i, P, D, c, rfl, hi, rfl, hP, hD, hPc, hcm, hPi, hBr⟩ := hrel
    by_cases hil : i < N
    · have hil2 : decide ((i : Int) < (N : Int)) = true := decide_eq_true (by omega)
      obtain ⟨_, ad, hAd, hmi⟩ := hA.out i (by rw [hN.out]; exact hil)
      have hstep := rowsL_snoc (ms.take i) (ms.getD i zeroMo)
      rw [← take_snoc' zeroMo ms i (by rw [hN.out]; exact hil)] at hstep
      have hmb := hnb.out _ (getD_mem ms i zeroMo (by rw [hN.out]; exact hil))
      have hmk := hmo.out _ (getD_mem ms i zeroMo (by rw [hN.out]; exact hil))
      obtain ⟨m, hm⟩ : ∃ m, ms.getD i zeroMo = m := ⟨_, rfl⟩
      rw [hm] at hmi hstep hmb hmk
      have hrki := hrk.out i
      have hmt : MomIn w A (ms.take i) := fun j hj => by
        have hj2 : j < i := by rw [List.length_take] at hj; omega
        have := hA.out j (by rw [hN.out]; omega)
        have e : (ms.take i).getD j zeroMo = ms.getD j zeroMo := by rw [List.getD_eq_getElem?_getD, List.getElem?_take, if_pos hj2, ← List.getD_eq_getElem?_getD]
        rw [e]; exact this
      have hlt0 : (ms.take i).length = i := by rw [List.length_take, hN.out]; omega
      have kP := fun (W : World) (h : MomIn W A (ms.take i)) => period_any A (ms.take i) ca W h (by omega)
      rw [hlt0] at kP
      obtain ⟨⟨O, Pd⟩, hOP⟩ : ∃ s, rowsL (ms.take i) = s := ⟨_, rfl⟩
      rw [hOP] at hP hstep hrki kP
      unfold rowsStep at hstep
      dsimp only at hP hstep hrki kP
      obtain ⟨cs, f, Ab, Ai, cb, ni, ci, hlen, hrow, hone, p0, p19, p22, p23, p24, p25, p48, _⟩ := hmi
      have hrow := hrow.far hBr
      subst hAd
      have hica : (i : Int) ≤ (ca : Int) := by omega
      have hiN2 : (i : Int) ≤ (N : Int) := by omega
      have a5 : IntKind.u64.wrap (m.nb : Int) = m.nb := by rw [IntKind.wrap_u64]; omega
      replace hrow := Lib.hid hrow
      replace hone := Lib.hid hone
      replace hlen := Lib.hid hlen
      replace hstep := Lib.hid hstep
      replace hBr := Lib.hid hBr
      replace hP := Lib.hid hP
      replace hD := Lib.hid hD
      replace kP := Lib.hid kP
      replace hmt := Lib.hid hmt
      replace hrki := Lib.hid hrki
      replace hmk := Lib.hid hmk
      replace hmb := Lib.hid hmb
      clear hm hOP hlt0
      go_upto_region 4 with (fail)
      go_cut [4, 5] from 12 to 54 (fun v4 v5 wx => v4 = .int .i64 i ∧ v5 = .pointer (some ⟨wr.heap.size, 0, none⟩) ∧ wx.cell? ⟨wr.heap.size, 0, none⟩ = some (.int .i64 m.kind) ∧ wx.cell? ⟨wr.heap.size, 19, none⟩ = some (.int .i64 m.err) ∧ wx.cell? ⟨wr.heap.size, 22, none⟩ = some (.int .i64 m.sub) ∧ wx.cell? ⟨wr.heap.size, 23, none⟩ = some (.int .i64 m.tier) ∧ wx.cell? ⟨wr.heap.size, 24, none⟩ = some (.bool f) ∧ wx.cell? ⟨wr.heap.size, 25, none⟩ = some (.slice Ab m.nb cb) ∧ wx.cell? ⟨wr.heap.size, 48, none⟩ = some (.slice Ai ni ci) ∧ wr.heap.size < wx.heap.size ∧ Below wr.heap.size wr wx)
      case first =>
        refine wp_region_lit ?_
        refine wpList_plain rfl (fun K hK => ?_)
        go_simp
        refine hK _ _ ?_
        clear hK K
        try simp only [Act.put, List.getElem_toArray, List.getElem_cons_succ, List.getElem_cons_zero, List.setIfInBounds_toArray, List.set_cons_zero, List.set_cons_succ]
        refine wpList_plain rfl (fun K hK => ?_)
        go_simp
        refine hK _ _ ?_
        clear hK K
        try simp only [Act.put, List.getElem_toArray, List.getElem_cons_succ, List.getElem_cons_zero, List.setIfInBounds_toArray, List.set_cons_zero, List.set_cons_succ]
        refine wpList_load_at rfl 55 (.tmp 14) rfl (ad.add (i * 49)) rfl cs _ hrow.out Tryd.underlying55 rfl (by rw [hlen.out]; exact mo_size) ?_
        refine wpList_plain rfl (fun K hK => ?_)
        go_simp
        refine hK _ _ ?_
        clear hK K
        try simp only [Act.put, List.getElem_toArray, List.getElem_cons_succ, List.getElem_cons_zero, List.setIfInBounds_toArray, List.set_cons_zero, List.set_cons_succ]
        refine wpList_plain rfl (fun K hK => ?_)
        go_simp
        refine hK _ _ ?_
        clear hK K
        try simp only [Act.put, List.getElem_toArray, List.getElem_cons_succ, List.getElem_cons_zero, List.setIfInBounds_toArray, List.set_cons_zero, List.set_cons_succ]
        refine wpList_store_row rfl 55 (.tmp 5) (.tmp 15) rfl wr.heap.size cs.toArray rfl rfl 55 _ (heap_alloc_new wr _) (by rw [List.size_toArray, hlen.out]; exact mo_size) (by show 49 = cs.toArray.size; rw [List.size_toArray, hlen.out]) (by rw [Array.all_eq_true_iff_forall_mem]; intro u hu; exact hone.out u (by simpa using hu)) ?_
        go_wp2_with (fail)
        go_meet
        have hbx := bk_setRow (cs := cs.toArray) (bk_new wr #[.int .i64 0, .int .i64 0, .int .i64 0, .int .u64 0, .slice none 0 0, .int .i64 0, .int .u8 0, .int .u8 0, .int .u8 0, .int .u8 0, .int .i64 0, .int .u64 0, .int .u64 0, .int .u64 0, .int .u64 0, .int .u64 0, .int .u64 0, .int .u64 0, .slice none 0 0, .int .i64 0, .int .i64 0, .bool false, .int .i64 0, .int .i64 0, .bool false, .slice none 0 0, .int .u64 0, .int .i64 0, .bool false, .int .i64 0, .int .u8 0, .int .u8 0, .int .u8 0, .int .u8 0, .int .i64 0, .int .u64 0, .int .u64 0, .int .u64 0, .int .u64 0, .int .u64 0, .int .u64 0, .int .u64 0, .int .u64 0, .int .u64 0, .int .i64 0, .int .u64 0, .int .u64 0, .bool false, .slice none 0 0] 55)
        exact ⟨rfl, rfl, (bk_cell hbx 0).trans (by rw [List.getElem?_toArray]; exact p0), (bk_cell hbx 19).trans (by rw [List.getElem?_toArray]; exact p19), (bk_cell hbx 22).trans (by rw [List.getElem?_toArray]; exact p22), (bk_cell hbx 23).trans (by rw [List.getElem?_toArray]; exact p23), (bk_cell hbx 24).trans (by rw [List.getElem?_toArray]; exact p24), (bk_cell hbx 25).trans (by rw [List.getElem?_toArray]; exact p25), (bk_cell hbx 48).trans (by rw [List.getElem?_toArray]; exact p48), bk_lt hbx, bl_setRow (bl_alloc (Below.refl _ _) _) (Nat.le_refl _)⟩
      case rest =>
        obtain ⟨rfl, rfl, z0, z19, z22, z23, z24, z25, z48, hlt, hBx⟩ := hcut
        clear p0 p19 p22 p23 p24 p25 p48 hlen hrow hone
        have hBc := bl_then hBr.out hBx
        have hDc := hD.out.below hBx
        replace hBc := Lib.hid hBc
        replace hDc := Lib.hid hDc
        clear hBr hBx hD
        by_cases hk : m.kind = 2
        · by_cases he : m.err = 0
          · have e1 : (m.kind != 2) = false := by simp [hk]
            have e2 : (m.err != 0) = false := by simp [he]
            have hsb : sentB m = true := by unfold sentB; simp [hk, he]
            have hstep2 := hstep.out
            rw [hsb, if_pos rfl] at hstep2
            replace hk := Lib.hid hk
            replace he := Lib.hid he
            clear hstep
            have hs6 := bk_new wc #[.int .i64 m.sub, .int .i64 m.tier, .bool f, .slice Ab m.nb cb] 48
            have hD6 := hDc.out.below (bl_alloc (Below.refl _ wc) (.cells #[.int .i64 m.sub, .int .i64 m.tier, .bool f, .slice Ab m.nb cb] 48))
            have hB6 := bl_alloc hBc.out (.cells #[.int .i64 m.sub, .int .i64 m.tier, .bool f, .slice Ab m.nb cb] 48)
            replace hs6 := Lib.hid hs6
            replace hD6 := Lib.hid hD6
            replace hB6 := Lib.hid hB6
            replace hstep2 := Lib.hid hstep2
            go_upto_region 7 with (fail)
            generalize hW : wc.alloc (.cells #[.int .i64 m.sub, .int .i64 m.tier, .bool f, .slice Ab m.nb cb] 48) = W at *
            go_cut [7] from 12 to 54 (fun v7 wx => ∃ g7 : Nat, v7 = .pointer (some ⟨g7, 0, none⟩) ∧ W.heap.size ≤ g7 ∧ Bk wx g7 #[.int .i64 m.sub, .int .u64 Pd, .int .u64 0, .int .u64 0, .int .u64 0, .int .u64 0] 32 ∧ Below W.heap.size W wx)
            case first =>
              have s0 := (bk_cell hs6.out 0).trans rfl
              refine wp_region_noPanic ?_
              refine wp_region_held_drew (S := fun w' => Below W.heap.size W w') (by kernel_rfl) (bl_drew (Below.refl _ _)) (fun hHeld => ?_)
              refine wpAnyH_take (i := 0) (oi := { dst := some 29, op := Go.Op.fieldAddr 48 (Go.Operand.tmp 6) 0, type := 0, pos := "ref.go:67", after := #[], guard := none }) (v := ?_) rfl (by kernel_rfl) (by kernel_rfl) (by kernel_rfl) (fun _ _ _ h => h) (Or.inl ⟨by rfl, ?_⟩) (by assumption) ?_
              rotate_left 1
              · intro w' hSw
                first | (go_simp; done) | (go_simp; with_reducible rfl)
              try simp only [Act.put, List.getElem_toArray, List.getElem_cons_succ, List.getElem_cons_zero, List.setIfInBounds_toArray, List.set_cons_zero, List.set_cons_succ]
              refine wpAnyH_take (i := 1) (oi := { dst := some 30, op := Go.Op.load 3 (Go.Operand.tmp 29), type := 3, pos := "ref.go:67", after := #[{ on := 0, ground := Go.Ground.data }], guard := none }) (v := ?_) rfl (by kernel_rfl) (by kernel_rfl) (by kernel_rfl) (fun _ _ _ h => h) (Or.inl ⟨by rfl, ?_⟩) (by assumption) ?_
              rotate_left 1
              · intro w' hSw
                have y0 := cl_far hSw s0
                first | (go_simp; done) | (go_simp; with_reducible rfl)
              try simp only [Act.put, List.getElem_toArray, List.getElem_cons_succ, List.getElem_cons_zero, List.setIfInBounds_toArray, List.set_cons_zero, List.set_cons_succ]
              refine wpAnyH_take (i := 2) (oi := { dst := some 31, op := Go.Op.move (Go.Operand.tmp 0), type := 22, pos := "ref.go:67", after := #[], guard := none }) (v := ?_) rfl (by kernel_rfl) (by kernel_rfl) (by kernel_rfl) (fun _ _ _ h => h) (Or.inl ⟨by rfl, ?_⟩) (by assumption) ?_
              rotate_left 1
              · intro w' hSw
                first | (go_simp; done) | (go_simp; with_reducible rfl)
              try simp only [Act.put, List.getElem_toArray, List.getElem_cons_succ, List.getElem_cons_zero, List.setIfInBounds_toArray, List.set_cons_zero, List.set_cons_succ]
              refine wpAnyH_take (i := 3) (oi := { dst := some 32, op := Go.Op.move (Go.Operand.tmp 4), type := 3, pos := "ref.go:67", after := #[], guard := none }) (v := ?_) rfl (by kernel_rfl) (by kernel_rfl) (by kernel_rfl) (fun _ _ _ h => h) (Or.inl ⟨by rfl, ?_⟩) (by assumption) ?_
              rotate_left 1
              · intro w' hSw
                first | (go_simp; done) | (go_simp; with_reducible rfl)
              try simp only [Act.put, List.getElem_toArray, List.getElem_cons_succ, List.getElem_cons_zero, List.setIfInBounds_toArray, List.set_cons_zero, List.set_cons_succ]
              refine wpAnyH_take (i := 4) (oi := { dst := some 33, op := Go.Op.slice 22 (Go.Operand.tmp 31) none (some (Go.Operand.tmp 32)) none, type := 22, pos := "ref.go:67", after := #[{ on := 2, ground := Go.Ground.data }, { on := 3, ground := Go.Ground.data }], guard := none }) (v := ?_) rfl (by kernel_rfl) (by kernel_rfl) (by kernel_rfl) (fun _ _ _ h => h) (Or.inl ⟨by rfl, ?_⟩) (by assumption) ?_
              rotate_left 1
              · intro w' hSw
                first | (go_simp; done) | (go_simp; with_reducible rfl)
              try simp only [Act.put, List.getElem_toArray, List.getElem_cons_succ, List.getElem_cons_zero, List.setIfInBounds_toArray, List.set_cons_zero, List.set_cons_succ]
              refine wpAnyH_ready (rs := [5, 7]) (by kernel_rfl) (by simp) ?_
              refine (AllReadyH.cons (o := { dst := some 34, op := Go.Op.call { callee := Go.Callee.value (Go.Operand.func 20), args := #[Go.Operand.tmp 33], argTypes := #[22] }, type := 30, pos := "ref.go:67", after := #[{ on := 4, ground := Go.Ground.data }], guard := none }) rfl (fun K hK => ?_) (AllReadyH.cons (o := { dst := some 7, op := Go.Op.alloc 32, type := 0, pos := "ref.go:67", after := #[], guard := none }) rfl (fun K hK => ?_) AllReadyH.nil))
              ·
                go_simp
                go_at_call 20
                (refine (kP.out _ (hmt.out.below (bl_then hB6.out hHeld))).mono ?_)
                rintro e wa ⟨rfl, hBp⟩
                have hS5 := bl_then hHeld hBp
                try (have hz : Bk wa W.heap.size #[.int .i64 0, .int .u64 0, .int .u64 0, .int .u64 0, .int .u64 0, .int .u64 0] 32 := bk_below hBp (bk_new W.drew #[.int .i64 0, .int .u64 0, .int .u64 0, .int .u64 0, .int .u64 0, .int .u64 0] 32); obtain ⟨t0, t1, t2, t3, t4, t5, u0, u1, u2, u3, u4, u5⟩ := hold6 hz)
                go_wp2_with (fail)
                refine hK.out _ _ ?_ (fun hHeld => ?_)
                · first | with_reducible exact hHeld | with_reducible exact bl_then hHeld hBp | with_reducible exact hS5 | with_reducible exact bl_alloc hS5 _ | with_reducible exact bl_set6 hS5 (Nat.le_refl _) | exact bl_alloc hHeld _
                clear hK K
                try simp only [Act.put, List.getElem_toArray, List.getElem_cons_succ, List.getElem_cons_zero, List.setIfInBounds_toArray, List.set_cons_zero, List.set_cons_succ]
                refine wpAnyH_take (i := 6) (oi := { dst := some 35, op := Go.Op.build 32 #[(0, Go.Operand.tmp 30), (1, Go.Operand.tmp 34)], type := 32, pos := "ref.go:67", after := #[{ on := 1, ground := Go.Ground.data }, { on := 5, ground := Go.Ground.data }], guard := none }) (v := ?_) rfl (by kernel_rfl) (by kernel_rfl) (by kernel_rfl) (fun _ _ _ h => h) (Or.inl ⟨by rfl, ?_⟩) (by assumption) ?_
                rotate_left 1
                · intro w' hSw
                  first | (go_simp; done) | (go_simp; with_reducible rfl)
                try simp only [Act.put, List.getElem_toArray, List.getElem_cons_succ, List.getElem_cons_zero, List.setIfInBounds_toArray, List.set_cons_zero, List.set_cons_succ]
                refine wpAnyH_ready (rs := [7]) (by kernel_rfl) (by simp) ?_
                refine (AllReadyH.cons (o := { dst := some 7, op := Go.Op.alloc 32, type := 0, pos := "ref.go:67", after := #[], guard := none }) rfl (fun K hK => ?_) AllReadyH.nil)
                go_simp
                skip
                refine hK.out _ _ ?_ (fun hHeld => ?_)
                · first | with_reducible exact hHeld | with_reducible exact bl_then hHeld hBp | with_reducible exact hS5 | with_reducible exact bl_alloc hS5 _ | with_reducible exact bl_set6 hS5 (Nat.le_refl _) | exact bl_alloc hHeld _
                clear hK K
                try simp only [Act.put, List.getElem_toArray, List.getElem_cons_succ, List.getElem_cons_zero, List.setIfInBounds_toArray, List.set_cons_zero, List.set_cons_succ]
                refine wpAnyH_ready (rs := [8]) (by kernel_rfl) (by simp) ?_
                refine (AllReadyH.cons (o := { dst := none, op := Go.Op.store 32 (Go.Operand.tmp 7) (Go.Operand.tmp 35), type := 0, pos := "ref.go:67", after := #[{ on := 7, ground := Go.Ground.data }, { on := 6, ground := Go.Ground.data }, { on := 5, ground := Go.Ground.chain }, { on := 0, ground := Go.Ground.phase }, { on := 1, ground := Go.Ground.phase }, { on := 2, ground := Go.Ground.phase }, { on := 3, ground := Go.Ground.phase }, { on := 4, ground := Go.Ground.phase }, { on := 5, ground := Go.Ground.phase }, { on := 6, ground := Go.Ground.phase }, { on := 7, ground := Go.Ground.phase }], guard := none }) rfl (fun K hK => ?_) AllReadyH.nil)
                go_simp
                skip
                refine hK.out _ _ ?_ (fun hHeld => ?_)
                · first | with_reducible exact hHeld | with_reducible exact bl_then hHeld hBp | with_reducible exact hS5 | with_reducible exact bl_alloc hS5 _ | with_reducible exact bl_set6 hS5 (Nat.le_refl _) | exact bl_alloc hHeld _
                clear hK K
                try simp only [Act.put, List.getElem_toArray, List.getElem_cons_succ, List.getElem_cons_zero, List.setIfInBounds_toArray, List.set_cons_zero, List.set_cons_succ]
                refine wpAnyH_done (by kernel_rfl) ?_ _
                refine NoPanic.normal ?_
                go_wp2_with (fail)
                go_meet
                first | exact ⟨wa.heap.size, by with_reducible rfl, hS5.size, by with_reducible exact bk_new wa _ _, by with_reducible exact bl_alloc hS5 _⟩ | exact ⟨W.heap.size, by with_reducible rfl, Nat.le_refl _, by with_reducible exact bk_set6 hz, by with_reducible exact bl_set6 hS5 (Nat.le_refl _)⟩
              ·
                go_simp
                skip
                refine hK.out _ _ ?_ (fun hHeld => ?_)
                · first | with_reducible exact hHeld | with_reducible exact bl_then hHeld hBp | with_reducible exact hS5 | with_reducible exact bl_alloc hS5 _ | with_reducible exact bl_set6 hS5 (Nat.le_refl _) | exact bl_alloc hHeld _
                clear hK K
                try simp only [Act.put, List.getElem_toArray, List.getElem_cons_succ, List.getElem_cons_zero, List.setIfInBounds_toArray, List.set_cons_zero, List.set_cons_succ]
                refine wpAnyH_ready (rs := [5]) (by kernel_rfl) (by simp) ?_
                refine (AllReadyH.cons (o := { dst := some 34, op := Go.Op.call { callee := Go.Callee.value (Go.Operand.func 20), args := #[Go.Operand.tmp 33], argTypes := #[22] }, type := 30, pos := "ref.go:67", after := #[{ on := 4, ground := Go.Ground.data }], guard := none }) rfl (fun K hK => ?_) AllReadyH.nil)
                go_simp
                go_at_call 20
                (refine (kP.out _ (hmt.out.below (bl_then hB6.out hHeld))).mono ?_)
                rintro e wa ⟨rfl, hBp⟩
                have hS5 := bl_then hHeld hBp
                try (have hz : Bk wa W.heap.size #[.int .i64 0, .int .u64 0, .int .u64 0, .int .u64 0, .int .u64 0, .int .u64 0] 32 := bk_below hBp (bk_new W.drew #[.int .i64 0, .int .u64 0, .int .u64 0, .int .u64 0, .int .u64 0, .int .u64 0] 32); obtain ⟨t0, t1, t2, t3, t4, t5, u0, u1, u2, u3, u4, u5⟩ := hold6 hz)
                go_wp2_with (fail)
                refine hK.out _ _ ?_ (fun hHeld => ?_)
                · first | with_reducible exact hHeld | with_reducible exact bl_then hHeld hBp | with_reducible exact hS5 | with_reducible exact bl_alloc hS5 _ | with_reducible exact bl_set6 hS5 (Nat.le_refl _) | exact bl_alloc hHeld _
                clear hK K
                try simp only [Act.put, List.getElem_toArray, List.getElem_cons_succ, List.getElem_cons_zero, List.setIfInBounds_toArray, List.set_cons_zero, List.set_cons_succ]
                refine wpAnyH_take (i := 6) (oi := { dst := some 35, op := Go.Op.build 32 #[(0, Go.Operand.tmp 30), (1, Go.Operand.tmp 34)], type := 32, pos := "ref.go:67", after := #[{ on := 1, ground := Go.Ground.data }, { on := 5, ground := Go.Ground.data }], guard := none }) (v := ?_) rfl (by kernel_rfl) (by kernel_rfl) (by kernel_rfl) (fun _ _ _ h => h) (Or.inl ⟨by rfl, ?_⟩) (by assumption) ?_
                rotate_left 1
                · intro w' hSw
                  first | (go_simp; done) | (go_simp; with_reducible rfl)
                try simp only [Act.put, List.getElem_toArray, List.getElem_cons_succ, List.getElem_cons_zero, List.setIfInBounds_toArray, List.set_cons_zero, List.set_cons_succ]
                refine wpAnyH_ready (rs := [8]) (by kernel_rfl) (by simp) ?_
                refine (AllReadyH.cons (o := { dst := none, op := Go.Op.store 32 (Go.Operand.tmp 7) (Go.Operand.tmp 35), type := 0, pos := "ref.go:67", after := #[{ on := 7, ground := Go.Ground.data }, { on := 6, ground := Go.Ground.data }, { on := 5, ground := Go.Ground.chain }, { on := 0, ground := Go.Ground.phase }, { on := 1, ground := Go.Ground.phase }, { on := 2, ground := Go.Ground.phase }, { on := 3, ground := Go.Ground.phase }, { on := 4, ground := Go.Ground.phase }, { on := 5, ground := Go.Ground.phase }, { on := 6, ground := Go.Ground.phase }, { on := 7, ground := Go.Ground.phase }], guard := none }) rfl (fun K hK => ?_) AllReadyH.nil)
                go_simp
                skip
                refine hK.out _ _ ?_ (fun hHeld => ?_)
                · first | with_reducible exact hHeld | with_reducible exact bl_then hHeld hBp | with_reducible exact hS5 | with_reducible exact bl_alloc hS5 _ | with_reducible exact bl_set6 hS5 (Nat.le_refl _) | exact bl_alloc hHeld _
                clear hK K
                try simp only [Act.put, List.getElem_toArray, List.getElem_cons_succ, List.getElem_cons_zero, List.setIfInBounds_toArray, List.set_cons_zero, List.set_cons_succ]
                refine wpAnyH_done (by kernel_rfl) ?_ _
                refine NoPanic.normal ?_
                go_wp2_with (fail)
                go_meet
                first | exact ⟨wa.heap.size, by with_reducible rfl, hS5.size, by with_reducible exact bk_new wa _ _, by with_reducible exact bl_alloc hS5 _⟩ | exact ⟨W.heap.size, by with_reducible rfl, Nat.le_refl _, by with_reducible exact bk_set6 hz, by with_reducible exact bl_set6 hS5 (Nat.le_refl _)⟩
            case rest =>
              obtain ⟨g7, rfl, hg7, hk7, hBy⟩ := hcut
              have hs7 := bk_below hBy hs6.out
              obtain ⟨s1, s3⟩ := (show _ ∧ _ from ⟨(bk_cell hs7 1).trans rfl, (bk_cell hs7 3).trans rfl⟩)
              obtain ⟨q0, q1, q2, q3, q4, q5, r0, r1, r2, r3, r4, r5⟩ := hold6 hk7
              replace hBy := Lib.hid hBy
              have hstep2 := hstep2.out
              by_cases ht : m.tier = 1
              · have e3 : (m.tier == 1) = true := by simp [ht]
                have hro : rowOf m Pd = ((m.sub, Pd), (1, (m.nb : Int), 0, 0)) := by unfold rowOf rowV; rw [if_pos ht]
                have hxo : RwOk ((m.sub, Pd), (1, (m.nb : Int), 0, 0)) := ⟨⟨hmk.out.1, hrki.out.2⟩, bv1 m.nb (by have := hmb.out; omega)⟩
                have hkp := put_any' D P c m.sub Pd 1 (m.nb : Int) 0 0
                rw [hro] at hstep2
                have hBw := bl_set (bl_set hBy.out (p := ⟨g7, 2, none⟩) hg7 (.int .u64 1)) (p := ⟨g7, 3, none⟩) hg7 (.int .u64 m.nb)
                have hDw := hD6.out.below hBw
                have hkq := hkp _ hDw hP.out.ok hxo (by omega) hPc hcm
                replace hkq := Lib.hid hkq
                replace hBw := Lib.hid hBw
                replace ht := Lib.hid ht
                replace hro := Lib.hid hro
                replace hxo := Lib.hid hxo
                replace hstep2 := Lib.hid hstep2
                clear hkp hDw
                go_wp2_with (fail)
                refine hkq.out.mono ?_; rintro e w9 ⟨A9, c9, rfl, r9, l9, m9, hB9⟩
                have hpl := put_len ((m.sub, Pd), (1, (m.nb : Int), 0, 0)) P
                have hBv := bl_then (bl_then hB6.out hBw.out) hB9
                have hPs : PutS (putR ((m.sub, Pd), (1, (m.nb : Int), 0, 0)) P) (rowsL (ms.take (i + 1))).1 := by rw [hstep2.out]; exact hP.out.step hrki.out.1 hxo.out
                obtain ⟨Q, hQ⟩ : ∃ Q, putR ((m.sub, Pd), (1, (m.nb : Int), 0, 0)) P = Q := ⟨_, rfl⟩
                rw [hQ] at r9 l9 hpl hPs ⊢
                replace r9 := Lib.hid r9
                replace hPs := Lib.hid hPs
                replace hBv := Lib.hid hBv
                clear hQ hkq hB9
                go_wp2
                exact ⟨⟨i + 1, Q, A9, c9, by first | rfl | (congr 1; omega), by omega, rfl, hPs.out, r9.out, l9, m9, by omega, hBv.out⟩, by simp [intOf]; omega⟩
              · have e3 : (m.tier == 1) = false := by simp [ht]
                have hro : rowOf m Pd = ((m.sub, Pd), (0, 0, 1, (m.nb : Int))) := by unfold rowOf rowV; rw [if_neg ht]
                have hxo : RwOk ((m.sub, Pd), (0, 0, 1, (m.nb : Int))) := ⟨⟨hmk.out.1, hrki.out.2⟩, bv2 m.nb (by have := hmb.out; omega)⟩
                have hkp := put_any' D P c m.sub Pd 0 0 1 (m.nb : Int)
                rw [hro] at hstep2
                have hBw := bl_set (bl_set hBy.out (p := ⟨g7, 4, none⟩) hg7 (.int .u64 1)) (p := ⟨g7, 5, none⟩) hg7 (.int .u64 m.nb)
                have hDw := hD6.out.below hBw
                have hkq := hkp _ hDw hP.out.ok hxo (by omega) hPc hcm
                replace hkq := Lib.hid hkq
                replace hBw := Lib.hid hBw
                replace ht := Lib.hid ht
                replace hro := Lib.hid hro
                replace hxo := Lib.hid hxo
                replace hstep2 := Lib.hid hstep2
                clear hkp hDw
                go_wp2_with (fail)
                refine hkq.out.mono ?_; rintro e w9 ⟨A9, c9, rfl, r9, l9, m9, hB9⟩
                have hpl := put_len ((m.sub, Pd), (0, 0, 1, (m.nb : Int))) P
                have hBv := bl_then (bl_then hB6.out hBw.out) hB9
                have hPs : PutS (putR ((m.sub, Pd), (0, 0, 1, (m.nb : Int))) P) (rowsL (ms.take (i + 1))).1 := by rw [hstep2.out]; exact hP.out.step hrki.out.1 hxo.out
                obtain ⟨Q, hQ⟩ : ∃ Q, putR ((m.sub, Pd), (0, 0, 1, (m.nb : Int))) P = Q := ⟨_, rfl⟩
                rw [hQ] at r9 l9 hpl hPs ⊢
                replace r9 := Lib.hid r9
                replace hPs := Lib.hid hPs
                replace hBv := Lib.hid hBv
                clear hQ hkq hB9
                go_wp2
                exact ⟨⟨i + 1, Q, A9, c9, by first | rfl | (congr 1; omega), by omega, rfl, hPs.out, r9.out, l9, m9, by omega, hBv.out⟩, by simp [intOf]; omega⟩
          · have e1 : (m.kind != 2) = false := by simp [hk]
            have e2 : (m.err != 0) = true := by simp [he]
            have hsb : sentB m = false := by unfold sentB; simp [he]
            have hstep2 := hstep.out
            rw [hsb, if_neg Bool.false_ne_true] at hstep2
            replace hk := Lib.hid hk
            replace he := Lib.hid he
            replace hstep2 := Lib.hid hstep2
            clear hstep
            go_wp2
            exact ⟨⟨i + 1, P, D, c, by first | rfl | (congr 1; omega), by omega, rfl, by rw [hstep2.out]; exact hP.out, hDc.out, hPc, hcm, by omega, hBc.out⟩, by simp [intOf]; omega⟩
        · have e1 : (m.kind != 2) = true := by simp [hk]
          have hsb : sentB m = false := by unfold sentB; simp [hk]
          have hstep2 := hstep.out
          rw [hsb, if_neg Bool.false_ne_true] at hstep2
          replace hk := Lib.hid hk
          replace hstep2 := Lib.hid hstep2
          clear hstep
          go_wp2
          exact ⟨⟨i + 1, P, D, c, by first | rfl | (congr 1; omega), by omega, rfl, by rw [hstep2.out]; exact hP.out, hDc.out, hPc, hcm, by omega, hBc.out⟩, by simp [intOf]; omega⟩
    · have hil2 : decide ((i : Int) < (N : Int)) = false := decide_eq_false (by omega)
      obtain rfl : i = N := by omega
      rw [show ms.take i = ms by rw [← hN.out]; exact List.take_length, hO.out] at hP
      replace hP := Lib.hid hP
      replace hD := Lib.hid hD
      replace hBr := Lib.hid hBr
      go_wp2
      go_ret
      exact ⟨D, c, P, rfl, hD.out, hP.out, by omega, hBr.out⟩
def IsMomsC (w : World) (A : Option Addr) (len cap : Nat) : Prop := IsMoms w A len ∧ len ≤ cap
theorem isMomsC_of {w : World} {base fuel : Nat} {held : Bool} {H : Type} {enc : TypeId × Value → H} {A : Option Addr} {len cap : Nat} {x : Go.DataW H × List Go.MemPlace}
    (h : Go.DataW.trod enc Tryd.prog w base (fun _ => true) held fuel 22 [.slice A len cap] = some x) : IsMomsC w A len cap := by
  refine ⟨isMoms_of h, ?_⟩
  rcases Deep.open_slice Tryd.underlying22 h with ⟨h0, _⟩ | ⟨a, l, c, m, n, D, Pl, h0, hb, hl, hm, hmm, rfl, hx⟩
  · simp at h0
    omega
  · simp only [List.cons.injEq, Value.slice.injEq, and_true] at h0
    obtain ⟨rfl, rfl, rfl⟩ := h0
    exact hl
set_option maxHeartbeats 3200000 in
theorem billRows_walk (A : Option Addr) (la ca : Nat) {w : World} (ha : IsMomsC w A la ca) :
    Calls Tryd.prog 3 #[.slice A la ca] w fun e w' => e = .returned (.bool true) ∧ Below w.heap.size w w' := by
  obtain ⟨⟨ms, rfl, hA⟩, hlc⟩ := ha
  replace hA := Lib.hid hA
  replace hlc := Lib.hid hlc
  go_enter Tryd.func3, Tryd.ntmps3
  go_wp2_with (fail)
  refine (billAlive_any _).mono ?_; rintro e w1 ⟨rfl, hB1⟩
  go_wp2_with (fail)
  refine (great_any A ms ca _ (hA.out.below hB1)).mono ?_; rintro e w2 ⟨⟨G, rfl, hG⟩, hB2⟩
  have hBa := bl_then hB1 hB2
  clear hB1 hB2
  cases G with
  | true =>
    clear hG
    go_wp2
    go_ret
    exact ⟨rfl, hBa⟩
  | false =>
    obtain ⟨h300, hnb⟩ := hG rfl
    have hms := hA.out.below hBa
    have hmo : ∀ m ∈ ms, MoOk m := fun m hm => by
      obtain ⟨j, hj, rfl⟩ := List.mem_iff_getElem.1 hm
      have := (hA.out.at_ hnb j hj).1
      rwa [List.getD_eq_getElem?_getD, List.getElem?_eq_getElem hj] at this
    have hro : AllOk (rowsL ms).1 := (rows_ok hmo).1
    have k1 := rows_any A ms ca w2 (hms.at_ hnb) h300
    have k2 := fun (W : World) (h : MomIn W A ms) => rrows_any A ms ca W h hnb h300 hlc.out
    replace k1 := Lib.hid k1
    replace k2 := Lib.hid k2
    replace hro := Lib.hid hro
    replace hnb := Lib.hid hnb
    replace hBa := Lib.hid hBa
    clear hG hms hmo h300
    go_wp2_with (fail)
    refine k1.out.mono ?_; rintro e w3 ⟨A3, c3, d, rfl, r3, ho, hm, hok, hdl, hB3⟩
    have m3 : Mg d (rowsL ms).1 := ⟨ho, hm, hok, hdl⟩
    have hBb := bl_then hBa.out hB3
    replace r3 := Lib.hid r3
    replace m3 := Lib.hid m3
    replace hBb := Lib.hid hBb
    clear ho hm hok hdl hB3 k1 hBa
    go_wp2_with (fail)
    refine (k2.out _ (hA.out.below hBb.out)).mono ?_; rintro e w4 ⟨D, c4, P, rfl, r4, hP, hP3, hB4⟩
    have hBc := bl_then hBb.out hB4
    have hsm := same_at A3 (some D) c3 c4 d P w4 (rows_same m3.out hP hro.out) (r3.out.below hB4) r4 hP.ok (by omega)
    replace hsm := Lib.hid hsm
    replace hBc := Lib.hid hBc
    clear r3 r4 hP hB4 hBb k2
    go_wp2_with (fail)
    refine hsm.out.mono ?_; rintro e w5 ⟨rfl, hB5⟩
    go_wp2
    go_ret
    exact ⟨rfl, bl_then hBc.out hB5⟩
end Go.Proofs.YtebeknnjjoobnaaDoor
