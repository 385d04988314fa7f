/- Contract: the event of any bytes (the reference's): a commit; all kinds. Contracts: eventAlive, great; an event that came in; the walk of EventNames. -/
import Derived.Test.YtfcekicjlgdmaaaEvG
import Derived.Test.YtfcekicjlgdmaaaEvIn
import Derived.Test.YtfcekicjlgdmaaaRowIn
set_option linter.unusedVariables false
set_option linter.unusedSimpArgs false
set_option maxRecDepth 100000
namespace Go.Proofs.Ytfcekicjlgdmaaa
open Go.RowKit Go.Shelf Go.Proofs.YtfcekicjlgdmaaaW.PrintWords
attribute [local go_sem] max2_int min2_int max_two min_two
set_option maxHeartbeats 12800000 in
theorem rread_1 (A : Option Addr) (cap : Nat) (xs : List Int) (w : World) (hr : ReadsInt w .u8 A xs.length xs) (hcap : xs.length ≤ cap) (hcm : cap ≤ 9223372036854775807) (hb : ∀ x ∈ xs, 0 ≤ x ∧ x ≤ 255) (m : Int) (r : List Int) (q : Nat) (hq : r.length = q) (hv : allV xs = ((1 : Int) :: m :: r, 0)) (hg : GoodL xs ((1 : Int) :: m :: r)) :
    Calls Try.prog 34 #[.slice A xs.length cap] w (ReadPost xs w) := by
  have hx2 := bk_new w #[.int .i64 0, .int .i64 0, .slice none 0 0, .slice none 0 0, .int .u64 0, .int .u64 0] 53
  have hB0 := bl_alloc (Below.refl _ w) (.cells #[.int .i64 0, .int .i64 0, .slice none 0 0, .slice none 0 0, .int .u64 0, .int .u64 0] 53)
  have hr0 := hr.below hB0
  have hall := fun W hW => rall_any A cap xs W hW hcap hcm hb
  unfold MakesAll at hall
  have hUr : U64 r := fun n hn => hg.1 n (List.mem_cons_of_mem _ (List.mem_cons_of_mem _ hn))
  have hmU := hg.1 m (by simp)
  have hq126 : q ≤ 126 := by have := hg.2.1; rw [List.length_cons, List.length_cons, hq] at this; omega
  have hnob : NoEv (1 :: m :: r) → NoBytes xs := fun h => h.bytes hg
  have hxb := hb
  have hcv2 := fun W A cc h => cv8 W A cc xs h
  obtain ⟨a, ha⟩ : ∃ a : Int, a = 1 := ⟨_, rfl⟩
  rw [← ha] at hv
  rw [hv] at hall
  obtain ⟨L, hL⟩ : ∃ L, a :: m :: r = L := ⟨_, rfl⟩
  have hLl : L.length = q + 2 := by rw [← hL, List.length_cons, List.length_cons, hq]
  have hL0 : L.getD 0 0 = a := by rw [← hL]; rfl
  have hL1 : L.getD 1 0 = m := by rw [← hL]; rfl
  have hLi : ∀ i, L.getD (i + 2) 0 = r.getD i 0 := fun i => by rw [← hL]; rfl
  have hLd : ∀ i, L.drop (i + 2) = r.drop i := fun i => by rw [← hL]; rfl
  rw [hL] at hall
  dsimp only at hall
  rw [hLl] at hall
  replace hL := Lib.hid hL
  replace hLl := Lib.hid hLl
  replace hL0 := Lib.hid hL0
  replace hL1 := Lib.hid hL1
  replace hLi := Lib.hid hLi
  replace hLd := Lib.hid hLd
  have hq7 : decide ((q : Int) + 2 < 2) = false := decide_eq_false (by omega)
  subst ha
  obtain ⟨X, hX⟩ : ∃ X : Nat → List Int, ∀ i, X i = r.take i := ⟨_, fun _ => rfl⟩
  have hX0 : X 0 = [] := by rw [hX]; simp
  have hXs : ∀ i, i < q → X (i + 1) = X i ++ [r.getD i 0] := fun i hi => by rw [hX, hX]; exact take_succ_getD r i (by rw [hq]; exact hi)
  have hXl : ∀ i, (X i).length ≤ 126 := fun i => by rw [hX, List.length_take]; omega
  replace hX := Lib.hid hX
  replace hX0 := Lib.hid hX0
  replace hXs := Lib.hid hXs
  replace hXl := Lib.hid hXl
  replace hq := Lib.hid hq
  replace hnob := Lib.hid hnob
  replace hUr := Lib.hid hUr
  replace hcv2 := Lib.hid hcv2
  replace hxb := Lib.hid hxb
  replace hg := Lib.hid hg
  replace hx2 := Lib.hid hx2
  replace hB0 := Lib.hid hB0
  replace hr0 := Lib.hid hr0
  replace hall := Lib.hid hall
  clear hr hb
  go_enter Try.func34, Try.ntmps34
  go_wp2_with (first | (go_at_call 54; (with_reducible refine (hall.out _ hr0.out).mono ?_); rintro e w1 ⟨v1, rfl, ho1, hq1⟩; obtain ⟨Al, cl, rfl, hrl⟩ := own_reads ho1; have hB1 := bl_then hB0.out hq1; have j2 := bk_below hq1 hx2.out; obtain ⟨x0, x1, x2, x3, x4, x5, xf0, xf1, xf2, xf3, xf4, xf5⟩ := cells6 j2; obtain ⟨ad, rfl, _⟩ := hrl.2.2 (Nat.succ_pos _); have c0 := rd_0 hrl (Nat.succ_pos _) hL0.out; have hlt1 := World.block_lt_of_cell? w1 ad c0; have hne1 : ¬ ad.block = w1.heap.size := Nat.ne_of_lt hlt1; have hcle := own_le ho1; have hcmx := own_capm ho1; have hlt2 := bk_lt j2; have hne2 : ¬ w.heap.size = w1.heap.size := Nat.ne_of_lt hlt2; have c1 := rd_j hrl (j := 1) (Nat.succ_lt_succ (Nat.succ_pos _)) (by decide) hL1.out))
  have b6 := bk_new w1 #[.int .i64 1, .int .i64 0, .slice none 0 0, .slice none 0 0, .int .u64 0, .int .u64 0] 53
  clear x0 x1 x2 x3 x4 x5 xf0 xf1 xf2 xf3 xf4 xf5
  replace hrl := Lib.hid hrl
  replace hq1 := Lib.hid hq1
  go_loopw [7, 8] (fun v7 v8 wr => ∃ (i a : Nat) (vd : Value), v7 = .int .i64 a ∧ v8 = .int .u64 i ∧ a = i + 2 ∧ i ≤ q ∧ (i : Int) ≤ m ∧ Bk wr w1.heap.size #[.int .i64 1, .int .i64 0, .slice none 0 0, vd, .int .u64 0, .int .u64 0] 53 ∧ wr.ownsRow w1.heap.size 3 1 vd (X i).length (nums .i64 (X i)) ∧ Below w1.heap.size w1 wr) (fun v7 _ _ => q + 2 - (intOf v7).toNat)
  case atStart => exact ⟨0, 2, .slice none 0 0, rfl, rfl, rfl, Nat.zero_le _, hmU.1, b6, by rw [hX0.out]; exact own_nil _ _ _ _, bl_alloc (Below.refl _ _) _⟩
  case round =>
    obtain ⟨i, a, vd, rfl, rfl, ha, hiq, him, k6, ko, hBl⟩ := hrel
    obtain ⟨Ad, cd, rfl, _⟩ := own_reads ko
    have hlt6 : w1.heap.size < wr.heap.size := bk_lt k6
    have hne6 : ¬ w1.heap.size = wr.heap.size := Nat.ne_of_lt hlt6
    have k2 := bk_below hBl j2
    have c1' := cl_far hBl c1
    have hBw := bl_then hB1 hBl
    have hg26 : w.heap.size ≠ w1.heap.size := hne2
    replace ha := Lib.hid ha
    by_cases hmi : (i : Int) < m
    · have d1 : decide ((i : Int) < m) = true := decide_eq_true hmi
      by_cases hii : i < q
      · have d2 : decide ((a : Int) < (q : Int) + 2) = true := decide_eq_true (by have := ha.out; omega)
        have ha1 : (a : Int) < (q : Int) + 2 := by have := ha.out; omega
        have ha2 : decide ((a : Int) < 0) = false := decide_eq_false (by omega)
        have ha4 : decide (q + 2 ≤ a) = false := decide_eq_false (by have := ha.out; omega)
        have hcell : w1.cell? (ad.add a) = some (.int .u64 (r.getD i 0)) := by
          obtain ⟨ad', e, hc⟩ := hrl.out.2.2 (Nat.succ_pos _)
          obtain rfl := Option.some.inj e
          have := hc a (by have := ha.out; omega)
          rw [ha.out, hLi.out] at this
          rw [ha.out]
          exact this
        have hxs := hXs.out i hii
        have hdr := U64.getD hUr.out (show i < r.length by rw [hq.out]; exact hii)
        have hdrop : 255 < r.getD i 0 → NoEv (1 :: m :: r) := fun h => noEv_drop (by rw [hq.out]; exact hii) hmi h
        obtain ⟨d, hdd⟩ : ∃ d, r.getD i 0 = d := ⟨_, rfl⟩
        rw [hdd] at hcell hxs hdr hdrop
        replace hdd := Lib.hid hdd
        replace hxs := Lib.hid hxs
        replace hdrop := Lib.hid hdrop
        have hcw := cl_far hBl hcell
        by_cases hbig : 255 < d
        · have d3 : decide (255 < d) = true := decide_eq_true hbig
          obtain ⟨x0, x1, x2, x3, x4, x5, xf0, xf1, xf2, xf3, xf4, xf5⟩ := cells6 k2
          have hno := hnob.out (hdrop.out hbig)
          go_wp2
          exact bodyPost_ret (res_rread (bk_set6 k2) _ rfl rfl) rfl (.inr ⟨hno, rfl, bl_set6 hBw (Nat.le_refl _)⟩)
        · have d3 : decide (255 < d) = false := decide_eq_false hbig
          have hwd : IntKind.i64.wrap d = d := by rw [IntKind.wrap_i64]; omega
          have hwa : IntKind.i64.wrap ((a : Int) + 1) = (a : Int) + 1 := by rw [IntKind.wrap_i64]; have := ha.out; omega
          have hwi : IntKind.u64.wrap ((i : Int) + 1) = (i : Int) + 1 := by rw [IntKind.wrap_u64]; omega
          obtain ⟨v1, w2, hrun, ho2, hg2⟩ := run_append_int wr.drew w1.heap.size 51 (.slice Ad (X i).length cd) (X i) d ko (by have := hXl.out i; omega) hBl.size
          rw [← hxs.out] at ho2
          obtain ⟨A', c', rfl, _⟩ := own_reads ho2
          have koW : (wr.drew.alloc (.cells #[.int .i64 d] 3)).ownsRow w1.heap.size 3 1 (.slice Ad (X i).length cd) (X i).length (nums .i64 (X i)) := pw_own_below (show wr.drew.ownsRow w1.heap.size 3 1 (.slice Ad (X i).length cd) (X i).length (nums .i64 (X i)) from ko) (bl_alloc (Below.refl _ _) _)
          have k6b := bk_own (bk_alloc (bk_drew k6) _) koW hg2 (by decide)
          have hB2 : Below w1.heap.size w1 w2 := (bl_alloc (bl_drew hBl) _).grown hg2 (bl_alloc (bl_drew hBl) _).size (own_base koW)
          obtain ⟨y0, y1, y2, y3, y4, y5, yf0, yf1, yf2, yf3, yf4, yf5⟩ := cells6 k6b
          have x3w : wr.cell? ⟨w1.heap.size, 3, none⟩ = some (.slice Ad (X i).length cd) := (cells6 k6).2.2.2.1
          have x3d : wr.drew.cell? ⟨w1.heap.size, 3, none⟩ = some (.slice Ad (X i).length cd) := (cells6 (bk_drew k6)).2.2.2.1
          have hc2 : w2.cell? (ad.add a) = some (.int .u64 d) := cl_far hB2 hcell
          have hc3 : (w2.setCell ⟨w1.heap.size, 3, none⟩ (.slice A' (X (i + 1)).length c')).cell? (ad.add a) = some (.int .u64 d) := cl_far (bl_set hB2 (Nat.le_refl _) _) hcell
          have hB3 := bl_set (p := ⟨w1.heap.size, 3, none⟩) hB2 (Nat.le_refl _) (.slice A' (X (i + 1)).length c')
          have k6c : Bk (w2.setCell ⟨w1.heap.size, 3, none⟩ (.slice A' (X (i + 1)).length c')) w1.heap.size #[.int .i64 1, .int .i64 0, .slice none 0 0, .slice A' (X (i + 1)).length c', .int .u64 0, .int .u64 0] 53 := bk_put k6b rfl
          have ko3 := own_setCell ho2 (p := ⟨w1.heap.size, 3, none⟩) (own_ne ho2 k6b (by decide)) (.slice A' (X (i + 1)).length c')
          replace hg2 := Lib.hid hg2
          replace koW := Lib.hid koW
          replace ko3 := Lib.hid ko3
          replace k6c := Lib.hid k6c
          replace hB3 := Lib.hid hB3
          go_wp2_with (fail)
          clear hcell c1 c0
          refine wp_region_noPanic ?_
          refine wp_region_held_drew (S := fun w' => w'.cell? (ad.add a) = some (.int .u64 d)) (by kernel_rfl) (hcw) (fun hHeld => ?_)
          refine wpAnyH_take (i := 0) (oi := { dst := some 60, op := Go.Op.fieldAddr 53 (Go.Operand.tmp 6) 3, type := 0, pos := "ref.go:95", after := #[], guard := none }) (v := ?_) rfl (by kernel_rfl) (by kernel_rfl) (by kernel_rfl) (fun _ _ _ h => h) (Or.inl ⟨by rfl, ?_⟩) (by assumption) ?_
          rotate_left 1
          · intro w' hSw
            first | (go_simp; done) | (go_simp; with_reducible rfl)
          try simp only [Act.put, List.getElem_toArray, List.getElem_cons_succ, List.getElem_cons_zero, List.setIfInBounds_toArray, List.set_cons_zero, List.set_cons_succ]
          refine wpAnyH_take (i := 2) (oi := { dst := some 62, op := Go.Op.move (Go.Operand.tmp 4), type := 29, pos := "ref.go:95", after := #[], guard := none }) (v := ?_) rfl (by kernel_rfl) (by kernel_rfl) (by kernel_rfl) (fun _ _ _ h => h) (Or.inl ⟨by rfl, ?_⟩) (by assumption) ?_
          rotate_left 1
          · intro w' hSw
            first | (go_simp; done) | (go_simp; with_reducible rfl)
          try simp only [Act.put, List.getElem_toArray, List.getElem_cons_succ, List.getElem_cons_zero, List.setIfInBounds_toArray, List.set_cons_zero, List.set_cons_succ]
          refine wpAnyH_take (i := 3) (oi := { dst := some 63, op := Go.Op.move (Go.Operand.tmp 7), type := 3, pos := "ref.go:95", after := #[], guard := none }) (v := ?_) rfl (by kernel_rfl) (by kernel_rfl) (by kernel_rfl) (fun _ _ _ h => h) (Or.inl ⟨by rfl, ?_⟩) (by assumption) ?_
          rotate_left 1
          · intro w' hSw
            first | (go_simp; done) | (go_simp; with_reducible rfl)
          try simp only [Act.put, List.getElem_toArray, List.getElem_cons_succ, List.getElem_cons_zero, List.setIfInBounds_toArray, List.set_cons_zero, List.set_cons_succ]
          refine wpAnyH_take (i := 4) (oi := { dst := some 64, op := Go.Op.indexAddr 29 (Go.Operand.tmp 62) (Go.Operand.tmp 63), type := 0, pos := "ref.go:95", after := #[{ on := 2, ground := Go.Ground.data }, { on := 3, ground := Go.Ground.data }], guard := none }) (v := ?_) rfl (by kernel_rfl) (by kernel_rfl) (by kernel_rfl) (fun _ _ _ h => h) (Or.inl ⟨by rfl, ?_⟩) (by assumption) ?_
          rotate_left 1
          · intro w' hSw
            first | (go_simp; done) | (go_simp; with_reducible rfl)
          try simp only [Act.put, List.getElem_toArray, List.getElem_cons_succ, List.getElem_cons_zero, List.setIfInBounds_toArray, List.set_cons_zero, List.set_cons_succ]
          refine wpAnyH_take (i := 5) (oi := { dst := some 65, op := Go.Op.load 26 (Go.Operand.tmp 64), type := 26, pos := "ref.go:95", after := #[{ on := 4, ground := Go.Ground.data }], guard := none }) (v := ?_) rfl (by kernel_rfl) (by kernel_rfl) (by kernel_rfl) (fun _ _ _ h => h) (Or.inl ⟨by rfl, ?_⟩) (by assumption) ?_
          rotate_left 1
          · intro w' hSw
            first | (go_simp; done) | (go_simp; with_reducible rfl)
          try simp only [Act.put, List.getElem_toArray, List.getElem_cons_succ, List.getElem_cons_zero, List.setIfInBounds_toArray, List.set_cons_zero, List.set_cons_succ]
          refine wpAnyH_take (i := 6) (oi := { dst := some 66, op := Go.Op.convert 26 3 (Go.Operand.tmp 65), type := 3, pos := "ref.go:95", after := #[{ on := 5, ground := Go.Ground.data }], guard := none }) (v := ?_) rfl (by kernel_rfl) (by kernel_rfl) (by kernel_rfl) (fun _ _ _ h => h) (Or.inl ⟨by rfl, ?_⟩) (by assumption) ?_
          rotate_left 1
          · intro w' hSw
            first | (go_simp; done) | (go_simp; with_reducible rfl)
          try simp only [Act.put, List.getElem_toArray, List.getElem_cons_succ, List.getElem_cons_zero, List.setIfInBounds_toArray, List.set_cons_zero, List.set_cons_succ]
          refine wpAnyH_ready (rs := [1, 7]) (by kernel_rfl) (by simp) ?_
          refine (AllReadyH.cons (o := { dst := some 61, op := Go.Op.load 51 (Go.Operand.tmp 60), type := 51, pos := "ref.go:95", after := #[{ on := 0, ground := Go.Ground.data }], guard := none }) rfl (fun K hK => ?_) (AllReadyH.cons (o := { dst := some 67, op := Go.Op.buildSlice 51 1 #[(0, Go.Operand.tmp 66)], type := 51, pos := "ref.go:95", after := #[{ on := 6, ground := Go.Ground.data }], guard := none }) rfl (fun K hK => ?_) AllReadyH.nil))
          ·
            go_simp
            skip
            refine hK.out _ _ ?_ (fun hHeld => ?_)
            · first | with_reducible exact hHeld | with_reducible exact hc2 | with_reducible exact hc3 | exact cl_far (bl_alloc (Below.refl _ _) _) hHeld
            clear hK K
            try simp only [Act.put, List.getElem_toArray, List.getElem_cons_succ, List.getElem_cons_zero, List.setIfInBounds_toArray, List.set_cons_zero, List.set_cons_succ]
            refine wpAnyH_ready (rs := [7]) (by kernel_rfl) (by simp) ?_
            refine (AllReadyH.cons (o := { dst := some 67, op := Go.Op.buildSlice 51 1 #[(0, Go.Operand.tmp 66)], type := 51, pos := "ref.go:95", after := #[{ on := 6, ground := Go.Ground.data }], guard := none }) rfl (fun K hK => ?_) AllReadyH.nil)
            go_simp
            skip
            refine hK.out _ _ ?_ (fun hHeld => ?_)
            · first | with_reducible exact hHeld | with_reducible exact hc2 | with_reducible exact hc3 | exact cl_far (bl_alloc (Below.refl _ _) _) hHeld
            clear hK K
            try simp only [Act.put, List.getElem_toArray, List.getElem_cons_succ, List.getElem_cons_zero, List.setIfInBounds_toArray, List.set_cons_zero, List.set_cons_succ]
            refine wpAnyH_ready (rs := [8]) (by kernel_rfl) (by simp) ?_
            refine (AllReadyH.cons (o := { dst := some 68, op := Go.Op.call { callee := Go.Callee.builtin Go.Builtin.append, args := #[Go.Operand.tmp 61, Go.Operand.tmp 67], argTypes := #[51, 51] }, type := 51, pos := "ref.go:95", after := #[{ on := 1, ground := Go.Ground.data }, { on := 7, ground := Go.Ground.data }], guard := none }) rfl (fun K hK => ?_) AllReadyH.nil)
            refine step_append_run rfl rfl rfl rfl hrun ?_
            refine hK.out _ _ ?_ (fun hHeld => ?_)
            · first | with_reducible exact hHeld | with_reducible exact hc2 | with_reducible exact hc3 | exact cl_far (bl_alloc (Below.refl _ _) _) hHeld
            clear hK K
            try simp only [Act.put, List.getElem_toArray, List.getElem_cons_succ, List.getElem_cons_zero, List.setIfInBounds_toArray, List.set_cons_zero, List.set_cons_succ]
            refine wpAnyH_take (i := 9) (oi := { dst := some 69, op := Go.Op.fieldAddr 53 (Go.Operand.tmp 6) 3, type := 0, pos := "ref.go:95", after := #[{ on := 0, ground := Go.Ground.phase }, { on := 1, ground := Go.Ground.phase }, { on := 2, ground := Go.Ground.phase }, { on := 3, ground := Go.Ground.phase }, { on := 4, ground := Go.Ground.phase }, { on := 5, ground := Go.Ground.phase }, { on := 6, ground := Go.Ground.phase }, { on := 7, ground := Go.Ground.phase }, { on := 8, ground := Go.Ground.phase }], guard := none }) (v := ?_) rfl (by kernel_rfl) (by kernel_rfl) (by kernel_rfl) (fun _ _ _ h => h) (Or.inl ⟨by rfl, ?_⟩) (by assumption) ?_
            rotate_left 1
            · intro w' hSw
              first | (go_simp; done) | (go_simp; with_reducible rfl)
            try simp only [Act.put, List.getElem_toArray, List.getElem_cons_succ, List.getElem_cons_zero, List.setIfInBounds_toArray, List.set_cons_zero, List.set_cons_succ]
            refine wpAnyH_ready (rs := [10]) (by kernel_rfl) (by simp) ?_
            refine (AllReadyH.cons (o := { dst := none, op := Go.Op.store 51 (Go.Operand.tmp 69) (Go.Operand.tmp 68), type := 0, pos := "ref.go:95", after := #[{ on := 9, ground := Go.Ground.data }, { on := 8, ground := Go.Ground.data }, { on := 8, ground := Go.Ground.chain }, { on := 0, ground := Go.Ground.phase }, { on := 1, ground := Go.Ground.phase }, { on := 2, ground := Go.Ground.phase }, { on := 3, ground := Go.Ground.phase }, { on := 4, ground := Go.Ground.phase }, { on := 5, ground := Go.Ground.phase }, { on := 6, ground := Go.Ground.phase }, { on := 7, ground := Go.Ground.phase }, { on := 8, ground := Go.Ground.phase }], guard := none }) rfl (fun K hK => ?_) AllReadyH.nil)
            go_simp
            skip
            refine hK.out _ _ ?_ (fun hHeld => ?_)
            · first | with_reducible exact hHeld | with_reducible exact hc2 | with_reducible exact hc3 | exact cl_far (bl_alloc (Below.refl _ _) _) hHeld
            clear hK K
            try simp only [Act.put, List.getElem_toArray, List.getElem_cons_succ, List.getElem_cons_zero, List.setIfInBounds_toArray, List.set_cons_zero, List.set_cons_succ]
            refine wpAnyH_done (by kernel_rfl) ?_ _
            refine NoPanic.normal ?_
            go_wp2
            exact ⟨⟨i + 1, a + 1, .slice A' (X (i + 1)).length c', by first | rfl | (congr 1; omega), by first | rfl | (congr 1; omega), by have := ha.out; omega, by omega, by omega, k6c.out, ko3.out, hB3.out⟩, by have := ha.out; simp [intOf]; omega⟩
          ·
            go_simp
            skip
            refine hK.out _ _ ?_ (fun hHeld => ?_)
            · first | with_reducible exact hHeld | with_reducible exact hc2 | with_reducible exact hc3 | exact cl_far (bl_alloc (Below.refl _ _) _) hHeld
            clear hK K
            try simp only [Act.put, List.getElem_toArray, List.getElem_cons_succ, List.getElem_cons_zero, List.setIfInBounds_toArray, List.set_cons_zero, List.set_cons_succ]
            refine wpAnyH_ready (rs := [1]) (by kernel_rfl) (by simp) ?_
            refine (AllReadyH.cons (o := { dst := some 61, op := Go.Op.load 51 (Go.Operand.tmp 60), type := 51, pos := "ref.go:95", after := #[{ on := 0, ground := Go.Ground.data }], guard := none }) rfl (fun K hK => ?_) AllReadyH.nil)
            go_simp
            skip
            refine hK.out _ _ ?_ (fun hHeld => ?_)
            · first | with_reducible exact hHeld | with_reducible exact hc2 | with_reducible exact hc3 | exact cl_far (bl_alloc (Below.refl _ _) _) hHeld
            clear hK K
            try simp only [Act.put, List.getElem_toArray, List.getElem_cons_succ, List.getElem_cons_zero, List.setIfInBounds_toArray, List.set_cons_zero, List.set_cons_succ]
            refine wpAnyH_ready (rs := [8]) (by kernel_rfl) (by simp) ?_
            refine (AllReadyH.cons (o := { dst := some 68, op := Go.Op.call { callee := Go.Callee.builtin Go.Builtin.append, args := #[Go.Operand.tmp 61, Go.Operand.tmp 67], argTypes := #[51, 51] }, type := 51, pos := "ref.go:95", after := #[{ on := 1, ground := Go.Ground.data }, { on := 7, ground := Go.Ground.data }], guard := none }) rfl (fun K hK => ?_) AllReadyH.nil)
            refine step_append_run rfl rfl rfl rfl hrun ?_
            refine hK.out _ _ ?_ (fun hHeld => ?_)
            · first | with_reducible exact hHeld | with_reducible exact hc2 | with_reducible exact hc3 | exact cl_far (bl_alloc (Below.refl _ _) _) hHeld
            clear hK K
            try simp only [Act.put, List.getElem_toArray, List.getElem_cons_succ, List.getElem_cons_zero, List.setIfInBounds_toArray, List.set_cons_zero, List.set_cons_succ]
            refine wpAnyH_take (i := 9) (oi := { dst := some 69, op := Go.Op.fieldAddr 53 (Go.Operand.tmp 6) 3, type := 0, pos := "ref.go:95", after := #[{ on := 0, ground := Go.Ground.phase }, { on := 1, ground := Go.Ground.phase }, { on := 2, ground := Go.Ground.phase }, { on := 3, ground := Go.Ground.phase }, { on := 4, ground := Go.Ground.phase }, { on := 5, ground := Go.Ground.phase }, { on := 6, ground := Go.Ground.phase }, { on := 7, ground := Go.Ground.phase }, { on := 8, ground := Go.Ground.phase }], guard := none }) (v := ?_) rfl (by kernel_rfl) (by kernel_rfl) (by kernel_rfl) (fun _ _ _ h => h) (Or.inl ⟨by rfl, ?_⟩) (by assumption) ?_
            rotate_left 1
            · intro w' hSw
              first | (go_simp; done) | (go_simp; with_reducible rfl)
            try simp only [Act.put, List.getElem_toArray, List.getElem_cons_succ, List.getElem_cons_zero, List.setIfInBounds_toArray, List.set_cons_zero, List.set_cons_succ]
            refine wpAnyH_ready (rs := [10]) (by kernel_rfl) (by simp) ?_
            refine (AllReadyH.cons (o := { dst := none, op := Go.Op.store 51 (Go.Operand.tmp 69) (Go.Operand.tmp 68), type := 0, pos := "ref.go:95", after := #[{ on := 9, ground := Go.Ground.data }, { on := 8, ground := Go.Ground.data }, { on := 8, ground := Go.Ground.chain }, { on := 0, ground := Go.Ground.phase }, { on := 1, ground := Go.Ground.phase }, { on := 2, ground := Go.Ground.phase }, { on := 3, ground := Go.Ground.phase }, { on := 4, ground := Go.Ground.phase }, { on := 5, ground := Go.Ground.phase }, { on := 6, ground := Go.Ground.phase }, { on := 7, ground := Go.Ground.phase }, { on := 8, ground := Go.Ground.phase }], guard := none }) rfl (fun K hK => ?_) AllReadyH.nil)
            go_simp
            skip
            refine hK.out _ _ ?_ (fun hHeld => ?_)
            · first | with_reducible exact hHeld | with_reducible exact hc2 | with_reducible exact hc3 | exact cl_far (bl_alloc (Below.refl _ _) _) hHeld
            clear hK K
            try simp only [Act.put, List.getElem_toArray, List.getElem_cons_succ, List.getElem_cons_zero, List.setIfInBounds_toArray, List.set_cons_zero, List.set_cons_succ]
            refine wpAnyH_done (by kernel_rfl) ?_ _
            refine NoPanic.normal ?_
            go_wp2
            exact ⟨⟨i + 1, a + 1, .slice A' (X (i + 1)).length c', by first | rfl | (congr 1; omega), by first | rfl | (congr 1; omega), by have := ha.out; omega, by omega, by omega, k6c.out, ko3.out, hB3.out⟩, by have := ha.out; simp [intOf]; omega⟩
      · have d2 : decide ((a : Int) < (q : Int) + 2) = false := decide_eq_false (by have := ha.out; omega)
        have hstop : m ≤ (i : Int) ∨ r.length ≤ i := .inr (by rw [hq.out]; omega)
        have hXe := hX.out i
        obtain ⟨ds, hds⟩ : ∃ ds, X i = ds := ⟨_, rfl⟩
        rw [hds] at ko k6 hXe
        have hdsl : ds.length ≤ 126 := by rw [← hds]; exact hXl.out i
        obtain ⟨zs, hzs⟩ : ∃ zs, r.drop i = zs := ⟨_, rfl⟩
        have hzl : zs.length + a = q + 2 := by rw [← hzs, List.length_drop, hq.out, ha.out]; omega
        have hUz : U64 zs := by rw [← hzs]; exact U64.drop hUr.out i
        have hbadc : ∀ j, 10 * j + 10 ≤ zs.length → ofB (chunkOf zs j) = false → NoBytes xs := fun j hj hb => hnob.out (by
          rw [← hzs] at hj hb
          exact noEv_chunk (by rw [hq.out]; exact hiq) him hstop hj hb)
        have hcand : ∀ j, 10 * j ≤ zs.length → zs.length < 10 * j + 10 → (∀ x, x < j → ofB (chunkOf zs x) = true) → Cand (1 :: m :: r) 1 0 0 0 ((List.range j).map (chunkP zs)) ds := fun j h1 h2 h3 => by
          rw [← hzs] at h1 h2 h3 ⊢
          rw [hXe]
          exact cand_1 hUr.out (by rw [hq.out]; exact hiq) him hstop h1 h2 h3
        obtain ⟨s0, hs0⟩ : ∃ s0, a = s0 := ⟨_, rfl⟩
        have hLz : ∀ j, ((L.drop (s0 + 10 * j)).take 10) = chunkOf zs j := fun j => by
          rw [← hs0, ha.out, Nat.add_assoc, Nat.add_comm 2, ← Nat.add_assoc, hLd.out, ← hzs]
          unfold chunkOf
          rw [List.drop_drop]
        have hs02 : 2 ≤ s0 := by rw [← hs0, ha.out]; omega
        rw [hs0] at hzl
        replace hXe := Lib.hid hXe
        replace hs0 := Lib.hid hs0
        replace hds := Lib.hid hds
        replace hzs := Lib.hid hzs
        replace hzl := Lib.hid hzl
        replace hUz := Lib.hid hUz
        replace hbadc := Lib.hid hbadc
        replace hcand := Lib.hid hcand
        replace hLz := Lib.hid hLz
        replace hstop := Lib.hid hstop
        go_wp2_with (fail)
        go_loopw [7] (fun v7 wr => ∃ (j a : Nat) (v : Value), v7 = .int .i64 a ∧ a = s0 + 10 * j ∧ a ≤ q + 2 ∧ (∀ x, x < j → ofB (chunkOf zs x) = true) ∧ Bk wr w1.heap.size #[.int .i64 1, .int .i64 0, v, .slice Ad ds.length cd, .int .u64 0, .int .u64 0] 53 ∧ wr.ownsRow w1.heap.size 28 13 v ((List.range j).map (chunkP zs)).length (rows ((List.range j).map (chunkP zs))) ∧ wr.ownsRow w1.heap.size 3 1 (.slice Ad ds.length cd) ds.length (nums .i64 ds) ∧ Below w1.heap.size w1 wr) (fun v7 _ => q + 20 - (intOf v7).toNat)
        case atStart => exact ⟨0, a, .slice none 0 0, rfl, by have := hs0.out; omega, by have := ha.out; omega, fun x hx => absurd hx (by omega), k6, own_nil _ _ _ _, ko, hBl⟩
        case round =>
          obtain ⟨j, b, v, rfl, hbj, hbq, hob, g6, go_, gd, gB⟩ := hrel
          obtain ⟨hfl, hrts⟩ := flat_chunks zs hUz.out j hob
          obtain ⟨Av, cv, rfl, _, _, _⟩ := pols_own go_ hrts.ok
          have hjl : ((List.range j).map (chunkP zs)).length ≤ 20 := by rw [List.length_map, List.length_range]; omega
          obtain ⟨ps, hps⟩ : ∃ ps, (List.range j).map (chunkP zs) = ps := ⟨_, rfl⟩
          rw [hps] at go_ g6 hjl hrts
          have g2 := bk_below gB j2
          have gBw := bl_then hB1 gB
          have hwb : IntKind.i64.wrap ((b : Int) + 10) = (b : Int) + 10 := by rw [IntKind.wrap_i64]; omega
          have hlt7 := bk_lt g6
          have hlt8 := bk_lt g2
          replace hps := Lib.hid hps
          replace hbj := Lib.hid hbj
          by_cases hb10 : b + 10 ≤ q + 2
          · have d5 : decide ((b : Int) + 10 ≤ (q : Int) + 2) = true := decide_eq_true (by omega)
            have d6 : decide (b + 10 ≤ q + 2) = true := decide_eq_true hb10
            obtain ⟨A', hs1, hr1⟩ := cut_lh ad (q + 2) cl b (b + 10) (b : Int) ((b : Int) + 10) rfl (by omega) (by omega) (by omega)
            have hrd := hr1 w1 L (by omega) hcle hrl.out
            rw [Nat.add_sub_cancel_left, hbj.out, hLz.out] at hrd
            rw [Nat.add_sub_cancel_left] at hs1
            have hch10 : (chunkOf zs j).length = 10 := hrd.1
            have hUc := chunk_u64 hUz.out j
            obtain ⟨c9, hc9⟩ : ∃ c9, cl - b = c9 := ⟨_, rfl⟩
            rw [hc9] at hs1
            have hcall : ∀ W, ReadsInt W .u64 A' 10 (chunkOf zs j) → Calls Try.prog 16 #[.slice A' 10 c9] W fun e w' => e = .returned (.tuple #[.agg #[.int .i64 (ofV (chunkOf zs j)).1.1, .int .u8 (ofV (chunkOf zs j)).1.2.1.1, .int .u8 (ofV (chunkOf zs j)).1.2.1.2.1, .int .u8 (ofV (chunkOf zs j)).1.2.1.2.2.1, .int .u8 (ofV (chunkOf zs j)).1.2.1.2.2.2.1, .int .i64 (ofV (chunkOf zs j)).1.2.1.2.2.2.2, .int .u64 (ofV (chunkOf zs j)).1.2.2.1, .int .u64 (ofV (chunkOf zs j)).1.2.2.2.1, .int .u64 (ofV (chunkOf zs j)).1.2.2.2.2.1, .int .u64 (ofV (chunkOf zs j)).1.2.2.2.2.2.1, .int .u64 (ofV (chunkOf zs j)).1.2.2.2.2.2.2.1, .int .u64 (ofV (chunkOf zs j)).1.2.2.2.2.2.2.2.1, .int .u64 (ofV (chunkOf zs j)).1.2.2.2.2.2.2.2.2], .int .i64 (ofV (chunkOf zs j)).2]) ∧ Below W.heap.size W w' := fun W h => by
              have := rpof_any A' c9 (chunkOf zs j) W (by rw [hch10]; exact h) hUc (by omega)
              rw [hch10] at this
              exact this
            have hrdw := hrd.below gB
            replace hrdw := Lib.hid hrdw
            replace hr1 := Lib.hid hr1
            replace hc9 := Lib.hid hc9
            have hnewj : ∀ x, x < j + 1 → ofB (chunkOf zs j) = true → ofB (chunkOf zs x) = true := fun x hx h => by
              rcases Nat.lt_or_ge x j with h' | h'
              · exact hob x h'
              · obtain rfl : x = j := by omega
                exact h
            cases hB : ofB (chunkOf zs j) with
            | true =>
              have hof := (nums_of hUc hB).2.2
              rw [hof] at hcall
              obtain ⟨P, hP⟩ : ∃ P, polOf (chunkOf zs j) = P := ⟨_, rfl⟩
              rw [hP] at hcall
              dsimp only at hcall
              have hps1 : (List.range (j + 1)).map (chunkP zs) = ps ++ [P] := by rw [List.range_succ, List.map_append, hps.out, List.map_cons, List.map_nil]; unfold chunkP; rw [hP]
              replace hps1 := Lib.hid hps1
              replace hcall := Lib.hid hcall
              have hnewj' := fun x hx => hnewj x hx hB
              replace hnewj' := Lib.hid hnewj'
              go_wp2_with (first | (go_at_call 16; (with_reducible refine (hcall.out _ hrdw.out).mono ?_); rintro e w5 ⟨rfl, hq5⟩; have hB5 := gB.trans (hq5.mono gB.size); have g6a := bk_below hq5 g6; have goa := pw_own_below go_ hq5; have hlt9 := bk_lt g6a; have hne9 : ¬ w1.heap.size = w5.heap.size := Nat.ne_of_lt hlt9; obtain ⟨x0, x1, x2, x3, x4, x5, xf0, xf1, xf2, xf3, xf4, xf5⟩ := cells6 g6a) | (at_builtin; refine append_pol1 w1.heap.size rfl (.tmp 92) (.tmp 94) rfl _ ps P _ rfl rfl (pw_own_below goa (bl_alloc (bl_alloc (Below.refl _ _) _) _)) (pol_news' (World.size_alloc _ _) P) (by omega) (bl_alloc (bl_alloc hB5 _) _).size ?_; intro v' w6 hown' hgrow; obtain ⟨g', cap', rfl⟩ := ownsRow_succ hown'; have g6b := bk_own (bk_alloc (bk_alloc g6a _) _) (pw_own_below goa (bl_alloc (bl_alloc (Below.refl _ _) _) _)) hgrow (by decide); obtain ⟨y0, y1, y2, y3, y4, y5, yf0, yf1, yf2, yf3, yf4, yf5⟩ := cells6 g6b))
              have hBa := bl_alloc (bl_alloc (Below.refl _ w5) (.cells #[.int .i64 P.1, .int .u8 P.2.1.1, .int .u8 P.2.1.2.1, .int .u8 P.2.1.2.2.1, .int .u8 P.2.1.2.2.2.1, .int .i64 P.2.1.2.2.2.2, .int .u64 P.2.2.1, .int .u64 P.2.2.2.1, .int .u64 P.2.2.2.2.1, .int .u64 P.2.2.2.2.2.1, .int .u64 P.2.2.2.2.2.2.1, .int .u64 P.2.2.2.2.2.2.2.1, .int .u64 P.2.2.2.2.2.2.2.2] 28)) (.cells #[.int .i64 P.1, .int .u8 P.2.1.1, .int .u8 P.2.1.2.1, .int .u8 P.2.1.2.2.1, .int .u8 P.2.1.2.2.2.1, .int .i64 P.2.1.2.2.2.2, .int .u64 P.2.2.1, .int .u64 P.2.2.2.1, .int .u64 P.2.2.2.2.1, .int .u64 P.2.2.2.2.2.1, .int .u64 P.2.2.2.2.2.2.1, .int .u64 P.2.2.2.2.2.2.2.1, .int .u64 P.2.2.2.2.2.2.2.2] 28)
              have joW := pw_own_below goa hBa
              have jdW := pw_own_below (pw_own_below gd hq5) hBa
              have jd2 := own_other jdW hgrow (own_type_ne jdW joW (by decide))
              refine ⟨⟨j + 1, b + 10, .slice (some ⟨g', 0, none⟩) (ps.length + 1) cap', by first | rfl | (congr 1; omega), by have := hbj.out; omega, hb10, hnewj'.out, bk_put g6b rfl, ?_, own_setCell jd2 (p := ⟨w1.heap.size, 2, none⟩) (own_ne jd2 g6b (by decide)) _, bl_set ((bl_alloc (bl_alloc hB5 _) _).grown hgrow (bl_alloc (bl_alloc hB5 _) _).size (own_base joW)) (Nat.le_refl _) _⟩, by simp [intOf]; omega⟩
              rw [hps1.out, rows_snoc, List.length_append]
              exact own_setCell hown' (p := ⟨w1.heap.size, 2, none⟩) (own_ne hown' g6b (by decide)) _
            | false =>
              have hof : ofV (chunkOf zs j) = (zeroP, 111) := by unfold ofV; rw [hB, if_neg Bool.false_ne_true]
              rw [hof] at hcall
              unfold zeroP at hcall
              dsimp only at hcall
              have hno := hbadc.out j (by have := hbj.out; have := hzl.out; omega) hB
              replace hcall := Lib.hid hcall
              go_wp2_with (first | (go_at_call 16; (with_reducible refine (hcall.out _ hrdw.out).mono ?_); rintro e w5 ⟨rfl, hq5⟩; have g2a := bk_below hq5 g2; have hB5 := bl_then gBw hq5; have hlt9 := bk_lt g2a; have hne9 : ¬ w.heap.size = w5.heap.size := Nat.ne_of_lt hlt9; obtain ⟨x0, x1, x2, x3, x4, x5, xf0, xf1, xf2, xf3, xf4, xf5⟩ := cells6 g2a))
              exact bodyPost_ret (res_rread (bk_alloc (bk_set6 g2a) _) _ rfl rfl) rfl (.inr ⟨hno, rfl, bl_alloc (bl_set6 hB5 (Nat.le_refl _)) _⟩)
          · have d5 : decide ((b : Int) + 10 ≤ (q : Int) + 2) = false := decide_eq_false (by omega)
            have d6 : decide (b + 10 ≤ q + 2) = false := decide_eq_false hb10
            have hca := hcand.out j (by have := hbj.out; have := hzl.out; omega) (by have := hbj.out; have := hzl.out; omega) hob
            rw [hps.out] at hca
            obtain ⟨A9, c9, e9, hpp, hpl, hpm⟩ := pols_own go_ hrts.ok
            cases e9
            have hdd := own_reads' gd
            have hle6 : w.heap.size ≤ w1.heap.size := hB1.size
            have hby := fun W hp hd => rbytes_any 1 0 0 0 Av Ad cv cd ps ds W hp hd (by omega) (by omega) hpl hpm
            unfold MakesBytes at hby
            obtain ⟨x0, x1, x2, x3, x4, x5, xf0, xf1, xf2, xf3, xf4, xf5⟩ := cells6 g6
            have hno1 : ¬ RightE 1 0 0 0 ps ds → NoBytes xs := fun h => hnob.out (hca.no h)
            have hno2 : encL (evNums 1 0 0 0 ps ds) ≠ xs → NoBytes xs := fun h => hca.ne hg.out h
            replace hno1 := Lib.hid hno1
            replace hno2 := Lib.hid hno2
            clear hca
            by_cases hR : RightE 1 0 0 0 ps ds
            rotate_left 1
            · rw [bytesV_no hR] at hby
              dsimp only [List.length_nil] at hby
              have hno := hno1.out hR
              replace hby := Lib.hid hby
              go_wp2_with (first | (go_at_call 29; (with_reducible refine (hby.out _ hpp hdd).mono ?_); rintro e w3 ⟨v3, rfl, ho3, hq3⟩; obtain ⟨Ao, co, rfl, hro⟩ := own_reads ho3; have j6b := bk_below hq3 g6; have j2b := bk_below hq3 g2; have hB3 := bl_then gBw hq3; have go3 := pw_own_below go_ hq3; have gd3 := pw_own_below gd hq3; obtain ⟨y0, y1, y2, y3, y4, y5, yf0, yf1, yf2, yf3, yf4, yf5⟩ := cells6 j6b; obtain ⟨z0, z1, z2, z3, z4, z5, zf0, zf1, zf2, zf3, zf4, zf5⟩ := cells6 j2b))
              exact bodyPost_ret (res_rread (bk_set6 j2b) _ rfl rfl) rfl (.inr ⟨hno, rfl, bl_set6 hB3 (Nat.le_refl _)⟩)
            · rw [bytesV_yes hR] at hby
              dsimp only at hby
              have cv1 := fun W A cc h => cv8 W A cc (encL (evNums 1 0 0 0 ps ds)) h
              have hcv2' := hcv2.out
              have hxb' := hxb.out
              by_cases hX9 : encL (evNums 1 0 0 0 ps ds) = xs
              · have hst := strs_eq hX9
                have hXX := hX9.symm
                replace hXX := Lib.hid hXX
                obtain ⟨S1, hS1⟩ : ∃ S, strOfNums (encL (evNums 1 0 0 0 ps ds)) = S := ⟨_, rfl⟩
                obtain ⟨S2, hS2⟩ : ∃ S, strOfNums xs = S := ⟨_, rfl⟩
                rw [hS1] at cv1 hst
                rw [hS2] at hcv2' hst
                obtain ⟨Xb, hXb⟩ : ∃ X, encL (evNums 1 0 0 0 ps ds) = X := ⟨_, rfl⟩
                rw [hXb] at cv1 hby
                obtain ⟨hst1, hst2⟩ := hst
                clear hS1 hS2 hX9
                replace hXb := Lib.hid hXb
                replace cv1 := Lib.hid cv1
                replace hcv2' := Lib.hid hcv2'
                replace hby := Lib.hid hby
                clear hxb'
                go_wp2_with (first | (go_at_call 29; (with_reducible refine (hby.out _ hpp hdd).mono ?_); rintro e w3 ⟨v3, rfl, ho3, hq3⟩; obtain ⟨Ao, co, rfl, hro⟩ := own_reads ho3; have j6b := bk_below hq3 g6; have j2b := bk_below hq3 g2; have hB3 := bl_then gBw hq3; have go3 := pw_own_below go_ hq3; have gd3 := pw_own_below gd hq3; obtain ⟨y0, y1, y2, y3, y4, y5, yf0, yf1, yf2, yf3, yf4, yf5⟩ := cells6 j6b; obtain ⟨z0, z1, z2, z3, z4, z5, zf0, zf1, zf2, zf3, zf4, zf5⟩ := cells6 j2b; have kk1 := cv1.out w3 Ao co hro; have kk2 := hcv2'.out w3 A cap (hr0.out.below (bl_then hq1.out (bl_then gB hq3)))))
                exact bodyPost_ret (res_rread (bk_set6 j2b) _ rfl rfl) rfl (.inl ⟨1, 0, 0, 0, ps, ds, Av, Ad, cv, cd, rfl, hR, hrts.ok, hXX.out, own6 (own_weaken go3 hle6) (own_ne go3 j2b (by decide)), own6 (own_weaken gd3 hle6) (own_ne gd3 j2b (by decide)), bl_set6 hB3 (Nat.le_refl _)⟩)
              · have hst := strs_ne (encL_bytes _) hxb' hX9
                have hno := hno2.out hX9
                obtain ⟨S1, hS1⟩ : ∃ S, strOfNums (encL (evNums 1 0 0 0 ps ds)) = S := ⟨_, rfl⟩
                obtain ⟨S2, hS2⟩ : ∃ S, strOfNums xs = S := ⟨_, rfl⟩
                rw [hS1] at cv1 hst
                rw [hS2] at hcv2' hst
                obtain ⟨Xb, hXb⟩ : ∃ X, encL (evNums 1 0 0 0 ps ds) = X := ⟨_, rfl⟩
                rw [hXb] at cv1 hby
                obtain ⟨hst1, hst2⟩ := hst
                clear hS1 hS2 hX9
                replace hXb := Lib.hid hXb
                replace cv1 := Lib.hid cv1
                replace hcv2' := Lib.hid hcv2'
                replace hby := Lib.hid hby
                clear hxb'
                go_wp2_with (first | (go_at_call 29; (with_reducible refine (hby.out _ hpp hdd).mono ?_); rintro e w3 ⟨v3, rfl, ho3, hq3⟩; obtain ⟨Ao, co, rfl, hro⟩ := own_reads ho3; have j6b := bk_below hq3 g6; have j2b := bk_below hq3 g2; have hB3 := bl_then gBw hq3; have go3 := pw_own_below go_ hq3; have gd3 := pw_own_below gd hq3; obtain ⟨y0, y1, y2, y3, y4, y5, yf0, yf1, yf2, yf3, yf4, yf5⟩ := cells6 j6b; obtain ⟨z0, z1, z2, z3, z4, z5, zf0, zf1, zf2, zf3, zf4, zf5⟩ := cells6 j2b; have kk1 := cv1.out w3 Ao co hro; have kk2 := hcv2'.out w3 A cap (hr0.out.below (bl_then hq1.out (bl_then gB hq3)))))
                exact bodyPost_ret (res_rread (bk_set6 j2b) _ rfl rfl) rfl (.inr ⟨hno, rfl, bl_set6 hB3 (Nat.le_refl _)⟩)
    · have d1 : decide ((i : Int) < m) = false := decide_eq_false hmi
      have hstop : m ≤ (i : Int) ∨ r.length ≤ i := .inl (by omega)
      have hXe := hX.out i
      obtain ⟨ds, hds⟩ : ∃ ds, X i = ds := ⟨_, rfl⟩
      rw [hds] at ko k6 hXe
      have hdsl : ds.length ≤ 126 := by rw [← hds]; exact hXl.out i
      obtain ⟨zs, hzs⟩ : ∃ zs, r.drop i = zs := ⟨_, rfl⟩
      have hzl : zs.length + a = q + 2 := by rw [← hzs, List.length_drop, hq.out, ha.out]; omega
      have hUz : U64 zs := by rw [← hzs]; exact U64.drop hUr.out i
      have hbadc : ∀ j, 10 * j + 10 ≤ zs.length → ofB (chunkOf zs j) = false → NoBytes xs := fun j hj hb => hnob.out (by
        rw [← hzs] at hj hb
        exact noEv_chunk (by rw [hq.out]; exact hiq) him hstop hj hb)
      have hcand : ∀ j, 10 * j ≤ zs.length → zs.length < 10 * j + 10 → (∀ x, x < j → ofB (chunkOf zs x) = true) → Cand (1 :: m :: r) 1 0 0 0 ((List.range j).map (chunkP zs)) ds := fun j h1 h2 h3 => by
        rw [← hzs] at h1 h2 h3 ⊢
        rw [hXe]
        exact cand_1 hUr.out (by rw [hq.out]; exact hiq) him hstop h1 h2 h3
      obtain ⟨s0, hs0⟩ : ∃ s0, a = s0 := ⟨_, rfl⟩
      have hLz : ∀ j, ((L.drop (s0 + 10 * j)).take 10) = chunkOf zs j := fun j => by
        rw [← hs0, ha.out, Nat.add_assoc, Nat.add_comm 2, ← Nat.add_assoc, hLd.out, ← hzs]
        unfold chunkOf
        rw [List.drop_drop]
      have hs02 : 2 ≤ s0 := by rw [← hs0, ha.out]; omega
      rw [hs0] at hzl
      replace hXe := Lib.hid hXe
      replace hs0 := Lib.hid hs0
      replace hds := Lib.hid hds
      replace hzs := Lib.hid hzs
      replace hzl := Lib.hid hzl
      replace hUz := Lib.hid hUz
      replace hbadc := Lib.hid hbadc
      replace hcand := Lib.hid hcand
      replace hLz := Lib.hid hLz
      replace hstop := Lib.hid hstop
      go_wp2_with (fail)
      go_loopw [7] (fun v7 wr => ∃ (j a : Nat) (v : Value), v7 = .int .i64 a ∧ a = s0 + 10 * j ∧ a ≤ q + 2 ∧ (∀ x, x < j → ofB (chunkOf zs x) = true) ∧ Bk wr w1.heap.size #[.int .i64 1, .int .i64 0, v, .slice Ad ds.length cd, .int .u64 0, .int .u64 0] 53 ∧ wr.ownsRow w1.heap.size 28 13 v ((List.range j).map (chunkP zs)).length (rows ((List.range j).map (chunkP zs))) ∧ wr.ownsRow w1.heap.size 3 1 (.slice Ad ds.length cd) ds.length (nums .i64 ds) ∧ Below w1.heap.size w1 wr) (fun v7 _ => q + 20 - (intOf v7).toNat)
      case atStart => exact ⟨0, a, .slice none 0 0, rfl, by have := hs0.out; omega, by have := ha.out; omega, fun x hx => absurd hx (by omega), k6, own_nil _ _ _ _, ko, hBl⟩
      case round =>
        obtain ⟨j, b, v, rfl, hbj, hbq, hob, g6, go_, gd, gB⟩ := hrel
        obtain ⟨hfl, hrts⟩ := flat_chunks zs hUz.out j hob
        obtain ⟨Av, cv, rfl, _, _, _⟩ := pols_own go_ hrts.ok
        have hjl : ((List.range j).map (chunkP zs)).length ≤ 20 := by rw [List.length_map, List.length_range]; omega
        obtain ⟨ps, hps⟩ : ∃ ps, (List.range j).map (chunkP zs) = ps := ⟨_, rfl⟩
        rw [hps] at go_ g6 hjl hrts
        have g2 := bk_below gB j2
        have gBw := bl_then hB1 gB
        have hwb : IntKind.i64.wrap ((b : Int) + 10) = (b : Int) + 10 := by rw [IntKind.wrap_i64]; omega
        have hlt7 := bk_lt g6
        have hlt8 := bk_lt g2
        replace hps := Lib.hid hps
        replace hbj := Lib.hid hbj
        by_cases hb10 : b + 10 ≤ q + 2
        · have d5 : decide ((b : Int) + 10 ≤ (q : Int) + 2) = true := decide_eq_true (by omega)
          have d6 : decide (b + 10 ≤ q + 2) = true := decide_eq_true hb10
          obtain ⟨A', hs1, hr1⟩ := cut_lh ad (q + 2) cl b (b + 10) (b : Int) ((b : Int) + 10) rfl (by omega) (by omega) (by omega)
          have hrd := hr1 w1 L (by omega) hcle hrl.out
          rw [Nat.add_sub_cancel_left, hbj.out, hLz.out] at hrd
          rw [Nat.add_sub_cancel_left] at hs1
          have hch10 : (chunkOf zs j).length = 10 := hrd.1
          have hUc := chunk_u64 hUz.out j
          obtain ⟨c9, hc9⟩ : ∃ c9, cl - b = c9 := ⟨_, rfl⟩
          rw [hc9] at hs1
          have hcall : ∀ W, ReadsInt W .u64 A' 10 (chunkOf zs j) → Calls Try.prog 16 #[.slice A' 10 c9] W fun e w' => e = .returned (.tuple #[.agg #[.int .i64 (ofV (chunkOf zs j)).1.1, .int .u8 (ofV (chunkOf zs j)).1.2.1.1, .int .u8 (ofV (chunkOf zs j)).1.2.1.2.1, .int .u8 (ofV (chunkOf zs j)).1.2.1.2.2.1, .int .u8 (ofV (chunkOf zs j)).1.2.1.2.2.2.1, .int .i64 (ofV (chunkOf zs j)).1.2.1.2.2.2.2, .int .u64 (ofV (chunkOf zs j)).1.2.2.1, .int .u64 (ofV (chunkOf zs j)).1.2.2.2.1, .int .u64 (ofV (chunkOf zs j)).1.2.2.2.2.1, .int .u64 (ofV (chunkOf zs j)).1.2.2.2.2.2.1, .int .u64 (ofV (chunkOf zs j)).1.2.2.2.2.2.2.1, .int .u64 (ofV (chunkOf zs j)).1.2.2.2.2.2.2.2.1, .int .u64 (ofV (chunkOf zs j)).1.2.2.2.2.2.2.2.2], .int .i64 (ofV (chunkOf zs j)).2]) ∧ Below W.heap.size W w' := fun W h => by
            have := rpof_any A' c9 (chunkOf zs j) W (by rw [hch10]; exact h) hUc (by omega)
            rw [hch10] at this
            exact this
          have hrdw := hrd.below gB
          replace hrdw := Lib.hid hrdw
          replace hr1 := Lib.hid hr1
          replace hc9 := Lib.hid hc9
          have hnewj : ∀ x, x < j + 1 → ofB (chunkOf zs j) = true → ofB (chunkOf zs x) = true := fun x hx h => by
            rcases Nat.lt_or_ge x j with h' | h'
            · exact hob x h'
            · obtain rfl : x = j := by omega
              exact h
          cases hB : ofB (chunkOf zs j) with
          | true =>
            have hof := (nums_of hUc hB).2.2
            rw [hof] at hcall
            obtain ⟨P, hP⟩ : ∃ P, polOf (chunkOf zs j) = P := ⟨_, rfl⟩
            rw [hP] at hcall
            dsimp only at hcall
            have hps1 : (List.range (j + 1)).map (chunkP zs) = ps ++ [P] := by rw [List.range_succ, List.map_append, hps.out, List.map_cons, List.map_nil]; unfold chunkP; rw [hP]
            replace hps1 := Lib.hid hps1
            replace hcall := Lib.hid hcall
            have hnewj' := fun x hx => hnewj x hx hB
            replace hnewj' := Lib.hid hnewj'
            go_wp2_with (first | (go_at_call 16; (with_reducible refine (hcall.out _ hrdw.out).mono ?_); rintro e w5 ⟨rfl, hq5⟩; have hB5 := gB.trans (hq5.mono gB.size); have g6a := bk_below hq5 g6; have goa := pw_own_below go_ hq5; have hlt9 := bk_lt g6a; have hne9 : ¬ w1.heap.size = w5.heap.size := Nat.ne_of_lt hlt9; obtain ⟨x0, x1, x2, x3, x4, x5, xf0, xf1, xf2, xf3, xf4, xf5⟩ := cells6 g6a) | (at_builtin; refine append_pol1 w1.heap.size rfl (.tmp 92) (.tmp 94) rfl _ ps P _ rfl rfl (pw_own_below goa (bl_alloc (bl_alloc (Below.refl _ _) _) _)) (pol_news' (World.size_alloc _ _) P) (by omega) (bl_alloc (bl_alloc hB5 _) _).size ?_; intro v' w6 hown' hgrow; obtain ⟨g', cap', rfl⟩ := ownsRow_succ hown'; have g6b := bk_own (bk_alloc (bk_alloc g6a _) _) (pw_own_below goa (bl_alloc (bl_alloc (Below.refl _ _) _) _)) hgrow (by decide); obtain ⟨y0, y1, y2, y3, y4, y5, yf0, yf1, yf2, yf3, yf4, yf5⟩ := cells6 g6b))
            have hBa := bl_alloc (bl_alloc (Below.refl _ w5) (.cells #[.int .i64 P.1, .int .u8 P.2.1.1, .int .u8 P.2.1.2.1, .int .u8 P.2.1.2.2.1, .int .u8 P.2.1.2.2.2.1, .int .i64 P.2.1.2.2.2.2, .int .u64 P.2.2.1, .int .u64 P.2.2.2.1, .int .u64 P.2.2.2.2.1, .int .u64 P.2.2.2.2.2.1, .int .u64 P.2.2.2.2.2.2.1, .int .u64 P.2.2.2.2.2.2.2.1, .int .u64 P.2.2.2.2.2.2.2.2] 28)) (.cells #[.int .i64 P.1, .int .u8 P.2.1.1, .int .u8 P.2.1.2.1, .int .u8 P.2.1.2.2.1, .int .u8 P.2.1.2.2.2.1, .int .i64 P.2.1.2.2.2.2, .int .u64 P.2.2.1, .int .u64 P.2.2.2.1, .int .u64 P.2.2.2.2.1, .int .u64 P.2.2.2.2.2.1, .int .u64 P.2.2.2.2.2.2.1, .int .u64 P.2.2.2.2.2.2.2.1, .int .u64 P.2.2.2.2.2.2.2.2] 28)
            have joW := pw_own_below goa hBa
            have jdW := pw_own_below (pw_own_below gd hq5) hBa
            have jd2 := own_other jdW hgrow (own_type_ne jdW joW (by decide))
            refine ⟨⟨j + 1, b + 10, .slice (some ⟨g', 0, none⟩) (ps.length + 1) cap', by first | rfl | (congr 1; omega), by have := hbj.out; omega, hb10, hnewj'.out, bk_put g6b rfl, ?_, own_setCell jd2 (p := ⟨w1.heap.size, 2, none⟩) (own_ne jd2 g6b (by decide)) _, bl_set ((bl_alloc (bl_alloc hB5 _) _).grown hgrow (bl_alloc (bl_alloc hB5 _) _).size (own_base joW)) (Nat.le_refl _) _⟩, by simp [intOf]; omega⟩
            rw [hps1.out, rows_snoc, List.length_append]
            exact own_setCell hown' (p := ⟨w1.heap.size, 2, none⟩) (own_ne hown' g6b (by decide)) _
          | false =>
            have hof : ofV (chunkOf zs j) = (zeroP, 111) := by unfold ofV; rw [hB, if_neg Bool.false_ne_true]
            rw [hof] at hcall
            unfold zeroP at hcall
            dsimp only at hcall
            have hno := hbadc.out j (by have := hbj.out; have := hzl.out; omega) hB
            replace hcall := Lib.hid hcall
            go_wp2_with (first | (go_at_call 16; (with_reducible refine (hcall.out _ hrdw.out).mono ?_); rintro e w5 ⟨rfl, hq5⟩; have g2a := bk_below hq5 g2; have hB5 := bl_then gBw hq5; have hlt9 := bk_lt g2a; have hne9 : ¬ w.heap.size = w5.heap.size := Nat.ne_of_lt hlt9; obtain ⟨x0, x1, x2, x3, x4, x5, xf0, xf1, xf2, xf3, xf4, xf5⟩ := cells6 g2a))
            exact bodyPost_ret (res_rread (bk_alloc (bk_set6 g2a) _) _ rfl rfl) rfl (.inr ⟨hno, rfl, bl_alloc (bl_set6 hB5 (Nat.le_refl _)) _⟩)
        · have d5 : decide ((b : Int) + 10 ≤ (q : Int) + 2) = false := decide_eq_false (by omega)
          have d6 : decide (b + 10 ≤ q + 2) = false := decide_eq_false hb10
          have hca := hcand.out j (by have := hbj.out; have := hzl.out; omega) (by have := hbj.out; have := hzl.out; omega) hob
          rw [hps.out] at hca
          obtain ⟨A9, c9, e9, hpp, hpl, hpm⟩ := pols_own go_ hrts.ok
          cases e9
          have hdd := own_reads' gd
          have hle6 : w.heap.size ≤ w1.heap.size := hB1.size
          have hby := fun W hp hd => rbytes_any 1 0 0 0 Av Ad cv cd ps ds W hp hd (by omega) (by omega) hpl hpm
          unfold MakesBytes at hby
          obtain ⟨x0, x1, x2, x3, x4, x5, xf0, xf1, xf2, xf3, xf4, xf5⟩ := cells6 g6
          have hno1 : ¬ RightE 1 0 0 0 ps ds → NoBytes xs := fun h => hnob.out (hca.no h)
          have hno2 : encL (evNums 1 0 0 0 ps ds) ≠ xs → NoBytes xs := fun h => hca.ne hg.out h
          replace hno1 := Lib.hid hno1
          replace hno2 := Lib.hid hno2
          clear hca
          by_cases hR : RightE 1 0 0 0 ps ds
          rotate_left 1
          · rw [bytesV_no hR] at hby
            dsimp only [List.length_nil] at hby
            have hno := hno1.out hR
            replace hby := Lib.hid hby
            go_wp2_with (first | (go_at_call 29; (with_reducible refine (hby.out _ hpp hdd).mono ?_); rintro e w3 ⟨v3, rfl, ho3, hq3⟩; obtain ⟨Ao, co, rfl, hro⟩ := own_reads ho3; have j6b := bk_below hq3 g6; have j2b := bk_below hq3 g2; have hB3 := bl_then gBw hq3; have go3 := pw_own_below go_ hq3; have gd3 := pw_own_below gd hq3; obtain ⟨y0, y1, y2, y3, y4, y5, yf0, yf1, yf2, yf3, yf4, yf5⟩ := cells6 j6b; obtain ⟨z0, z1, z2, z3, z4, z5, zf0, zf1, zf2, zf3, zf4, zf5⟩ := cells6 j2b))
            exact bodyPost_ret (res_rread (bk_set6 j2b) _ rfl rfl) rfl (.inr ⟨hno, rfl, bl_set6 hB3 (Nat.le_refl _)⟩)
          · rw [bytesV_yes hR] at hby
            dsimp only at hby
            have cv1 := fun W A cc h => cv8 W A cc (encL (evNums 1 0 0 0 ps ds)) h
            have hcv2' := hcv2.out
            have hxb' := hxb.out
            by_cases hX9 : encL (evNums 1 0 0 0 ps ds) = xs
            · have hst := strs_eq hX9
              have hXX := hX9.symm
              replace hXX := Lib.hid hXX
              obtain ⟨S1, hS1⟩ : ∃ S, strOfNums (encL (evNums 1 0 0 0 ps ds)) = S := ⟨_, rfl⟩
              obtain ⟨S2, hS2⟩ : ∃ S, strOfNums xs = S := ⟨_, rfl⟩
              rw [hS1] at cv1 hst
              rw [hS2] at hcv2' hst
              obtain ⟨Xb, hXb⟩ : ∃ X, encL (evNums 1 0 0 0 ps ds) = X := ⟨_, rfl⟩
              rw [hXb] at cv1 hby
              obtain ⟨hst1, hst2⟩ := hst
              clear hS1 hS2 hX9
              replace hXb := Lib.hid hXb
              replace cv1 := Lib.hid cv1
              replace hcv2' := Lib.hid hcv2'
              replace hby := Lib.hid hby
              clear hxb'
              go_wp2_with (first | (go_at_call 29; (with_reducible refine (hby.out _ hpp hdd).mono ?_); rintro e w3 ⟨v3, rfl, ho3, hq3⟩; obtain ⟨Ao, co, rfl, hro⟩ := own_reads ho3; have j6b := bk_below hq3 g6; have j2b := bk_below hq3 g2; have hB3 := bl_then gBw hq3; have go3 := pw_own_below go_ hq3; have gd3 := pw_own_below gd hq3; obtain ⟨y0, y1, y2, y3, y4, y5, yf0, yf1, yf2, yf3, yf4, yf5⟩ := cells6 j6b; obtain ⟨z0, z1, z2, z3, z4, z5, zf0, zf1, zf2, zf3, zf4, zf5⟩ := cells6 j2b; have kk1 := cv1.out w3 Ao co hro; have kk2 := hcv2'.out w3 A cap (hr0.out.below (bl_then hq1.out (bl_then gB hq3)))))
              exact bodyPost_ret (res_rread (bk_set6 j2b) _ rfl rfl) rfl (.inl ⟨1, 0, 0, 0, ps, ds, Av, Ad, cv, cd, rfl, hR, hrts.ok, hXX.out, own6 (own_weaken go3 hle6) (own_ne go3 j2b (by decide)), own6 (own_weaken gd3 hle6) (own_ne gd3 j2b (by decide)), bl_set6 hB3 (Nat.le_refl _)⟩)
            · have hst := strs_ne (encL_bytes _) hxb' hX9
              have hno := hno2.out hX9
              obtain ⟨S1, hS1⟩ : ∃ S, strOfNums (encL (evNums 1 0 0 0 ps ds)) = S := ⟨_, rfl⟩
              obtain ⟨S2, hS2⟩ : ∃ S, strOfNums xs = S := ⟨_, rfl⟩
              rw [hS1] at cv1 hst
              rw [hS2] at hcv2' hst
              obtain ⟨Xb, hXb⟩ : ∃ X, encL (evNums 1 0 0 0 ps ds) = X := ⟨_, rfl⟩
              rw [hXb] at cv1 hby
              obtain ⟨hst1, hst2⟩ := hst
              clear hS1 hS2 hX9
              replace hXb := Lib.hid hXb
              replace cv1 := Lib.hid cv1
              replace hcv2' := Lib.hid hcv2'
              replace hby := Lib.hid hby
              clear hxb'
              go_wp2_with (first | (go_at_call 29; (with_reducible refine (hby.out _ hpp hdd).mono ?_); rintro e w3 ⟨v3, rfl, ho3, hq3⟩; obtain ⟨Ao, co, rfl, hro⟩ := own_reads ho3; have j6b := bk_below hq3 g6; have j2b := bk_below hq3 g2; have hB3 := bl_then gBw hq3; have go3 := pw_own_below go_ hq3; have gd3 := pw_own_below gd hq3; obtain ⟨y0, y1, y2, y3, y4, y5, yf0, yf1, yf2, yf3, yf4, yf5⟩ := cells6 j6b; obtain ⟨z0, z1, z2, z3, z4, z5, zf0, zf1, zf2, zf3, zf4, zf5⟩ := cells6 j2b; have kk1 := cv1.out w3 Ao co hro; have kk2 := hcv2'.out w3 A cap (hr0.out.below (bl_then hq1.out (bl_then gB hq3)))))
              exact bodyPost_ret (res_rread (bk_set6 j2b) _ rfl rfl) rfl (.inr ⟨hno, rfl, bl_set6 hB3 (Nat.le_refl _)⟩)

theorem rread_any (A : Option Addr) (cap : Nat) (xs : List Int) (w : World) (hr : ReadsInt w .u8 A xs.length xs) (hcap : xs.length ≤ cap) (hcm : cap ≤ 9223372036854775807) (hb : ∀ x ∈ xs, 0 ≤ x ∧ x ≤ 255) :
    Calls Try.prog 34 #[.slice A xs.length cap] w (ReadPost xs w) := by
  rcases allV_cases xs with ⟨L, hg, hv⟩ | hv
  rotate_left 1
  · exact rread_err A cap xs w hr hcap hcm hb hv
  match L, hg, hv with
  | [], hg, hv => exact rread_nil A cap xs w hr hcap hcm hb hv hg
  | [a], hg, hv => exact rread_one A cap xs w hr hcap hcm hb a hv hg
  | a :: b :: t, hg, hv =>
    by_cases h3 : 3 < a
    · exact rread_over A cap xs w hr hcap hcm hb a b t t.length rfl hv hg h3
    have h0 := (hg.1 a (by simp)).1
    have hbU := hg.1 b (by simp)
    by_cases h1 : a = 1
    · subst h1
      exact rread_1 A cap xs w hr hcap hcm hb b t t.length rfl hv hg
    by_cases h2 : a = 2
    · subst h2
      match t, hg, hv with
      | [c], hg, hv =>
        by_cases hbig : b ≤ 255
        · by_cases hR : RightE 2 b c 0 [] []
          · by_cases hX : encL (evNums 2 b c 0 [] []) = xs
            · exact rread_2_eq A cap xs w hr hcap hcm hb b c hv hg hbU.1 hbig hR hX
            · exact rread_2_ne A cap xs w hr hcap hcm hb b c hv hg hbU.1 hbig hR hX
          · exact rread_2_no A cap xs w hr hcap hcm hb b c hv hg hbU.1 hbig hR
        · exact rread_2_big A cap xs w hr hcap hcm hb b c hv hg (by omega)
      | [], hg, hv => exact rread_2_len A cap xs w hr hcap hcm hb 2 b [] 0 rfl hv hg rfl (by omega)
      | c :: d :: t', hg, hv => exact rread_2_len A cap xs w hr hcap hcm hb 2 b (c :: d :: t') (t'.length + 2) rfl hv hg rfl (by omega)
    by_cases h3' : a = 3
    · subst h3'
      by_cases hR : RightE 3 0 0 b [] []
      · by_cases hX : encL (evNums 3 0 0 b [] []) = xs
        · exact rread_3_eq A cap xs w hr hcap hcm hb b t t.length rfl hv hg hR hX
        · exact rread_3_ne A cap xs w hr hcap hcm hb b t t.length rfl hv hg hR hX
      · exact rread_3_no A cap xs w hr hcap hcm hb b t t.length rfl hv hg hR
    obtain rfl : a = 0 := by omega
    exact rread_0_no A cap xs w hr hcap hcm hb b t t.length rfl hv hg (fun h => by unfold RightE at h; omega)
end Go.Proofs.Ytfcekicjlgdmaaa
namespace Go.Proofs.Ytfcekicjlgdmaaa
open Go.RowKit Go.Shelf Go.Proofs.YtfcekicjlgdmaaaW.PrintWords
attribute [local go_sem] max2_int min2_int max_two min_two

/-- An event's slices, read. -/
def EvAt (w : World) (A1 A2 : Option Addr) (n m c1 : Nat) (ps : List Pol) (ds : List Int) : Prop := ps.length = n ∧ ds.length = m ∧ PolsAt w A1 ps ∧ ReadsInt w .i64 A2 ds.length ds ∧ n ≤ c1 ∧ c1 ≤ 9223372036854775807
theorem EvAt.below {w w1 : World} {A1 A2 : Option Addr} {n m c1 : Nat} {ps : List Pol} {ds : List Int} (h : EvAt w A1 A2 n m c1 ps ds) (hB : Below w.heap.size w w1) : EvAt w1 A1 A2 n m c1 ps ds := ⟨h.1, h.2.1, h.2.2.1.below hB, h.2.2.2.1.below hB, h.2.2.2.2⟩
theorem ev_at {w : World} {A1 A2 : Option Addr} {l1 l2 c1 c2 : Nat} {zs : List Int} (hf : IsFlat polLeaves w A1 l1 c1) (hr : IsRow .i64 w A2 l2 c2 zs) : ∃ ps ds, EvAt w A1 A2 l1 l2 c1 ps ds := by
  obtain ⟨ps, rfl, hp⟩ := pols_of hf
  obtain ⟨ds, rfl, hrl, _⟩ := ReadsInt.ofRowC hr
  exact ⟨ps, ds, rfl, rfl, hp, hrl, flat_le hf, flat_max hf⟩
theorem ev_own {w : World} {b : Nat} {A1 A2 : Option Addr} {c1 c2 : Nat} {ps : List Pol} {ds : List Int} (h1 : w.ownsRow b 28 13 (.slice A1 ps.length c1) ps.length (rows ps)) (h2 : w.ownsRow b 3 1 (.slice A2 ds.length c2) ds.length (nums .i64 ds)) (ho : OkAll ps) : EvAt w A1 A2 ps.length ds.length c1 ps ds := by
  obtain ⟨A9, c9, e9, hp, hl, hm⟩ := pols_own h1 ho
  cases e9
  exact ⟨rfl, rfl, hp, own_reads' h2, hl, hm⟩
theorem ev_none (w : World) : EvAt w none none 0 0 0 [] [] := ⟨rfl, rfl, polsAt_none w, ints_none w .i64, by omega, by omega⟩
section
variable {k s g p k' s' g' p' : Int} {A1 A2 A1' A2' : Option Addr} {c1 c2 c1' c2' n m n' m' : Nat} {ps ps' : List Pol} {ds ds' : List Int} {w : World}
theorem eright_at (h : EvAt w A1 A2 n m c1 ps ds) (hn : n ≤ 200) (hm : m ≤ 200) : Calls Try.prog 30 #[.agg #[.int .i64 k, .int .i64 s, .slice A1 n c1, .slice A2 m c2, .int .u64 g, .int .u64 p]] w fun e w' => e = .returned (.bool (rightE k s g p ps ds)) ∧ Below w.heap.size w w' := by
  obtain ⟨rfl, rfl, h1, h2, h3, h4⟩ := h
  exact eright_any k s g p A1 A2 c1 c2 ps ds w h1 h2 (by omega) (by omega) h3 h4
theorem reright_at (h : EvAt w A1 A2 n m c1 ps ds) (hn : n ≤ 200) (hm : m ≤ 200) : Calls Try.prog 31 #[.agg #[.int .i64 k, .int .i64 s, .slice A1 n c1, .slice A2 m c2, .int .u64 g, .int .u64 p]] w fun e w' => e = .returned (.bool (rightE k s g p ps ds)) ∧ Below w.heap.size w w' := by
  obtain ⟨rfl, rfl, h1, h2, h3, h4⟩ := h
  exact reright_any k s g p A1 A2 c1 c2 ps ds w h1 h2 (by omega) (by omega) h3 h4
theorem ebytes_at (h : EvAt w A1 A2 n m c1 ps ds) (hn : n ≤ 200) (hm : m ≤ 200) : Calls Try.prog 25 #[.agg #[.int .i64 k, .int .i64 s, .slice A1 n c1, .slice A2 m c2, .int .u64 g, .int .u64 p]] w (MakesBytes (bytesV k s g p ps ds) w) := by
  obtain ⟨rfl, rfl, h1, h2, h3, h4⟩ := h
  exact ebytes_any k s g p A1 A2 c1 c2 ps ds w h1 h2 (by omega) (by omega) h3 h4
theorem rbytes_at (h : EvAt w A1 A2 n m c1 ps ds) (hn : n ≤ 200) (hm : m ≤ 200) : Calls Try.prog 29 #[.agg #[.int .i64 k, .int .i64 s, .slice A1 n c1, .slice A2 m c2, .int .u64 g, .int .u64 p]] w (MakesBytes (bytesV k s g p ps ds) w) := by
  obtain ⟨rfl, rfl, h1, h2, h3, h4⟩ := h
  exact rbytes_any k s g p A1 A2 c1 c2 ps ds w h1 h2 (by omega) (by omega) h3 h4
theorem esame_at (h : EvAt w A1 A2 n m c1 ps ds) (h' : EvAt w A1' A2' n' m' c1' ps' ds') (hn : n ≤ 200) (hm : m ≤ 200) : Calls Try.prog 32 #[.agg #[.int .i64 k, .int .i64 s, .slice A1 n c1, .slice A2 m c2, .int .u64 g, .int .u64 p], .agg #[.int .i64 k', .int .i64 s', .slice A1' n' c1', .slice A2' m' c2', .int .u64 g', .int .u64 p']] w fun e w' => e = .returned (.bool (sameE k s g p k' s' g' p' ps ps' ds ds')) ∧ Below w.heap.size w w' := by
  obtain ⟨rfl, rfl, h1, h2, h3, h4⟩ := h
  obtain ⟨rfl, rfl, h5, h6, h7, h8⟩ := h'
  exact esame_any k s g p k' s' g' p' A1 A2 A1' A2' c1 c2 c1' c2' ps ps' ds ds' w h1 h5 h2 h6 (by omega) (by omega)
theorem resame_at (h : EvAt w A1 A2 n m c1 ps ds) (h' : EvAt w A1' A2' n' m' c1' ps' ds') (hn : n ≤ 200) (hm : m ≤ 200) : Calls Try.prog 33 #[.agg #[.int .i64 k, .int .i64 s, .slice A1 n c1, .slice A2 m c2, .int .u64 g, .int .u64 p], .agg #[.int .i64 k', .int .i64 s', .slice A1' n' c1', .slice A2' m' c2', .int .u64 g', .int .u64 p']] w fun e w' => e = .returned (.bool (sameE k s g p k' s' g' p' ps ps' ds ds')) ∧ Below w.heap.size w w' := by
  obtain ⟨rfl, rfl, h1, h2, h3, h4⟩ := h
  obtain ⟨rfl, rfl, h5, h6, h7, h8⟩ := h'
  exact resame_any k s g p k' s' g' p' A1 A2 A1' A2' c1 c2 c1' c2' ps ps' ds ds' w h1 h5 h2 h6 (by omega) (by omega)
end
/-- Is an event too great to be looked at? -/
theorem great_any (k s g p : Int) (A1 A2 : Option Addr) (n m c1 c2 : Nat) (w : World) : Calls Try.prog 28 #[.agg #[.int .i64 k, .int .i64 s, .slice A1 n c1, .slice A2 m c2, .int .u64 g, .int .u64 p]] w fun e w' => e = .returned (.bool (decide (30 < n ∨ 30 < m))) ∧ Below w.heap.size w w' := by
  have hB := bl_alloc (Below.refl _ w) (.cells #[.int .i64 k, .int .i64 s, .slice A1 n c1, .slice A2 m c2, .int .u64 g, .int .u64 p] 53)
  by_cases h1 : 30 < n
  · have d1 : decide ((30 : Int) < (n : Int)) = true := decide_eq_true (by omega)
    rw [decide_eq_true (Or.inl h1)]
    clear h1
    go_enter Try.func28, Try.ntmps28
    go_wp2
    go_ret
    exact ⟨rfl, hB⟩
  · have d1 : decide ((30 : Int) < (n : Int)) = false := decide_eq_false (by omega)
    by_cases h2 : 30 < m
    · have d2 : decide ((30 : Int) < (m : Int)) = true := decide_eq_true (by omega)
      rw [decide_eq_true (Or.inr h2)]
      clear h1 h2
      go_enter Try.func28, Try.ntmps28
      go_wp2
      go_ret
      exact ⟨rfl, hB⟩
    · have d2 : decide ((30 : Int) < (m : Int)) = false := decide_eq_false (by omega)
      rw [decide_eq_false (by omega)]
      clear h1 h2
      go_enter Try.func28, Try.ntmps28
      go_wp2
      go_ret
      exact ⟨rfl, hB⟩
theorem right_279 : RightE 2 7 9 0 [] [] := .inr (.inl ⟨rfl, ⟨by decide, by decide⟩, ⟨by decide, by decide⟩, rfl, rfl, rfl⟩)
theorem right_35 : RightE 3 0 0 5 [] [] := .inr (.inr ⟨rfl, rfl, rfl, ⟨by decide, by decide⟩, rfl, rfl⟩)
theorem okAll_nil : OkAll [] := fun i hi => absurd hi (by simp)
theorem enc_35 : encL (evNums 3 0 0 5 [] []) = [3, 5] := by rw [evNums_3, encL_one (by omega), encL_one (by omega), encL_nil]
theorem enc_279 : encL (evNums 2 7 9 0 [] []) = [2, 7, 9] := by rw [evNums_2, encL_one (by omega), encL_one (by omega), encL_one (by omega), encL_nil]
/-- What is read is the event whose bytes they are. -/
theorem read_one {xs : List Int} {k s g p : Int} {ps : List Pol} {ds : List Int} {w w' : World} {e : Ending} (h : ReadPost xs w e w') (hR : RightE k s g p ps ds) (ho : OkAll ps) (hx : xs = encL (evNums k s g p ps ds)) :
    ∃ (A1 A2 : Option Addr) (c1 c2 : Nat), e = .returned (.tuple #[.agg #[.int .i64 k, .int .i64 s, .slice A1 ps.length c1, .slice A2 ds.length c2, .int .u64 g, .int .u64 p], .int .i64 0]) ∧ w'.ownsRow w.heap.size 28 13 (.slice A1 ps.length c1) ps.length (rows ps) ∧ w'.ownsRow w.heap.size 3 1 (.slice A2 ds.length c2) ds.length (nums .i64 ds) ∧ Below w.heap.size w w' := by
  rcases h with ⟨k', s', g', p', ps', ds', A1, A2, c1, c2, he, hR', ho', hx', h1, h2, h3⟩ | ⟨hno, _⟩
  · have := encL_inj (evNums_u64 hR ho) (evNums_u64 hR' ho') (hx.symm.trans hx')
    obtain ⟨rfl, rfl, rfl, rfl, rfl, rfl⟩ := evNums_inj (hR.shape ho) (hR'.shape ho') this
    exact ⟨A1, A2, c1, c2, he, h1, h2, h3⟩
  · exact absurd hx (hno k s g p ps ds hR ho)
theorem read_none {xs : List Int} {w w' : World} {e : Ending} (h : ReadPost xs w e w') (hno : NoBytes xs) : e = .returned (.tuple #[.agg #[.int .i64 0, .int .i64 0, .slice none 0 0, .slice none 0 0, .int .u64 0, .int .u64 0], .int .i64 121]) ∧ Below w.heap.size w w' := by
  rcases h with ⟨k', s', g', p', ps', ds', A1, A2, c1, c2, he, hR', ho', hx', _⟩ | ⟨_, he, hb⟩
  · exact absurd hx' (hno k' s' g' p' ps' ds' hR' ho')
  · exact ⟨he, hb⟩
theorem noBytes_nil : NoBytes [] := fun k s g p ps ds hR ho e => by
  have := (evNums_len hR ho).1
  exact encL_ne (l := evNums k s g p ps ds) (fun h => by rw [h] at this; simp at this) e.symm
theorem read_279 (A : Option Addr) (c : Nat) (W : World) (hr : ReadsInt W .u8 A 3 [2, 7, 9]) (hc : 3 ≤ c) (hcm : c ≤ 9223372036854775807) : Calls Try.prog 26 #[.slice A 3 c] W fun e w' => ∃ (A1 A2 : Option Addr) (c1 c2 : Nat), e = .returned (.tuple #[.agg #[.int .i64 2, .int .i64 7, .slice A1 0 c1, .slice A2 0 c2, .int .u64 9, .int .u64 0], .int .i64 0]) ∧ Below W.heap.size W w' :=
  (eread_any A c [2, 7, 9] W hr hc hcm (by intro x hx; simp at hx; omega)).mono fun e w' h => by
    obtain ⟨A1, A2, c1, c2, he, _, _, hb⟩ := read_one h right_279 okAll_nil enc_279.symm
    exact ⟨A1, A2, c1, c2, he, hb⟩
theorem read_nil (W : World) : Calls Try.prog 26 #[.slice none 0 0] W fun e w' => e = .returned (.tuple #[.agg #[.int .i64 0, .int .i64 0, .slice none 0 0, .slice none 0 0, .int .u64 0, .int .u64 0], .int .i64 121]) ∧ Below W.heap.size W w' :=
  (eread_any none 0 [] W (ints_none W .u8) (by simp) (by simp) (by simp)).mono fun e w' h => read_none h noBytes_nil
theorem bytes_35 (W : World) : Calls Try.prog 25 #[.agg #[.int .i64 3, .int .i64 0, .slice none 0 0, .slice none 0 0, .int .u64 0, .int .u64 5]] W fun e w' => ∃ v, e = .returned (.tuple #[v, .int .i64 0]) ∧ w'.ownsRow W.heap.size 5 1 v 2 (nums .u8 [3, 5]) ∧ Below W.heap.size W w' := by
  have h := ebytes_any 3 0 0 5 none none 0 0 [] [] W (polsAt_none W) (ints_none W .i64) (by simp) (by simp) (by simp) (by simp)
  rw [bytesV_yes right_35, enc_35] at h
  exact h
theorem bytes_0 (W : World) : Calls Try.prog 25 #[.agg #[.int .i64 0, .int .i64 0, .slice none 0 0, .slice none 0 0, .int .u64 0, .int .u64 0]] W fun e w' => ∃ v, e = .returned (.tuple #[v, .int .i64 121]) ∧ w'.ownsRow W.heap.size 5 1 v 0 (nums .u8 []) ∧ Below W.heap.size W w' := by
  have h := ebytes_any 0 0 0 0 none none 0 0 [] [] W (polsAt_none W) (ints_none W .i64) (by simp) (by simp) (by simp) (by simp)
  rw [bytesV_no (fun h => by unfold RightE at h; omega)] at h
  exact h
set_option maxHeartbeats 3200000 in
theorem ealive_any (w : World) : Calls Try.prog 27 #[] w fun e w' => e = .returned (.bool true) ∧ Below w.heap.size w w' := by
  have cvx : ∀ (W : World) (A : Option Addr) (c : Nat), ReadsInt W .u8 A 2 [3, 5] → (convert 48 9 (.slice A 2 c)).run Try.prog W = .ok (.string ⟨#[3, 5]⟩) W := fun W A c h => (cv8 W A c [3, 5] h).trans rfl
  have hlit : ∀ W : World, ReadsInt (W.alloc (.cells #[.int .u8 2, .int .u8 7, .int .u8 9] 5)) .u8 (some ⟨W.heap.size, 0, none⟩) 3 [2, 7, 9] := fun W => reads_lit W 5 .u8 [2, 7, 9] (by simp)
  replace cvx := Lib.hid cvx
  replace hlit := Lib.hid hlit
  go_enter Try.func27, Try.ntmps27
  go_wp2_with (first | (go_at_call 25; (with_reducible refine (bytes_35 _).mono ?_); rintro e w1 ⟨v1, rfl, ho1, hB1⟩; obtain ⟨Ab, cb, rfl, hrb⟩ := own_reads ho1) | (go_at_call 26; (with_reducible refine (read_279 _ _ _ (hlit.out w1) (by omega) (by omega)).mono ?_); rintro e w2 ⟨A1, A2, c1, c2, rfl, hB2⟩; have hB3 := bl_then (bl_alloc hB1 _) hB2; have hB4 := bl_then (bl_alloc (Below.refl _ w1) (.cells #[.int .u8 2, .int .u8 7, .int .u8 9] 5)) hB2; have kcv := cvx.out (w2.alloc (.cells #[.int .i64 2, .int .i64 7, .slice A1 0 c1, .slice A2 0 c2, .int .u64 9, .int .u64 0] 53)) Ab cb (hrb.below (bl_alloc hB4 _))))
  go_ret
  exact ⟨rfl, bl_alloc hB3 _⟩
set_option maxHeartbeats 3200000 in
theorem eventNames_walk (w : World) : Calls Try.prog 8 #[] w fun e w' => e = .returned (.bool true) ∧ Below w.heap.size w w' := by
  go_enter Try.func8, Try.ntmps8
  go_wp2_with (first | (go_at_call 25; (with_reducible refine (bytes_0 _).mono ?_); rintro e w1 ⟨v1, rfl, ho1, hB1⟩; obtain ⟨Ab, cb, rfl, hrb⟩ := own_reads ho1) | (go_at_call 26; (with_reducible refine (read_nil _).mono ?_); rintro e w2 ⟨rfl, hB2⟩; have hB3 := bl_then hB1 hB2) | (go_at_call 27; refine (ealive_any _).mono ?_; rintro e w3 ⟨rfl, hB4⟩))
  go_ret
  exact ⟨rfl, bl_then (bl_alloc hB3 _) hB4⟩
end Go.Proofs.Ytfcekicjlgdmaaa
