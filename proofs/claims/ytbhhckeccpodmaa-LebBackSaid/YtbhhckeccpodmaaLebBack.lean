/- The walk of LebBack. -/
import Derived.Test.YtbhhckeccpodmaaLebLists
import Derived.Deep.RegionHeld3
set_option linter.unusedVariables false
set_option linter.unusedSimpArgs false
namespace Go.Proofs.Ytbhhckeccpodmaa
open Go.RowKit Go.Proofs.YtbhhckeccpodmaaW.PrintWords
attribute [local go_sem] max2_int min2_int max_two min_two

theorem encL_drop_at (l : List Int) (k : Nat) : (encL l).drop (encL (l.take k)).length = encL (l.drop k) := by
  conv => lhs; rw [← List.take_append_drop k l, encL_append]
  rw [List.take_append_drop, List.drop_left]
theorem encL_take_len (l : List Int) (k : Nat) : (encL (l.take k)).length + (encL (l.drop k)).length = (encL l).length := by
  rw [← List.length_append, ← encL_append, List.take_append_drop]
theorem getV_at {l b : List Int} {k : Nat} (hk : k < l.length) (h : U64 l) : getV (encL (l.drop k) ++ b) = (l.getD k 0, ((enc (l.getD k 0).toNat).length : Int), 0) := by
  have hb := h.getD hk
  have e : l.drop k = l.getD k 0 :: l.drop (k + 1) := by
    rw [List.drop_eq_getElem_cons hk]; simp [hk]
  rw [e, encL_cons, List.append_assoc, getV_ok (n := (l.getD k 0).toNat) (by omega) ⟨_, rfl⟩]
  simp only [Int.toNat_of_nonneg hb.1]

set_option maxHeartbeats 3200000 in
set_option maxRecDepth 100000 in
theorem lebBack_walk (A1 : Option Addr) (len1 cap1 : Nat) (zs1 : List Int) {w : World} (hz1 : IsRow .u64 w A1 len1 cap1 zs1) (A2 : Option Addr) (len2 cap2 : Nat) (zs2 : List Int) (hz2 : IsRow .u8 w A2 len2 cap2 zs2) :
    Calls Try.prog 14 #[.slice A1 len1 cap1, .slice A2 len2 cap2] w fun e w' => e = .returned (.bool true) ∧ Below w.heap.size w w' := by
  obtain ⟨l, rfl, hrl, hml, hwl, hcl⟩ := ReadsInt.ofRowC hz1
  obtain ⟨b, rfl, hrb, hmb, hwb, hcb⟩ := ReadsInt.ofRowC hz2
  have hcm1 := IsRow.cap_le hz1
  have hcm2 := IsRow.cap_le hz2
  have hl : U64 l := fun x hx => bounds_u64 (hwl x hx)
  have hb : ∀ x ∈ b, 0 ≤ x ∧ x ≤ 255 := fun x hx => bounds_u8 (hwb x hx)
  have hRl := Lib.hid hrl
  have hRb := Lib.hid hrb
  have hL := Lib.hid hl
  have hB := Lib.hid hb
  obtain ⟨i0, hi0, _, hsz, _⟩ := info_parts info_u8
  clear hz1 hz2 hrl hrb hwl hwb hl hb
  by_cases c1 : 64 < (l.length : Int)
  · have d1 : decide ((64 : Int) < (l.length : Int)) = true := decide_eq_true c1
    go_enter Try.func14, Try.ntmps14
    go_wp2_with (go_at_call 16; refine (lebAlive_any _).mono ?_; rintro e w0 ⟨rfl, hB0⟩)
    go_ret
    exact ⟨rfl, hB0⟩
  have d1 : decide ((64 : Int) < (l.length : Int)) = false := decide_eq_false c1
  by_cases c2 : 1000 < (b.length : Int)
  · have d2 : decide ((1000 : Int) < (b.length : Int)) = true := decide_eq_true c2
    go_enter Try.func14, Try.ntmps14
    go_wp2_with (go_at_call 16; refine (lebAlive_any _).mono ?_; rintro e w0 ⟨rfl, hB0⟩)
    go_ret
    exact ⟨rfl, hB0⟩
  have d2 : decide ((1000 : Int) < (b.length : Int)) = false := decide_eq_false c2
  have hgood : allV (encL l) = (l, 0) := allV_ok ⟨hL.out, by omega, rfl⟩
  replace hgood := Lib.hid hgood
  have hel := encL_len hL.out
  go_enter Try.func14, Try.ntmps14
  go_wp2_with (go_at_call 16; refine (lebAlive_any _).mono ?_; rintro e w0 ⟨rfl, hB0⟩)
  refine (nums_any A1 cap1 l _ (hRl.out.below hB0) hL.out (by omega)).mono ?_; rintro e w1 ⟨v1, rfl, ho1, hB1⟩; obtain ⟨A3, c3, rfl, hr3⟩ := own_reads ho1; have hc3 := own_le ho1; have hcm3 := own_capm ho1
  go_wp2_with (fail)
  refine (all_any A3 c3 (encL l) _ hr3 hc3 hcm3 (encL_bytes l)).mono ?_; unfold MakesAll; rw [hgood.out]; rintro e w2 ⟨v2, rfl, ho2, hB2⟩; obtain ⟨A4, c4, rfl, hr4⟩ := own_reads ho2
  have hBa := bl_then (bl_then hB0 hB1) hB2
  have hr3' := Lib.hid (hr3.below hB2)
  have hll : decide (l = l) = true := decide_eq_true rfl
  go_wp2_with (go_at_call 44; (with_reducible refine (same_any A4 A1 c4 cap1 l l _ hr4 (hRl.out.below hBa) (by omega) (by omega)).mono ?_); rintro e w3 ⟨rfl, nd, rfl⟩)
  have hBb := bl_drewN hBa nd
  replace hr3' := Lib.hid (hr3'.out.drewN nd)
  generalize w2.drewN nd = W1 at *
  clear hr4 ho2 ho1 hr3 hB2 hB1 hB0 hBa hll
  replace hBb := Lib.hid hBb
  go_loopw [8, 43] (fun v8 v43 wr => ∃ i : Nat, v43 = .int .i64 i ∧ i ≤ l.length ∧ v8 = .int .i64 (encL (l.take i)).length ∧ Below W1.heap.size W1 wr) (fun _ v43 _ => l.length - (intOf v43).toNat)
  case atStart => exact ⟨0, rfl, Nat.zero_le _, rfl, Below.refl _ _⟩
  case round =>
    obtain ⟨i, rfl, hi, rfl, hBl⟩ := hrel
    by_cases hil : i < l.length
    · have hil2 : decide ((i : Int) < (l.length : Int)) = true := decide_eq_true (by omega)
      have hBw := bl_then hBb.out hBl
      obtain ⟨ad, hA1, hcell⟩ := (hRl.out.below hBw).at_ (i : Int) (by omega) (by omega)
      subst hA1
      have hrd : rd l (i : Int) = l.getD i 0 := by simp [rd]
      rw [hrd, Int.toNat_natCast] at hcell
      clear hrd
      have hc0 := hL.out.getD hil
      have hgv := getV_at (b := b) hil hL.out
      have hts := encL_take_succ hil
      have htl := encL_take_len l i
      have htl2 := encL_take_len l (i + 1)
      rw [hts, List.length_append] at htl2
      obtain ⟨n, hn⟩ := Int.eq_ofNat_of_zero_le hc0.1
      rw [hn] at hcell hc0 hgv hts htl2
      rw [Int.toNat_natCast] at hts htl2 hgv
      replace hgv := Lib.hid hgv
      replace hn := Lib.hid hn
      have htn : (encL (l.take (i + 1))).length = (encL (l.take i)).length + (enc n).length := by rw [hts, List.length_append]
      replace htn := Lib.hid htn
      clear hts
      have hdr := encL_drop_at l i
      obtain ⟨t, ht⟩ : ∃ t, (encL (l.take i)).length = t := ⟨_, rfl⟩
      obtain ⟨xs, hxs⟩ : ∃ xs, encL (l.drop i) = xs := ⟨_, rfl⟩
      rw [ht, hxs] at htl hdr
      rw [ht] at htl2 htn ⊢
      rw [hxs] at hgv
      have hxb : xs.length ≤ (encL l).length := by omega
      have hdl : xs.length = (encL l).length - t := by omega
      have htle : t + (enc n).length ≤ (encL l).length := by omega
      obtain ⟨A5, hcut, hA5⟩ := print_cut 26 5 .i64 Try.underlying26 hi0 hsz A3 (encL l).length c3 t (by omega)
      have hr5 := (hA5 W1 .u8 (encL l) hc3 hr3'.out).below hBl
      rw [hdr] at hr5
      rw [← hdl] at hr5 hcut
      replace hA5 := Lib.hid hA5
      replace hr5 := Lib.hid hr5
      replace htl := Lib.hid htl
      replace htl2 := Lib.hid htl2
      replace hdl := Lib.hid hdl
      replace hdr := Lib.hid hdr
      replace ht := Lib.hid ht
      replace hxs := Lib.hid hxs
      have hne1 : ((n : Int) != (n : Int)) = false := by simp
      have hle2 : decide (((encL l).length : Int) - ((enc n).length : Int) < (t : Int)) = false := decide_eq_false (by omega)
      have hxbB : ∀ x ∈ xs ++ b, 0 ≤ x ∧ x ≤ 255 := by
        intro x hx
        rcases List.mem_append.1 hx with h | h
        · exact encL_bytes _ x (by rw [hxs.out]; exact h)
        · exact hB.out x h
      obtain ⟨xb, hxb0⟩ : ∃ xb, xs ++ b = xb := ⟨_, rfl⟩
      rw [hxb0] at hxbB hgv
      replace hxb0 := Lib.hid hxb0
      replace hxbB := Lib.hid hxbB
      replace hgv := Lib.hid hgv.out
      go_wp2_with (first | (at_builtin; refine print_append_row (w0 := W1) W1.heap.size rfl (.tmp 48) (.tmp 51) 26 5 .u8 1 rfl Try.underlying26 info_u8 (by decide) _ [] xs A5 _ _ rfl rfl (empty_own wr W1.heap.size 5 .u8 hBl.size) (hr5.out.below (bl_alloc (Below.refl _ _) _)) (bl_alloc hBl _) (bl_alloc hBl _).size (by simp; omega) ?_; rw [List.nil_append]; intro v5 w5 ho5 hB5 hg5 hat5) | (at_builtin; refine print_append_row (w0 := W1) W1.heap.size rfl (.tmp 52) (.tmp 53) 26 5 .u8 1 rfl Try.underlying26 info_u8 (by decide) _ xs b A2 _ cap2 rfl rfl ho5 (hRb.out.below (bl_then hBb.out hB5)) hB5 hB5.size (by omega) ?_; intro v6 w6; rw [hxb0.out]; intro ho6 hB6 hg6 hat6; obtain ⟨A6, c6, rfl, hr6⟩ := own_reads ho6; have hc6 := own_le ho6; have hcm6 := own_capm ho6) | (go_at_call 15; (with_reducible refine (get_any A6 c6 xb _ hr6 hc6 hcm6 hxbB.out).mono ?_); rw [hgv.out]; rintro e w' ⟨rfl, rfl⟩) | (go_at_call 17; (with_reducible refine (size_any n _ (by omega)).mono ?_); rintro e w' ⟨rfl, rfl⟩))
      exact ⟨⟨i + 1, by first | rfl | (congr 1; omega), by omega, by rw [htn.out]; first | rfl | (congr 1; omega), hB6⟩, by simp [intOf]; omega⟩
    · have hil2 : decide ((i : Int) < (l.length : Int)) = false := decide_eq_false (by omega)
      obtain rfl : i = l.length := by omega
      rw [List.take_length]
      have hBw := bl_then hBb.out hBl
      have hrb4 := Lib.hid (hRb.out.below hBw)
      have heq : (((encL l).length : Int) == ((encL l).length : Int)) = true := by simp
      rcases allV_cases b with ⟨l2, hg2, hav⟩ | hav
      · replace hav := Lib.hid hav
        have hl2 := hg2.2.1
        have hbe := Lib.hid hg2.2.2
        have hL2 := Lib.hid hg2.1
        clear hg2
        go_wp2_with (first | (at_builtin; refine print_append_row (w0 := wr) wr.heap.size rfl (.tmp 85) (.tmp 86) 26 5 .u8 1 rfl Try.underlying26 info_u8 (by decide) _ [] b A2 _ cap2 rfl rfl (empty_own wr wr.heap.size 5 .u8 (Nat.le_refl _)) (hrb4.out.below (bl_alloc (Below.refl _ _) _)) (bl_alloc (Below.refl _ _) _) (bl_alloc (Below.refl _ _) _).size (by simp; omega) ?_; rw [List.nil_append]; intro v5 w5 ho5 hB5 hg5 hat5; obtain ⟨A6, c6, rfl, hr6⟩ := own_reads ho5; have hc6 := own_le ho5; have hcm6 := own_capm ho5) | (go_at_call 40; (with_reducible refine (all_any A6 c6 b _ hr6 hc6 hcm6 hB.out).mono ?_); unfold MakesAll; rw [hav.out]; dsimp only; rintro e w6 ⟨v6, rfl, ho6, hB6⟩; obtain ⟨A8, c8, rfl, hr8⟩ := own_reads ho6))
        have hBx := bl_then (bl_then hBw hB5) hB6
        replace hr8 := Lib.hid (hr8.drewN 1)
        have hrb6 := Lib.hid ((hRb.out.below hBx).drewN 1)
        clear hr6 ho5 ho6 hg5 hat5
        obtain ⟨S, hS⟩ : ∃ S, strOfNums b = S := ⟨_, rfl⟩
        have cv : ∀ (w' : World) (A : Option Addr) (c : Nat), RowE b w' A → (convert 26 9 (.slice A b.length c)).run Try.prog w' = .ok (.string S) w' := fun w' A c h => by
          rw [← hS]; exact string_of_reads (P := Try.prog) (c := c) Try.underlying26 Try.underlying5 Try.underlying9 h
        have k0 := cv w6.drew A2 cap2 hrb6.out
        replace cv := Lib.hid cv
        clear hS
        clear k0
        refine wp_region_noPanic ?_
        refine wp_region_held_drew (S := fun w' => (convert 26 9 (.slice A2 b.length cap2)).run Try.prog w' = .ok (.string S) w') (by kernel_rfl) (cv.out _ _ _ hrb6.out) (fun hHeld => ?_)
        refine wpAnyH_take (i := 0) (oi := { dst := some 91, op := Go.Op.move (Go.Operand.tmp 8), type := 3, pos := "law.go:77", after := #[], guard := none }) (v := ?_) rfl (by kernel_rfl) (by kernel_rfl) (by kernel_rfl) (fun _ _ _ h => h) (Or.inl ⟨by rfl, ?_⟩) (by assumption) ?_
        rotate_left 1
        · intro w' hSw
          first | (go_simp; done) | (go_simp; with_reducible rfl)
        try simp only [Act.put, List.setIfInBounds_toArray, List.set_cons_zero, List.set_cons_succ]
        refine wpAnyH_take (i := 1) (oi := { dst := some 92, op := Go.Op.move (Go.Operand.tmp 5), type := 26, pos := "law.go:77", after := #[], guard := none }) (v := ?_) rfl (by kernel_rfl) (by kernel_rfl) (by kernel_rfl) (fun _ _ _ h => h) (Or.inl ⟨by rfl, ?_⟩) (by assumption) ?_
        rotate_left 1
        · intro w' hSw
          first | (go_simp; done) | (go_simp; with_reducible rfl)
        try simp only [Act.put, List.setIfInBounds_toArray, List.set_cons_zero, List.set_cons_succ]
        refine wpAnyH_take (i := 2) (oi := { dst := some 93, op := Go.Op.call { callee := Go.Callee.builtin Go.Builtin.len, args := #[Go.Operand.tmp 92], argTypes := #[26] }, type := 3, pos := "law.go:77", after := #[{ on := 1, ground := Go.Ground.data }], guard := none }) (v := ?_) rfl (by kernel_rfl) (by kernel_rfl) (by kernel_rfl) (fun _ _ _ h => h) (Or.inl ⟨by rfl, ?_⟩) (by assumption) ?_
        rotate_left 1
        · intro w' hSw
          first | (go_simp; done) | (go_simp; with_reducible rfl)
        try simp only [Act.put, List.setIfInBounds_toArray, List.set_cons_zero, List.set_cons_succ]
        refine wpAnyH_take (i := 3) (oi := { dst := some 94, op := Go.Op.binOp Go.BinOp.eql 3 (Go.Operand.tmp 91) (Go.Operand.tmp 93) 3, type := 4, pos := "law.go:77", after := #[{ on := 0, ground := Go.Ground.data }, { on := 2, ground := Go.Ground.data }], guard := none }) (v := ?_) rfl (by kernel_rfl) (by kernel_rfl) (by kernel_rfl) (fun _ _ _ h => h) (Or.inl ⟨by rfl, ?_⟩) (by assumption) ?_
        rotate_left 1
        · intro w' hSw
          first | (go_simp; done) | (go_simp; with_reducible rfl)
        try simp only [Act.put, List.setIfInBounds_toArray, List.set_cons_zero, List.set_cons_succ]
        refine wpAnyH_take (i := 4) (oi := { dst := some 95, op := Go.Op.move (Go.Operand.tmp 94), type := 4, pos := "law.go:77", after := #[{ on := 3, ground := Go.Ground.data }], guard := none }) (v := ?_) rfl (by kernel_rfl) (by kernel_rfl) (by kernel_rfl) (fun _ _ _ h => h) (Or.inl ⟨by rfl, ?_⟩) (by assumption) ?_
        rotate_left 1
        · intro w' hSw
          first | (go_simp; done) | (go_simp; with_reducible rfl)
        try simp only [Act.put, List.setIfInBounds_toArray, List.set_cons_zero, List.set_cons_succ]
        refine wpAnyH_take (i := 5) (oi := { dst := some 96, op := Go.Op.move (Go.Operand.tmp 15), type := 23, pos := "law.go:77", after := #[{ on := 4, ground := Go.Ground.guard }], guard := some (4, true) }) (v := ?_) rfl (by kernel_rfl) (by kernel_rfl) (by kernel_rfl) (fun _ _ _ h => h) (Or.inl ⟨by rfl, ?_⟩) (by assumption) ?_
        rotate_left 1
        · intro w' hSw
          first | (go_simp; done) | (go_simp; with_reducible rfl)
        try simp only [Act.put, List.setIfInBounds_toArray, List.set_cons_zero, List.set_cons_succ]
        refine wpAnyH_take (i := 6) (oi := { dst := some 97, op := Go.Op.binOp Go.BinOp.neq 23 (Go.Operand.tmp 96) (Go.Operand.const (Go.Value.int Go.IntKind.i64 0)) 23, type := 4, pos := "law.go:77", after := #[{ on := 5, ground := Go.Ground.data }, { on := 4, ground := Go.Ground.guard }], guard := some (4, true) }) (v := ?_) rfl (by kernel_rfl) (by kernel_rfl) (by kernel_rfl) (fun _ _ _ h => h) (Or.inl ⟨by rfl, ?_⟩) (by assumption) ?_
        rotate_left 1
        · intro w' hSw
          first | (go_simp; done) | (go_simp; with_reducible rfl)
        try simp only [Act.put, List.setIfInBounds_toArray, List.set_cons_zero, List.set_cons_succ]
        refine wpAnyH_take (i := 7) (oi := { dst := some 98, op := Go.Op.move (Go.Operand.tmp 97), type := 4, pos := "law.go:77", after := #[{ on := 6, ground := Go.Ground.data }, { on := 4, ground := Go.Ground.chain }, { on := 4, ground := Go.Ground.guard }], guard := some (4, true) }) (v := ?_) rfl (by kernel_rfl) (by kernel_rfl) (by kernel_rfl) (fun _ _ _ h => h) (Or.inl ⟨by rfl, ?_⟩) (by assumption) ?_
        rotate_left 1
        · intro w' hSw
          first | (go_simp; done) | (go_simp; with_reducible rfl)
        try simp only [Act.put, List.setIfInBounds_toArray, List.set_cons_zero, List.set_cons_succ]
        refine wpAnyH_take (i := 8) (oi := { dst := some 99, op := Go.Op.move (Go.Operand.tmp 14), type := 65, pos := "law.go:77", after := #[{ on := 7, ground := Go.Ground.guard }], guard := some (7, false) }) (v := ?_) rfl (by kernel_rfl) (by kernel_rfl) (by kernel_rfl) (fun _ _ _ h => h) (Or.inl ⟨by rfl, ?_⟩) (by assumption) ?_
        rotate_left 1
        · intro w' hSw
          first | (go_simp; done) | (go_simp; with_reducible rfl)
        try simp only [Act.put, List.setIfInBounds_toArray, List.set_cons_zero, List.set_cons_succ]
        refine wpAnyH_take (i := 11) (oi := { dst := some 102, op := Go.Op.move (Go.Operand.tmp 1), type := 26, pos := "law.go:77", after := #[{ on := 7, ground := Go.Ground.guard }], guard := some (7, false) }) (v := ?_) rfl (by kernel_rfl) (by kernel_rfl) (by kernel_rfl) (fun _ _ _ h => h) (Or.inl ⟨by rfl, ?_⟩) (by assumption) ?_
        rotate_left 1
        · intro w' hSw
          first | (go_simp; done) | (go_simp; with_reducible rfl)
        try simp only [Act.put, List.setIfInBounds_toArray, List.set_cons_zero, List.set_cons_succ]
        refine wpAnyH_take (i := 12) (oi := { dst := some 103, op := Go.Op.convert 26 9 (Go.Operand.tmp 102), type := 9, pos := "law.go:77", after := #[{ on := 11, ground := Go.Ground.data }, { on := 7, ground := Go.Ground.guard }], guard := some (7, false) }) (v := ?_) rfl (by kernel_rfl) (by kernel_rfl) (by kernel_rfl) (fun _ _ _ h => h) (Or.inl ⟨by rfl, ?_⟩) (by assumption) ?_
        rotate_left 1
        · intro w' hSw
          first | (go_simp; done) | (go_simp; with_reducible rfl)
        try simp only [Act.put, List.setIfInBounds_toArray, List.set_cons_zero, List.set_cons_succ]
        refine wpAnyH_ready (rs := [9]) (by kernel_rfl) (by simp) ?_
        refine AllReadyH.cons (o := { dst := some 100, op := Go.Op.call { callee := Go.Callee.value (Go.Operand.func 42), args := #[Go.Operand.tmp 99], argTypes := #[65] }, type := 26, pos := "law.go:77", after := #[{ on := 8, ground := Go.Ground.data }, { on := 7, ground := Go.Ground.chain }, { on := 7, ground := Go.Ground.guard }], guard := some (7, false) }) rfl (fun K hK => ?_) AllReadyH.nil
        go_simp
        go_at_call 42
        refine (nums_any A8 c8 l2 _ hr8.out hL2.out (by omega)).mono ?_
        unfold MakesInts
        rw [← hbe.out]
        rintro e w7 ⟨v7, rfl, ho7, hB7⟩
        obtain ⟨A7, c7, rfl, hr7⟩ := own_reads ho7
        have k1 := cv.out w7 A7 c7 hr7
        clear ho7
        go_wp2_with (fail)
        refine hK.out _ _ ?_ (fun hHeld => ?_)
        · exact cv.out _ _ _ (RowE.below hrb6.out hB7)
        clear hK K
        try simp only [Act.put, List.setIfInBounds_toArray, List.set_cons_zero, List.set_cons_succ]
        refine wpAnyH_ready (rs := [10]) (by kernel_rfl) (by simp) ?_
        refine AllReadyH.cons (o := { dst := some 101, op := Go.Op.convert 26 9 (Go.Operand.tmp 100), type := 9, pos := "law.go:77", after := #[{ on := 9, ground := Go.Ground.data }, { on := 7, ground := Go.Ground.guard }], guard := some (7, false) }) rfl (fun K hK => ?_) AllReadyH.nil
        go_simp
        skip
        refine hK.out _ _ ?_ (fun hHeld => ?_)
        · exact cv.out _ _ _ (RowE.below hrb6.out hB7)
        clear hK K
        try simp only [Act.put, List.setIfInBounds_toArray, List.set_cons_zero, List.set_cons_succ]
        refine wpAnyH_take (i := 13) (oi := { dst := some 104, op := Go.Op.binOp Go.BinOp.eql 9 (Go.Operand.tmp 101) (Go.Operand.tmp 103) 9, type := 4, pos := "law.go:77", after := #[{ on := 10, ground := Go.Ground.data }, { on := 12, ground := Go.Ground.data }, { on := 7, ground := Go.Ground.guard }], guard := some (7, false) }) (v := ?_) rfl (by kernel_rfl) (by kernel_rfl) (by kernel_rfl) (fun _ _ _ h => h) (Or.inl ⟨by rfl, ?_⟩) (by assumption) ?_
        rotate_left 1
        · intro w' hSw
          first | (go_simp; done) | (go_simp; with_reducible rfl)
        try simp only [Act.put, List.setIfInBounds_toArray, List.set_cons_zero, List.set_cons_succ]
        refine wpAnyH_take (i := 14) (oi := { dst := some 105, op := Go.Op.pick (Go.Operand.tmp 98) (Go.Operand.const (Go.Value.bool true)) (Go.Operand.tmp 104), type := 4, pos := "law.go:77", after := #[{ on := 7, ground := Go.Ground.data }, { on := 13, ground := Go.Ground.data }, { on := 4, ground := Go.Ground.guard }], guard := some (4, true) }) (v := ?_) rfl (by kernel_rfl) (by kernel_rfl) (by kernel_rfl) (fun _ _ _ h => h) (Or.inl ⟨by rfl, ?_⟩) (by assumption) ?_
        rotate_left 1
        · intro w' hSw
          first | (go_simp; done) | (go_simp; with_reducible rfl)
        try simp only [Act.put, List.setIfInBounds_toArray, List.set_cons_zero, List.set_cons_succ]
        refine wpAnyH_take (i := 15) (oi := { dst := some 106, op := Go.Op.pick (Go.Operand.tmp 95) (Go.Operand.tmp 105) (Go.Operand.const (Go.Value.bool false)), type := 4, pos := "law.go:77", after := #[{ on := 4, ground := Go.Ground.data }, { on := 14, ground := Go.Ground.data }], guard := none }) (v := ?_) rfl (by kernel_rfl) (by kernel_rfl) (by kernel_rfl) (fun _ _ _ h => h) (Or.inl ⟨by rfl, ?_⟩) (by assumption) ?_
        rotate_left 1
        · intro w' hSw
          first | (go_simp; done) | (go_simp; with_reducible rfl)
        try simp only [Act.put, List.setIfInBounds_toArray, List.set_cons_zero, List.set_cons_succ]
        refine wpAnyH_take (i := 16) (oi := { dst := some 4, op := Go.Op.assign (Go.Operand.tmp 106), type := 4, pos := "law.go:77", after := #[{ on := 15, ground := Go.Ground.data }, { on := 9, ground := Go.Ground.chain }, { on := 0, ground := Go.Ground.phase }, { on := 1, ground := Go.Ground.phase }, { on := 2, ground := Go.Ground.phase }, { on := 3, ground := Go.Ground.phase }, { on := 4, ground := Go.Ground.phase }, { on := 5, ground := Go.Ground.phase }, { on := 6, ground := Go.Ground.phase }, { on := 7, ground := Go.Ground.phase }, { on := 8, ground := Go.Ground.phase }, { on := 9, ground := Go.Ground.phase }, { on := 10, ground := Go.Ground.phase }, { on := 11, ground := Go.Ground.phase }, { on := 12, ground := Go.Ground.phase }, { on := 13, ground := Go.Ground.phase }, { on := 14, ground := Go.Ground.phase }, { on := 15, ground := Go.Ground.phase }], guard := none }) (v := ?_) rfl (by kernel_rfl) (by kernel_rfl) (by kernel_rfl) (fun _ _ _ h => h) (Or.inl ⟨by rfl, ?_⟩) (by assumption) ?_
        rotate_left 1
        · intro w' hSw
          first | (go_simp; done) | (go_simp; with_reducible rfl)
        try simp only [Act.put, List.setIfInBounds_toArray, List.set_cons_zero, List.set_cons_succ]
        refine wpAnyH_done (by kernel_rfl) ?_ _
        refine NoPanic.normal ?_
        go_wp2
        go_ret
        exact ⟨rfl, bl_then (bl_drew hBx) hB7⟩
      · replace hav := Lib.hid hav
        go_wp2_with (first | (at_builtin; refine print_append_row (w0 := wr) wr.heap.size rfl (.tmp 85) (.tmp 86) 26 5 .u8 1 rfl Try.underlying26 info_u8 (by decide) _ [] b A2 _ cap2 rfl rfl (empty_own wr wr.heap.size 5 .u8 (Nat.le_refl _)) (hrb4.out.below (bl_alloc (Below.refl _ _) _)) (bl_alloc (Below.refl _ _) _) (bl_alloc (Below.refl _ _) _).size (by simp; omega) ?_; rw [List.nil_append]; intro v5 w5 ho5 hB5 hg5 hat5; obtain ⟨A6, c6, rfl, hr6⟩ := own_reads ho5; have hc6 := own_le ho5; have hcm6 := own_capm ho5) | (go_at_call 40; (with_reducible refine (all_any A6 c6 b _ hr6 hc6 hcm6 hB.out).mono ?_); unfold MakesAll; rw [hav.out]; dsimp only; rintro e w6 ⟨v6, rfl, ho6, hB6⟩; obtain ⟨A8, c8, rfl, hr8⟩ := own_reads ho6))
        go_quiet (fail)
        go_wp2
        go_ret
        exact ⟨rfl, bl_drewN (bl_then (bl_then hBw hB5) hB6) _⟩
end Go.Proofs.Ytbhhckeccpodmaa
