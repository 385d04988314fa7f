/- Contracts of package policy: Right and what it calls. -/
import Derived.Test.YtfcekicjlgdmaaaPol
import Derived.Test.YtfcekicjlgdmaaaAddr
import Derived.Test.YtfcekicjlgdmaaaGrow
set_option linter.unusedVariables false
set_option linter.unusedSimpArgs false
set_option maxRecDepth 100000
namespace Go.Proofs.Ytfcekicjlgdmaaa
open Go.RowKit Go.Proofs.YtfcekicjlgdmaaaW.PrintWords
attribute [local go_sem] max2_int min2_int max_two min_two
attribute [local go_sem ↓] eql_nt neq_nt eql_ad net_addr net_bits

theorem inf_u64 : (Try.prog.info? 26).map (fun i => (i.zero, i.size, i.bytes)) = some (some (.int .u64 0), 1, 8) := by kernel_rfl
theorem reads_lit (W : World) (e : TypeId) (k : IntKind) (xs : List Int) (hm : xs.length ≤ 9223372036854775807) :
    ReadsInt (W.alloc (.cells (nums k xs).toArray e)) k (some ⟨W.heap.size, 0, none⟩) xs.length xs := by
  obtain ⟨A, c, he, hr⟩ := own_reads (own_lit W W.heap.size e k xs (Nat.le_refl _) hm)
  injection he with h1 _ _
  subst h1
  exact hr
def overB (x : Int) : Bool := decide (281474976710656 < x)
def underB (x : Int) : Bool := decide (x < 1500)
theorem over_any (x : Int) (w : World) : Calls Try.prog 38 #[.int .u64 x] w fun e w' => e = .returned (.bool (overB x)) ∧ w = w' := by
  go_enter Try.func38, Try.ntmps38
  go_wp2
  go_ret
  exact ⟨rfl, rfl⟩
theorem under_any (x : Int) (w : World) : Calls Try.prog 39 #[.int .u64 x] w fun e w' => e = .returned (.bool (underB x)) ∧ w = w' := by
  go_enter Try.func39, Try.ntmps39
  go_wp2
  go_ret
  exact ⟨rfl, rfl⟩
def IdxPost (pr : Int → Bool) (xs : List Int) (w : World) (e : Ending) (w' : World) : Prop := ∃ n : Int, e = .returned (.int .i64 n) ∧ decide (0 ≤ n) = xs.any pr ∧ w = w'
theorem any_at {pr : Int → Bool} {xs : List Int} {k : Nat} (hk : k < xs.length) (h : pr (xs.getD k 0) = true) : xs.any pr = true := by
  rw [List.any_eq_true]
  exact ⟨xs.getD k 0, by rw [List.getD_eq_getElem?_getD, List.getElem?_eq_getElem hk]; exact List.getElem_mem hk, h⟩
theorem any_none {pr : Int → Bool} {xs : List Int} (h : ∀ i, i < xs.length → pr (xs.getD i 0) = false) : xs.any pr = false := by
  rw [List.any_eq_false]
  intro x hx
  obtain ⟨i, hi, rfl⟩ := List.mem_iff_getElem.1 hx
  have := h i hi
  rw [List.getD_eq_getElem?_getD, List.getElem?_eq_getElem hi] at this
  simpa using this
theorem IdxPost.hit {pr : Int → Bool} {xs : List Int} {w : World} {k : Nat} (hk : k < xs.length) (h : pr (xs.getD k 0) = true) : IdxPost pr xs w (.returned (.int .i64 (k : Int))) w := ⟨(k : Int), rfl, by rw [any_at hk h]; exact decide_eq_true (by omega), rfl⟩
theorem IdxPost.miss {pr : Int → Bool} {xs : List Int} {w : World} (h : ∀ i, i < xs.length → pr (xs.getD i 0) = false) : IdxPost pr xs w (.returned (.int .i64 (-1))) w := ⟨-1, rfl, by rw [any_none h]; decide, rfl⟩
set_option maxHeartbeats 800000 in
theorem idx_over (A : Option Addr) (cap : Nat) (xs : List Int) (w : World) (hr : ReadsInt w .u64 A xs.length xs) (hm : xs.length ≤ 9223372036854775807) :
    Calls Try.prog 56 #[.slice A xs.length cap, .func (.func 38) #[] #[]] w (IdxPost overB xs w) := by
  have hR := Lib.hid hr
  clear hr
  go_enter Try.func56, Try.ntmps56
  go_wp2
  go_loop [8] (fun v => ∃ k : Nat, v = .int .i64 k ∧ k ≤ xs.length ∧ ∀ i, i < k → overB (xs.getD i 0) = false) (fun v => xs.length - (intOf v).toNat)
  case atStart => exact ⟨0, rfl, Nat.zero_le _, fun i hi => absurd hi (by omega)⟩
  case round =>
    obtain ⟨k, rfl, hk, hn⟩ := hrel
    replace hn := Lib.hid hn
    by_cases hkl : k < xs.length
    · have hkl2 : decide ((k : Int) < (xs.length : Int)) = true := decide_eq_true (by omega)
      obtain ⟨ad, rfl, hcell⟩ := hR.out.at_ (k : Int) (by omega) (by omega)
      have hrd : rd xs (k : Int) = xs.getD k 0 := by simp [rd]
      rw [hrd, Int.toNat_natCast] at hcell
      clear hrd
      obtain ⟨c, hc⟩ : ∃ c, xs.getD k 0 = c := ⟨_, rfl⟩
      rw [hc] at hcell
      replace hc := Lib.hid hc
      cases hp : overB c with
      | true =>
        have hpp := Lib.hid hp
        clear hp
        go_wp2_with (go_at_call 38; (with_reducible refine (over_any c _).mono ?_); rw [hpp.out]; rintro e w' ⟨rfl, rfl⟩)
        go_ret
        exact IdxPost.hit hkl (by rw [hc.out, hpp.out])
      | false =>
        have hpp := Lib.hid hp
        clear hp
        go_wp2_with (go_at_call 38; (with_reducible refine (over_any c _).mono ?_); rw [hpp.out]; rintro e w' ⟨rfl, rfl⟩)
        go_round
        case rel =>
          refine ⟨k + 1, by first | rfl | (congr 1; omega), by omega, fun i hi => ?_⟩
          rcases Nat.lt_or_ge i k with h | h
          · exact hn.out i h
          · obtain rfl : i = k := by omega
            rw [hc.out, hpp.out]
        case measure => simp [intOf]; omega
    · have hkl2 : decide ((k : Int) < (xs.length : Int)) = false := decide_eq_false (by omega)
      obtain rfl : k = xs.length := by omega
      go_wp2
      go_ret
      exact IdxPost.miss hn.out
theorem con_over (A : Option Addr) (cap n : Nat) (xs : List Int) (w : World) (hr : ReadsInt w .u64 A n xs) (hm : n ≤ 9223372036854775807) :
    Calls Try.prog 41 #[.slice A n cap, .func (.func 38) #[] #[]] w fun e w' => e = .returned (.bool (xs.any overB)) ∧ w = w' := by
  obtain rfl : xs.length = n := hr.1
  go_enter Try.func41, Try.ntmps41
  go_wp2_with (go_at_call 56; (with_reducible refine (idx_over A cap xs _ hr hm).mono ?_); rintro e w' ⟨n, rfl, hn, rfl⟩; replace hn := Lib.hid hn)
  go_ret
  exact ⟨ret_bool hn.out, rfl⟩
set_option maxHeartbeats 800000 in
theorem idx_under (A : Option Addr) (cap : Nat) (xs : List Int) (w : World) (hr : ReadsInt w .u64 A xs.length xs) (hm : xs.length ≤ 9223372036854775807) :
    Calls Try.prog 56 #[.slice A xs.length cap, .func (.func 39) #[] #[]] w (IdxPost underB xs w) := by
  have hR := Lib.hid hr
  clear hr
  go_enter Try.func56, Try.ntmps56
  go_wp2
  go_loop [8] (fun v => ∃ k : Nat, v = .int .i64 k ∧ k ≤ xs.length ∧ ∀ i, i < k → underB (xs.getD i 0) = false) (fun v => xs.length - (intOf v).toNat)
  case atStart => exact ⟨0, rfl, Nat.zero_le _, fun i hi => absurd hi (by omega)⟩
  case round =>
    obtain ⟨k, rfl, hk, hn⟩ := hrel
    replace hn := Lib.hid hn
    by_cases hkl : k < xs.length
    · have hkl2 : decide ((k : Int) < (xs.length : Int)) = true := decide_eq_true (by omega)
      obtain ⟨ad, rfl, hcell⟩ := hR.out.at_ (k : Int) (by omega) (by omega)
      have hrd : rd xs (k : Int) = xs.getD k 0 := by simp [rd]
      rw [hrd, Int.toNat_natCast] at hcell
      clear hrd
      obtain ⟨c, hc⟩ : ∃ c, xs.getD k 0 = c := ⟨_, rfl⟩
      rw [hc] at hcell
      replace hc := Lib.hid hc
      cases hp : underB c with
      | true =>
        have hpp := Lib.hid hp
        clear hp
        go_wp2_with (go_at_call 39; (with_reducible refine (under_any c _).mono ?_); rw [hpp.out]; rintro e w' ⟨rfl, rfl⟩)
        go_ret
        exact IdxPost.hit hkl (by rw [hc.out, hpp.out])
      | false =>
        have hpp := Lib.hid hp
        clear hp
        go_wp2_with (go_at_call 39; (with_reducible refine (under_any c _).mono ?_); rw [hpp.out]; rintro e w' ⟨rfl, rfl⟩)
        go_round
        case rel =>
          refine ⟨k + 1, by first | rfl | (congr 1; omega), by omega, fun i hi => ?_⟩
          rcases Nat.lt_or_ge i k with h | h
          · exact hn.out i h
          · obtain rfl : i = k := by omega
            rw [hc.out, hpp.out]
        case measure => simp [intOf]; omega
    · have hkl2 : decide ((k : Int) < (xs.length : Int)) = false := decide_eq_false (by omega)
      obtain rfl : k = xs.length := by omega
      go_wp2
      go_ret
      exact IdxPost.miss hn.out
theorem con_under (A : Option Addr) (cap n : Nat) (xs : List Int) (w : World) (hr : ReadsInt w .u64 A n xs) (hm : n ≤ 9223372036854775807) :
    Calls Try.prog 41 #[.slice A n cap, .func (.func 39) #[] #[]] w fun e w' => e = .returned (.bool (xs.any underB)) ∧ w = w' := by
  obtain rfl : xs.length = n := hr.1
  go_enter Try.func41, Try.ntmps41
  go_wp2_with (go_at_call 56; (with_reducible refine (idx_under A cap xs _ hr hm).mono ?_); rintro e w' ⟨n, rfl, hn, rfl⟩; replace hn := Lib.hid hn)
  go_ret
  exact ⟨ret_bool hn.out, rfl⟩

/-- Can it be a policy? -/
def rightN (x : Nt) : Bool := rightB x.1 x.2.1 x.2.2.1 x.2.2.2.1 x.2.2.2.2
def seven (x : Pol) : List Int := [x.2.2.2.2.2.2.2.1, x.2.2.2.2.2.2.2.2, x.2.2.1, x.2.2.2.1, x.2.2.2.2.1, x.2.2.2.2.2.1, x.2.2.2.2.2.2.1]
def rightP (x : Pol) : Bool := decide (1 ≤ x.1 ∧ x.1 ≤ 255) && rightN x.2.1 && !(seven x).any overB && !([x.2.2.2.2.2.2.2.1, x.2.2.2.2.2.2.2.2].any underB)
set_option maxHeartbeats 1600000 in
theorem pright_any (x : Pol) (hok : PolOk x) (w : World) :
    Calls Try.prog 17 #[.agg #[.int .i64 x.1, .int .u8 x.2.1.1, .int .u8 x.2.1.2.1, .int .u8 x.2.1.2.2.1, .int .u8 x.2.1.2.2.2.1, .int .i64 x.2.1.2.2.2.2, .int .u64 x.2.2.1, .int .u64 x.2.2.2.1, .int .u64 x.2.2.2.2.1, .int .u64 x.2.2.2.2.2.1, .int .u64 x.2.2.2.2.2.2.1, .int .u64 x.2.2.2.2.2.2.2.1, .int .u64 x.2.2.2.2.2.2.2.2]] w fun e w' => e = .returned (.bool (rightP x)) ∧ Below w.heap.size w w' := by
  obtain ⟨s, ⟨a, b, c, d, n⟩, r1, r2, r3, r4, r5, r6, r7⟩ := x
  obtain ⟨_, hok1, _⟩ := hok
  unfold NtOkT at hok1
  dsimp only at hok1 ⊢
  unfold rightP rightN seven
  dsimp only
  have hbx := bk_new w #[.int .i64 s, .int .u8 a, .int .u8 b, .int .u8 c, .int .u8 d, .int .i64 n, .int .u64 r1, .int .u64 r2, .int .u64 r3, .int .u64 r4, .int .u64 r5, .int .u64 r6, .int .u64 r7] 28
  have hsz : ReadsInt ((w.alloc (.cells #[.int .i64 s, .int .u8 a, .int .u8 b, .int .u8 c, .int .u8 d, .int .i64 n, .int .u64 r1, .int .u64 r2, .int .u64 r3, .int .u64 r4, .int .u64 r5, .int .u64 r6, .int .u64 r7] 28)).alloc (.cells #[.int .u64 r6, .int .u64 r7] 26)) .u64 (some ⟨w.heap.size + 1, 0, none⟩) 2 [r6, r7] := by
    have := reads_lit (w.alloc (.cells #[.int .i64 s, .int .u8 a, .int .u8 b, .int .u8 c, .int .u8 d, .int .i64 n, .int .u64 r1, .int .u64 r2, .int .u64 r3, .int .u64 r4, .int .u64 r5, .int .u64 r6, .int .u64 r7] 28)) 26 .u64 [r6, r7] (by simp)
    rw [World.size_alloc] at this
    exact this
  replace hbx := bk_alloc hbx (.cells #[.int .u64 r6, .int .u64 r7] 26)
  have hBx := bl_alloc (bl_alloc (Below.refl _ w) (.cells #[.int .i64 s, .int .u8 a, .int .u8 b, .int .u8 c, .int .u8 d, .int .i64 n, .int .u64 r1, .int .u64 r2, .int .u64 r3, .int .u64 r4, .int .u64 r5, .int .u64 r6, .int .u64 r7] 28)) (.cells #[.int .u64 r6, .int .u64 r7] 26)
  replace hbx := Lib.hid hbx
  replace hsz := Lib.hid hsz
  replace hBx := Lib.hid hBx
  by_cases hs : 1 ≤ s ∧ s ≤ 255
  · have d1 : decide (s < 1) = false := decide_eq_false (by omega)
    have d2 : decide (255 < s) = false := decide_eq_false (by omega)
    rw [decide_eq_true hs, Bool.true_and]
    cases hR : rightB a b c d n with
    | false =>
      replace hR := Lib.hid hR
      rw [Bool.false_and, Bool.false_and]
      go_enter Try.func17, Try.ntmps17
      go_wp2_with (go_at_call 40; (with_reducible refine (aright_any a b c d n _ hok1).mono ?_); rw [hR.out]; rintro e w1 ⟨rfl, hB1⟩)
      go_ret
      exact ⟨rfl, bl_then hBx.out hB1⟩
    | true =>
      replace hR := Lib.hid hR
      rw [Bool.true_and]
      obtain ⟨v1, hv1⟩ : ∃ v, [r6, r7, r1, r2, r3, r4, r5].any overB = v := ⟨_, rfl⟩
      obtain ⟨v2, hv2⟩ : ∃ v, [r6, r7].any underB = v := ⟨_, rfl⟩
      rw [hv1, hv2]
      replace hv1 := Lib.hid hv1
      replace hv2 := Lib.hid hv2
      go_enter Try.func17, Try.ntmps17
      go_wp2_with (first | (go_at_call 40; (with_reducible refine (aright_any a b c d n _ hok1).mono ?_); rw [hR.out]; rintro e w1 ⟨rfl, hB1⟩; obtain ⟨z0, z1, z2, z3, z4, z5, z6, z7, z8, z9, z10, z11, z12, _⟩ := cells13 (bk_below hB1 hbx.out)) | (at_builtin; refine append_grow rfl (.tmp 27) (.tmp 38) 29 26 .u64 8 rfl Try.underlying29 inf_u64 (by decide) _ 2 2 [r6, r7] [r1, r2, r3, r4, r5] _ 5 5 rfl rfl ((hsz.out.below hB1).allocS _) (reads_lit w1 26 .u64 [r1, r2, r3, r4, r5] (by simp)) (fun h => by cases h) (by omega) (by omega) ?_; intro v3 w2 ho2 hB2))
      obtain ⟨A3, c3, rfl, hr3⟩ := own_reads (show w2.ownsRow _ _ 1 v3 7 (nums .u64 [r6, r7, r1, r2, r3, r4, r5]) from ho2)
      have hBy := bl_then (bl_alloc (bl_then hBx.out hB1) (.cells #[.int .u64 r1, .int .u64 r2, .int .u64 r3, .int .u64 r4, .int .u64 r5] 26)) hB2
      have hsz2 := Lib.hid (((hsz.out.below hB1).allocS (.cells #[.int .u64 r1, .int .u64 r2, .int .u64 r3, .int .u64 r4, .int .u64 r5] 26)).below hB2)
      replace hBy := Lib.hid hBy
      clear ho2 hB1 hB2
      refine (con_over A3 c3 7 [r6, r7, r1, r2, r3, r4, r5] _ hr3 (by omega)).mono ?_; rw [hv1.out]; rintro e w' ⟨rfl, rfl⟩
      cases v1 with
      | true =>
        go_wp2_with (fail)
        go_ret
        exact ⟨rfl, hBy.out⟩
      | false =>
        go_wp2_with (fail)
        refine (con_under (some ⟨w.heap.size + 1, 0, none⟩) 2 2 [r6, r7] _ hsz2.out (by omega)).mono ?_; rw [hv2.out]; rintro e w' ⟨rfl, rfl⟩
        go_wp2_with (fail)
        go_ret
        exact ⟨rfl, hBy.out⟩
  · rw [decide_eq_false hs, Bool.false_and, Bool.false_and, Bool.false_and]
    by_cases h1 : s < 1
    · have d1 : decide (s < 1) = true := decide_eq_true h1
      go_enter Try.func17, Try.ntmps17
      go_wp2_with (fail)
      go_ret
      exact ⟨rfl, hBx.out⟩
    · have d1 : decide (s < 1) = false := decide_eq_false h1
      have d2 : decide (255 < s) = true := decide_eq_true (by omega)
      go_enter Try.func17, Try.ntmps17
      go_wp2_with (fail)
      go_ret
      exact ⟨rfl, hBx.out⟩
end Go.Proofs.Ytfcekicjlgdmaaa
