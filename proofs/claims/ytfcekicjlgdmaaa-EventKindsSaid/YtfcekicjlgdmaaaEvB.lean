/- Contracts: is a number among others? Contracts: does a policy's subscriber stand among the drops? Contracts: can the drops be, beside some policies? -/
import Derived.Test.YtfcekicjlgdmaaaEvA
set_option linter.unusedVariables false
set_option linter.unusedSimpArgs false
set_option maxRecDepth 100000
namespace Go.Proofs.Ytfcekicjlgdmaaa
open Go.RowKit Go.Proofs.YtfcekicjlgdmaaaW.PrintWords
attribute [local go_sem] max2_int min2_int max_two min_two
attribute [local go_sem ↓] eql_nt neq_nt eql_ad net_addr net_bits eql_pol neq_pol

def isB (n x : Int) : Bool := decide (n = x)
set_option maxHeartbeats 800000 in
theorem idx_ints (A : Option Addr) (cap : Nat) (xs : List Int) (n : Int) (w : World) (hr : ReadsInt w .i64 A xs.length xs) (hm : xs.length ≤ 9223372036854775807) :
    Calls Try.prog 71 #[.slice A xs.length cap, .int .i64 n] w (IdxPost (isB n) xs w) := by
  have hR := Lib.hid hr
  clear hr
  go_enter Try.func71, Try.ntmps71
  go_wp2
  go_loop [8] (fun v => ∃ k : Nat, v = .int .i64 k ∧ k ≤ xs.length ∧ ∀ i, i < k → isB n (xs.getD i 0) = false) (fun v => xs.length - (intOf v).toNat)
  case atStart => exact ⟨0, rfl, Nat.zero_le _, fun i hi => absurd hi (by omega)⟩
  case round =>
    obtain ⟨k, rfl, hk, hn⟩ := hrel
    replace hn := Lib.hid hn
    by_cases hkl : k < xs.length
    · have hkl2 : decide ((k : Int) < (xs.length : Int)) = true := decide_eq_true (by omega)
      obtain ⟨ad, rfl, hcell⟩ := hR.out.at_ (k : Int) (by omega) (by omega)
      have hrd : rd xs (k : Int) = xs.getD k 0 := by simp [rd]
      rw [hrd, Int.toNat_natCast] at hcell
      clear hrd
      obtain ⟨c, hc⟩ : ∃ c, xs.getD k 0 = c := ⟨_, rfl⟩
      rw [hc] at hcell
      replace hc := Lib.hid hc
      by_cases hp : n = c
      · subst hp
        go_wp2_with (fail)
        go_ret
        exact IdxPost.hit hkl (by rw [hc.out]; exact decide_eq_true rfl)
      · have hd : decide (n = c) = false := decide_eq_false hp
        have hd2 : (n == c) = false := by simp [hp]
        go_wp2_with (fail)
        go_round
        case rel =>
          refine ⟨k + 1, by first | rfl | (congr 1; omega), by omega, fun i hi => ?_⟩
          rcases Nat.lt_or_ge i k with h | h
          · exact hn.out i h
          · obtain rfl : i = k := by omega
            rw [hc.out]
            exact decide_eq_false hp
        case measure => simp [intOf]; omega
    · have hkl2 : decide ((k : Int) < (xs.length : Int)) = false := decide_eq_false (by omega)
      obtain rfl : k = xs.length := by omega
      go_wp2
      go_ret
      exact IdxPost.miss hn.out
theorem con_ints (A : Option Addr) (cap m : Nat) (xs : List Int) (n : Int) (w : World) (hr : ReadsInt w .i64 A m xs) (hm : m ≤ 9223372036854775807) :
    Calls Try.prog 65 #[.slice A m cap, .int .i64 n] w fun e w' => e = .returned (.bool (xs.any (isB n))) ∧ w = w' := by
  obtain rfl : xs.length = m := hr.1
  go_enter Try.func65, Try.ntmps65
  go_wp2_with (go_at_call 71; (with_reducible refine (idx_ints A cap xs n _ hr hm).mono ?_); rintro e w' ⟨n, rfl, hn, rfl⟩; replace hn := Lib.hid hn)
  go_ret
  exact ⟨ret_bool hn.out, rfl⟩
end Go.Proofs.Ytfcekicjlgdmaaa
namespace Go.Proofs.Ytfcekicjlgdmaaa
open Go.RowKit Go.Proofs.YtfcekicjlgdmaaaW.PrintWords
attribute [local go_sem] max2_int min2_int max_two min_two
attribute [local go_sem ↓] eql_nt neq_nt eql_ad net_addr net_bits eql_pol neq_pol

set_option maxHeartbeats 800000 in
theorem drop1_any (x : Pol) (b : Nat) (A : Option Addr) (cap : Nat) (ds : List Int) (w : World) (hb : Bk w b #[.slice A ds.length cap] 51) (hr : ReadsInt w .i64 A ds.length ds) (hm : ds.length ≤ 9223372036854775807) :
    Calls Try.prog 64 #[.agg #[.int .i64 x.1, .int .u8 x.2.1.1, .int .u8 x.2.1.2.1, .int .u8 x.2.1.2.2.1, .int .u8 x.2.1.2.2.2.1, .int .i64 x.2.1.2.2.2.2, .int .u64 x.2.2.1, .int .u64 x.2.2.2.1, .int .u64 x.2.2.2.2.1, .int .u64 x.2.2.2.2.2.1, .int .u64 x.2.2.2.2.2.2.1, .int .u64 x.2.2.2.2.2.2.2.1, .int .u64 x.2.2.2.2.2.2.2.2], .pointer (some ⟨b, 0, none⟩)] w fun e w' => e = .returned (.bool (ds.any (isB x.1))) ∧ Below w.heap.size w w' := by
  have hc : (w.alloc (.cells #[.int .i64 x.1, .int .u8 x.2.1.1, .int .u8 x.2.1.2.1, .int .u8 x.2.1.2.2.1, .int .u8 x.2.1.2.2.2.1, .int .i64 x.2.1.2.2.2.2, .int .u64 x.2.2.1, .int .u64 x.2.2.2.1, .int .u64 x.2.2.2.2.1, .int .u64 x.2.2.2.2.2.1, .int .u64 x.2.2.2.2.2.2.1, .int .u64 x.2.2.2.2.2.2.2.1, .int .u64 x.2.2.2.2.2.2.2.2] 28)).cell? ⟨b, 0, none⟩ = some (.slice A ds.length cap) := (bk_cell (bk_alloc hb _) 0).trans rfl
  obtain ⟨v, hv⟩ : ∃ v, ds.any (isB x.1) = v := ⟨_, rfl⟩
  rw [hv]
  replace hv := Lib.hid hv
  replace hr := Lib.hid hr
  go_enter Try.func64, Try.ntmps64
  go_wp2_with (go_at_call 65; (with_reducible refine (con_ints A cap ds.length ds x.1 _ (hr.out.below (bl_alloc (Below.refl _ _) _)) hm).mono ?_); rw [hv.out]; rintro e w' ⟨rfl, rfl⟩)
  go_ret
  exact ⟨rfl, bl_alloc (Below.refl _ _) _⟩
def dropB (ds : List Int) (x : Pol) : Bool := ds.any (isB x.1)
def PIdx (pr : Pol → Bool) (ps : List Pol) (w : World) (e : Ending) (w' : World) : Prop := ∃ n : Int, e = .returned (.int .i64 n) ∧ decide (0 ≤ n) = ps.any pr ∧ Below w.heap.size w w'
theorem pany_at {pr : Pol → Bool} {ps : List Pol} {k : Nat} (hk : k < ps.length) (h : pr (ps.getD k zeroP) = true) : ps.any pr = true := by
  rw [List.any_eq_true]
  exact ⟨ps[k], List.getElem_mem hk, by rwa [List.getD_eq_getElem?_getD, List.getElem?_eq_getElem hk, Option.getD_some] at h⟩
theorem pany_none {pr : Pol → Bool} {ps : List Pol} (h : ∀ i, i < ps.length → pr (ps.getD i zeroP) = false) : ps.any pr = false := by
  rw [List.any_eq_false]
  intro x hx
  obtain ⟨i, hi, rfl⟩ := List.mem_iff_getElem.1 hx
  have := h i hi
  rw [List.getD_eq_getElem?_getD, List.getElem?_eq_getElem hi, Option.getD_some] at this
  simp [this]
set_option maxHeartbeats 1600000 in
theorem idx_drop (A : Option Addr) (cap : Nat) (ps : List Pol) (b : Nat) (B : Option Addr) (cb : Nat) (ds : List Int) (w : World) (hp : PolsAt w A ps) (hm : ps.length ≤ 1000) (hb : Bk w b #[.slice B ds.length cb] 51) (hr : ReadsInt w .i64 B ds.length ds) (hm2 : ds.length ≤ 9223372036854775807) :
    Calls Try.prog 70 #[.slice A ps.length cap, .func (.func 64) #[] #[.pointer (some ⟨b, 0, none⟩)]] w (PIdx (dropB ds) ps w) := by
  replace hp := Lib.hid hp
  replace hb := Lib.hid hb
  replace hr := Lib.hid hr
  go_enter Try.func70, Try.ntmps70
  go_wp2
  go_loopw [8] (fun v wr => ∃ k : Nat, v = .int .i64 k ∧ k ≤ ps.length ∧ (∀ i, i < k → dropB ds (ps.getD i zeroP) = false) ∧ Below w.heap.size w wr) (fun v _ => ps.length - (intOf v).toNat)
  case atStart => exact ⟨0, rfl, Nat.zero_le _, fun i hi => absurd hi (by omega), Below.refl _ _⟩
  case round =>
    obtain ⟨k, rfl, hk, hn, hBl⟩ := hrel
    replace hn := Lib.hid hn
    by_cases hkl : k < ps.length
    · have hkl2 : decide ((k : Int) < (ps.length : Int)) = true := decide_eq_true (by omega)
      have hk1 : (k : Int) < (ps.length : Int) := by omega
      have hk2 : decide ((k : Int) < 0) = false := decide_eq_false (by omega)
      have hk4 : decide (ps.length ≤ k) = false := decide_eq_false (by omega)
      obtain ⟨hok, ad, rfl, hrow⟩ := hp.out k hkl
      obtain ⟨x, hx⟩ : ∃ x, ps.getD k zeroP = x := ⟨_, rfl⟩
      rw [hx] at hok hrow
      replace hx := Lib.hid hx
      obtain ⟨c0, c1, c2, c3, c4, c5, c6, c7, c8, c9, c10, c11, c12⟩ := pol_cellsAt (hrow.far hBl)
      cases hpv : dropB ds x with
      | true =>
        replace hpv := Lib.hid hpv
        go_wp2_with (go_at_call 64; (with_reducible refine (drop1_any x b B cb ds _ (bk_below hBl hb.out) (hr.out.below hBl) hm2).mono ?_); rw [show ds.any (isB x.1) = true from hpv.out]; rintro e w1 ⟨rfl, hB1⟩)
        go_ret
        exact ⟨_, rfl, by rw [pany_at hkl (by rw [hx.out]; exact hpv.out)]; exact decide_eq_true (by omega), bl_then hBl hB1⟩
      | false =>
        replace hpv := Lib.hid hpv
        go_wp2_with (go_at_call 64; (with_reducible refine (drop1_any x b B cb ds _ (bk_below hBl hb.out) (hr.out.below hBl) hm2).mono ?_); rw [show ds.any (isB x.1) = false from hpv.out]; rintro e w1 ⟨rfl, hB1⟩)
        refine ⟨⟨k + 1, by first | rfl | (congr 1; omega), by omega, fun i hi => ?_, bl_then hBl hB1⟩, by simp [intOf]; omega⟩
        rcases Nat.lt_or_ge i k with h | h
        · exact hn.out i h
        · obtain rfl : i = k := by omega
          rw [hx.out]
          exact hpv.out
    · have hkl2 : decide ((k : Int) < (ps.length : Int)) = false := decide_eq_false (by omega)
      obtain rfl : k = ps.length := by omega
      go_wp2
      go_ret
      exact ⟨-1, rfl, by rw [pany_none hn.out]; decide, hBl⟩
theorem con_drop (A : Option Addr) (cap : Nat) (ps : List Pol) (b : Nat) (B : Option Addr) (cb : Nat) (ds : List Int) (w : World) (hp : PolsAt w A ps) (hm : ps.length ≤ 1000) (hb : Bk w b #[.slice B ds.length cb] 51) (hr : ReadsInt w .i64 B ds.length ds) (hm2 : ds.length ≤ 9223372036854775807) :
    Calls Try.prog 63 #[.slice A ps.length cap, .func (.func 64) #[] #[.pointer (some ⟨b, 0, none⟩)]] w fun e w' => e = .returned (.bool (ps.any (dropB ds))) ∧ Below w.heap.size w w' := by
  go_enter Try.func63, Try.ntmps63
  go_wp2_with (go_at_call 70; (with_reducible refine (idx_drop A cap ps b B cb ds _ hp hm hb hr hm2).mono ?_); rintro e w' ⟨n, rfl, hn, hB⟩; replace hn := Lib.hid hn)
  go_ret
  exact ⟨ret_bool hn.out, hB⟩
end Go.Proofs.Ytfcekicjlgdmaaa
namespace Go.Proofs.Ytfcekicjlgdmaaa
open Go.RowKit Go.Proofs.YtfcekicjlgdmaaaW.PrintWords
attribute [local go_sem] max2_int min2_int max_two min_two
attribute [local go_sem ↓] eql_nt neq_nt eql_ad net_addr net_bits eql_pol neq_pol

def dropAt (ds : List Int) (i : Nat) : Prop := (1 ≤ ds.getD i 0 ∧ ds.getD i 0 ≤ 255) ∧ (i = 0 ∨ ds.getD (i - 1) 0 < ds.getD i 0)
instance dropAt_dec (ds : List Int) (i : Nat) : Decidable (dropAt ds i) := by unfold dropAt; exact inferInstance
def dropsRun (ds : List Int) : Prop := ds.length ≤ 8 ∧ ∀ i, i < ds.length → dropAt ds i
instance dropsRun_dec (ds : List Int) : Decidable (dropsRun ds) := by unfold dropsRun; exact inferInstance
def dropsB (ds : List Int) (ps : List Pol) : Bool := decide (dropsRun ds) && !(ps.any (dropB ds))
theorem dropsB_no {ds : List Int} {ps : List Pol} (h : ¬ dropsRun ds) : dropsB ds ps = false := by unfold dropsB; rw [decide_eq_false h]; rfl
set_option maxHeartbeats 1600000 in
theorem edrops_any (A B : Option Addr) (ca cb : Nat) (ds : List Int) (ps : List Pol) (w : World) (hr : ReadsInt w .i64 A ds.length ds) (hp : PolsAt w B ps) (hm : ps.length ≤ 1000) (hm2 : ds.length ≤ 9223372036854775807) :
    Calls Try.prog 49 #[.slice A ds.length ca, .slice B ps.length cb] w fun e w' => e = .returned (.bool (dropsB ds ps)) ∧ Below w.heap.size w w' := by
  have hb := bk_new w #[.slice A ds.length ca] 51
  have hB := bl_alloc (Below.refl _ w) (.cells #[.slice A ds.length ca] 51)
  have hc : (w.alloc (.cells #[.slice A ds.length ca] 51)).cell? ⟨w.heap.size, 0, none⟩ = some (.slice A ds.length ca) := (bk_cell hb 0).trans rfl
  obtain ⟨V, hV⟩ : ∃ V, dropsB ds ps = V := ⟨_, rfl⟩
  rw [hV]
  replace hV := Lib.hid hV
  replace hb := Lib.hid hb
  replace hB := Lib.hid hB
  replace hr := Lib.hid hr
  replace hp := Lib.hid hp
  by_cases c1 : 8 < ds.length
  · have d1 : decide ((8 : Int) < (ds.length : Int)) = true := decide_eq_true (by omega)
    have hv : V = false := by rw [← hV.out]; exact dropsB_no (fun h => absurd h.1 (by omega))
    subst hv
    go_enter Try.func49, Try.ntmps49
    go_wp2
    go_ret
    exact ⟨rfl, hB.out⟩
  have d1 : decide ((8 : Int) < (ds.length : Int)) = false := decide_eq_false (by omega)
  go_enter Try.func49, Try.ntmps49
  go_wp2
  go_loop [12] (fun v => ∃ i : Nat, v = .int .i64 i ∧ i ≤ ds.length ∧ ∀ j, j < i → dropAt ds j) (fun v => ds.length - (intOf v).toNat)
  case atStart => exact ⟨0, rfl, Nat.zero_le _, fun j hj => absurd hj (by omega)⟩
  case round =>
    obtain ⟨i, rfl, hi, hg⟩ := hrel
    replace hg := Lib.hid hg
    by_cases hil : i < ds.length
    · have hil2 : decide ((i : Int) < (ds.length : Int)) = true := decide_eq_true (by omega)
      have hrd := hr.out.below hB.out
      obtain ⟨ad, rfl, hcell⟩ : ∃ ad, A = some ad ∧ ∀ j, j < ds.length → w.cell? (ad.add j) = some (.int .i64 (ds.getD j 0)) := by
        obtain ⟨ad, e, hc⟩ := hr.out.2.2 (by omega)
        exact ⟨ad, e, hc⟩
      have hci := cl_far hB.out (hcell i hil)
      obtain ⟨n, hn⟩ : ∃ n, ds.getD i 0 = n := ⟨_, rfl⟩
      rw [hn] at hci
      replace hn := Lib.hid hn
      by_cases hs : 1 ≤ n ∧ n ≤ 255
      · by_cases hi0 : i = 0
        · subst hi0
          have hstep : dropAt ds 0 := ⟨by rw [hn.out]; exact hs, Or.inl rfl⟩
          replace hstep := Lib.hid hstep
          have hci0 : (w.alloc (.cells #[.slice (some ad) ds.length ca] 51)).cell? ad = some (.int .i64 n) := by simpa [Addr.add] using hci
          go_wp2_with (go_at_call 50; (with_reducible refine (esub_any n _).mono ?_); rw [decide_eq_true hs]; rintro e w' ⟨rfl, rfl⟩)
          go_round
          case rel =>
            refine ⟨0 + 1, by first | rfl | (congr 1; omega), by omega, fun j hj => ?_⟩
            obtain rfl : j = 0 := by omega
            exact hstep.out
          case measure => simp [intOf]; omega
        · obtain ⟨k, rfl⟩ : ∃ k, i = k + 1 := ⟨i - 1, by omega⟩
          have hwk : IntKind.i64.wrap (k : Int) = (k : Int) := by rw [IntKind.wrap_i64]; omega
          have hk0 : (0 : Int) ≤ (k : Int) := by omega
          have hi0' : decide ((0 : Int) < ((k + 1 : Nat) : Int)) = true := decide_eq_true (by omega)
          have hk1 : (k : Int) < (ds.length : Int) := by omega
          have hk2 : decide ((k : Int) < 0) = false := decide_eq_false (by omega)
          have hk4 : decide (ds.length ≤ k) = false := decide_eq_false (by omega)
          have hck := cl_far hB.out (hcell k (by omega))
          have hci1 : (w.alloc (.cells #[.slice (some ad) ds.length ca] 51)).cell? ⟨ad.block, ad.off + (k + 1), none⟩ = some (.int .i64 n) := by rw [ad_pos ad (Nat.succ_ne_zero k)] at hci; exact hci
          obtain ⟨m, hmm⟩ : ∃ m, ds.getD k 0 = m := ⟨_, rfl⟩
          rw [hmm] at hck
          replace hmm := Lib.hid hmm
          by_cases hlt : n ≤ m
          · have hl2 : decide (n ≤ m) = true := decide_eq_true hlt
            have hv : V = false := by
              rw [← hV.out]
              refine dropsB_no (fun h => ?_)
              have := (h.2 (k + 1) hil).2
              rw [Nat.add_sub_cancel, hn.out, hmm.out] at this
              omega
            subst hv
            go_wp2_with (go_at_call 50; (with_reducible refine (esub_any n _).mono ?_); rw [decide_eq_true hs]; rintro e w' ⟨rfl, rfl⟩)
            go_ret
            exact ⟨rfl, hB.out⟩
          · have hl2 : decide (n ≤ m) = false := decide_eq_false hlt
            have hstep : dropAt ds (k + 1) := ⟨by rw [hn.out]; exact hs, Or.inr (by rw [Nat.add_sub_cancel, hn.out, hmm.out]; omega)⟩
            replace hstep := Lib.hid hstep
            go_wp2_with (go_at_call 50; (with_reducible refine (esub_any n _).mono ?_); rw [decide_eq_true hs]; rintro e w' ⟨rfl, rfl⟩)
            go_round
            case rel =>
              refine ⟨k + 1 + 1, by first | rfl | (congr 1; omega), by omega, fun j hj => ?_⟩
              rcases Nat.lt_or_ge j (k + 1) with h | h
              · exact hg.out j h
              · obtain rfl : j = k + 1 := by omega
                exact hstep.out
            case measure => simp [intOf]; omega
      · have hv : V = false := by
          rw [← hV.out]
          refine dropsB_no (fun h => hs ?_)
          have := (h.2 i hil).1
          rw [hn.out] at this
          exact this
        subst hv
        go_wp2_with (go_at_call 50; (with_reducible refine (esub_any n _).mono ?_); rw [decide_eq_false hs]; rintro e w' ⟨rfl, rfl⟩)
        go_ret
        exact ⟨rfl, hB.out⟩
    · have hil2 : decide ((i : Int) < (ds.length : Int)) = false := decide_eq_false (by omega)
      have hin : i = ds.length := by omega
      have hrun : dropsRun ds := ⟨by omega, fun j hj => hg.out j (by omega)⟩
      obtain ⟨v, hv⟩ : ∃ v, ps.any (dropB ds) = v := ⟨_, rfl⟩
      have hVv : V = !v := by rw [← hV.out]; unfold dropsB; rw [decide_eq_true hrun, hv]; rfl
      subst hVv
      replace hv := Lib.hid hv
      clear hin
      go_wp2_with (go_at_call 63; (with_reducible refine (con_drop B cb ps w.heap.size A ca ds _ (hp.out.below hB.out) hm hb.out (hr.out.below hB.out) hm2).mono ?_); rw [hv.out]; rintro e w1 ⟨rfl, hB1⟩)
      go_ret
      exact ⟨rfl, bl_then hB.out hB1⟩
end Go.Proofs.Ytfcekicjlgdmaaa
