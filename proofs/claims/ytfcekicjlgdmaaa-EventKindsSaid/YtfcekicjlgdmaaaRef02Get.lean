/- Contract of the reference's Get. -/
import Derived.Test.YtfcekicjlgdmaaaRef02
import Derived.Deep.RegionHeld3
import Derived.IntWalk
set_option linter.unusedVariables false
set_option linter.unusedSimpArgs false
namespace Go.Proofs.Ytfcekicjlgdmaaa
open Go.RowKit Go.Proofs.YtfcekicjlgdmaaaW.PrintWords

theorem u8_ofNat_inj {a b : Int} (ha : 0 ≤ a ∧ a ≤ 255) (hb : 0 ≤ b ∧ b ≤ 255) (h : UInt8.ofNat a.toNat = UInt8.ofNat b.toNat) : a = b := by
  have h2 := congrArg UInt8.toNat h
  simp only [UInt8.toNat_ofNat'] at h2
  omega
theorem map_u8_inj : ∀ (xs ys : List Int), (∀ x ∈ xs, 0 ≤ x ∧ x ≤ 255) → (∀ x ∈ ys, 0 ≤ x ∧ x ≤ 255) → (xs.map fun n => UInt8.ofNat n.toNat) = (ys.map fun n => UInt8.ofNat n.toNat) → xs = ys
  | [], [], _, _, _ => rfl
  | [], _ :: _, _, _, h => by simp at h
  | _ :: _, [], _, _, h => by simp at h
  | x :: xs, y :: ys, hx, hy, h => by
    simp only [List.map_cons, List.cons.injEq] at h
    rw [u8_ofNat_inj (hx x (by simp)) (hy y (by simp)) h.1, map_u8_inj xs ys (fun z hz => hx z (by simp [hz])) (fun z hz => hy z (by simp [hz])) h.2]
theorem strOfNums_toList (xs : List Int) : (strOfNums xs).toList = xs.map fun n => UInt8.ofNat n.toNat := by
  rw [ByteArray.toList_eq]; exact strOfNums_data xs
theorem strs_eq {xs ys : List Int} (h : xs = ys) : ((strOfNums xs).toList == (strOfNums ys).toList) = true ∧ ((strOfNums xs).toList != (strOfNums ys).toList) = false := by subst h; simp
theorem strs_ne {xs ys : List Int} (hx : ∀ x ∈ xs, 0 ≤ x ∧ x ≤ 255) (hy : ∀ x ∈ ys, 0 ≤ x ∧ x ≤ 255) (h : xs ≠ ys) : ((strOfNums xs).toList == (strOfNums ys).toList) = false ∧ ((strOfNums xs).toList != (strOfNums ys).toList) = true := by
  have : (strOfNums xs).toList ≠ (strOfNums ys).toList := by
    rw [strOfNums_toList, strOfNums_toList]
    exact fun he => h (map_u8_inj xs ys hx hy he)
  simp [this]

theorem val_drop (t : List Int) (j : Nat) (hj : j < t.length) : val (t.drop j) = (t.getD j 0).toNat % 128 + 128 * val (t.drop (j + 1)) := by
  rw [List.drop_eq_getElem_cons hj]
  simp [val, List.getD_eq_getElem?_getD, List.getElem?_eq_getElem hj]

/-- The outcome at the first byte below 128, as the reference comes to it. -/
theorem getV_ref {xs : List Int} {k : Nat} (hk : k < xs.length) (hk9 : k ≤ 9) (hge : ∀ j, j < k → 128 ≤ xs.getD j 0) (hc : xs.getD k 0 < 128) :
    (enc (val (xs.take (k + 1)) % 18446744073709551616) = xs.take (k + 1) → getV xs = (((val (xs.take (k + 1)) % 18446744073709551616 : Nat) : Int), (k : Int) + 1, 0)) ∧
    (enc (val (xs.take (k + 1)) % 18446744073709551616) ≠ xs.take (k + 1) → getV xs = (0, 0, 21)) := by
  constructor
  · intro h
    exact getV_some hk hge hc _ (by omega) h
  · intro h
    refine getV_not hk hge hc fun n hn he => h ?_
    rw [← (enc_take_only hk he).1, Nat.mod_eq_of_lt hn]
    exact he

def valAt (xs : List Int) (k j : Nat) : Int := ((val ((xs.take (k + 1)).drop j) % 18446744073709551616 : Nat) : Int)
theorem valAt_top (xs : List Int) (k : Nat) : valAt xs k (k + 1) = 0 := by
  unfold valAt
  rw [List.drop_eq_nil_of_le (by rw [List.length_take]; omega)]; rfl
theorem valAt_bd (xs : List Int) (k j : Nat) : 0 ≤ valAt xs k j ∧ valAt xs k j ≤ 18446744073709551615 := by unfold valAt; omega
theorem valAt_step (xs : List Int) (k j : Nat) (hk : k < xs.length) (hj : j < k + 1) (h0 : 0 ≤ xs.getD j 0) :
    IntKind.u64.wrap (IntKind.u64.wrap (valAt xs k (j + 1) * 128) + xs.getD j 0 % 128) = valAt xs k j := by
  have hl : (xs.take (k + 1)).length = k + 1 := by rw [List.length_take]; omega
  have h := val_drop (xs.take (k + 1)) j (by omega)
  have he : (xs.take (k + 1)).getD j 0 = xs.getD j 0 := by
    simp only [List.getD_eq_getElem?_getD, List.getElem?_take]
    rw [if_pos (by omega)]
  rw [he] at h
  unfold valAt
  rw [h]
  simp only [IntKind.wrap_u64]
  omega

set_option maxHeartbeats 1600000 in
set_option maxRecDepth 100000 in
theorem rget_any (A : Option Addr) (cap : Nat) (xs : List Int) (w : World) (hr : ReadsInt w .u8 A xs.length xs) (hcap : xs.length ≤ cap) (hcm : cap ≤ 9223372036854775807) (hb : ∀ x ∈ xs, 0 ≤ x ∧ x ≤ 255) :
    Calls Try.prog 66 #[.slice A xs.length cap] w fun e w' => e = .returned (.tuple #[.int .u64 (getV xs).1, .int .i64 (getV xs).2.1, .int .i64 (getV xs).2.2]) ∧ Below w.heap.size w w' := by
  have hR := Lib.hid hr
  have hB := Lib.hid hb
  clear hr hb
  go_enter Try.func66, Try.ntmps66
  go_wp2
  go_loop [5] (fun i => ∃ k : Nat, k ≤ min xs.length 10 ∧ i = .int .i64 k ∧ ∀ j, j < k → 128 ≤ xs.getD j 0) (fun i => 10 - (intOf i).toNat)
  case atStart => exact ⟨0, Nat.zero_le _, rfl, fun j hj => absurd hj (by omega)⟩
  case round =>
    obtain ⟨k, hk, rfl, hge⟩ := hrel
    replace hge := Lib.hid hge
    by_cases hlt : k < min xs.length 10
    · have hkl : k < xs.length := by omega
      have hk10 : k < 10 := by omega
      have c1 : decide ((k : Int) < (xs.length : Int)) = true := by simp; omega
      have c2 : decide ((k : Int) < 10) = true := by simp; omega
      clear hk hlt
      obtain ⟨ad, rfl, hcell⟩ := hR.out.at_ (k : Int) (by omega) (by omega)
      have hc0 : 0 ≤ xs.getD k 0 ∧ xs.getD k 0 ≤ 255 := by
        rw [List.getD_eq_getElem?_getD, List.getElem?_eq_getElem hkl]; exact hB.out _ (List.getElem_mem hkl)
      have hrd : rd xs (k : Int) = xs.getD k 0 := by simp [rd]
      rw [hrd, Int.toNat_natCast] at hcell
      clear hrd
      obtain ⟨c, hc⟩ : ∃ c, xs.getD k 0 = c := ⟨_, rfl⟩
      rw [hc] at hcell hc0
      replace hc := Lib.hid hc
      by_cases hmore : 128 ≤ c
      · go_wp2
        go_round
        case rel =>
          refine ⟨k + 1, by omega, by go_num, fun j hj => ?_⟩
          rcases Nat.lt_or_ge j k with h | h
          · exact hge.out j h
          · obtain rfl : j = k := by omega
            rw [hc.out]; exact hmore
        case measure => simp [intOf]; omega
      · have hck : xs.getD k 0 < 128 := by rw [hc.out]; omega
        obtain ⟨hyes, hno⟩ := getV_ref hkl (by omega) hge.out hck
        replace hyes := Lib.hid hyes
        replace hno := Lib.hid hno
        replace hck := Lib.hid hck
        clear hge
        go_wp2
        go_loop [6, 7] (fun v i => ∃ j : Nat, j ≤ k + 1 ∧ i = .int .i64 ((j : Int) - 1) ∧ v = .int .u64 (valAt xs k j)) (fun _ i => (intOf i + 1).toNat)
        case atStart => exact ⟨k + 1, Nat.le_refl _, by go_num, by rw [valAt_top]⟩
        case round =>
          obtain ⟨j, hj, rfl, rfl⟩ := hrel
          by_cases hjz : 1 ≤ j
          · obtain ⟨i, rfl⟩ : ∃ i, j = i + 1 := ⟨j - 1, by omega⟩
            have ei : (((i + 1 : Nat) : Int) - 1) = (i : Int) := by omega
            rw [ei]
            clear ei hjz
            obtain ⟨ad2, hA2, hcell2⟩ := hR.out.at_ (i : Int) (by omega) (by omega)
            obtain rfl : ad = ad2 := by injection hA2
            have hd0 : 0 ≤ xs.getD i 0 ∧ xs.getD i 0 ≤ 255 := by
              rw [List.getD_eq_getElem?_getD, List.getElem?_eq_getElem (by omega)]; exact hB.out _ (List.getElem_mem _)
            have hrd : rd xs (i : Int) = xs.getD i 0 := by simp [rd]
            rw [hrd, Int.toNat_natCast] at hcell2
            clear hrd hA2
            have hst := Lib.hid (valAt_step xs k i hkl (by omega) hd0.1)
            have hvb := valAt_bd xs k (i + 1)
            obtain ⟨d, hd⟩ : ∃ d, xs.getD i 0 = d := ⟨_, rfl⟩
            rw [hd] at hcell2 hd0 hst
            replace hd := Lib.hid hd
            obtain ⟨y, hy⟩ : ∃ y, valAt xs k (i + 1) = y := ⟨_, rfl⟩
            rw [hy] at hvb hst ⊢
            replace hy := Lib.hid hy
            go_wp2
            go_round
            case rel => exact ⟨i, by omega, by go_num, by rw [← hst.out]⟩
            case measure => simp [intOf]
          · obtain rfl : j = 0 := by omega
            have hn0 : val (xs.take (k + 1)) % 18446744073709551616 < 18446744073709551616 := by omega
            obtain ⟨nn, hnn⟩ : ∃ nn, val (xs.take (k + 1)) % 18446744073709551616 = nn := ⟨_, rfl⟩
            have hv0 : valAt xs k 0 = (nn : Int) := by unfold valAt; rw [List.drop_zero, hnn]
            rw [hnn] at hyes hno hn0
            rw [hv0]
            clear hv0 hnn
            have hcut := hR.out.take_ (k + 1) (by omega)
            replace hcut := Lib.hid hcut
            have hcv : (convert 48 9 (.slice (some ad) (k + 1) cap)).run Try.prog w = .ok (.string (strOfNums (xs.take (k + 1)))) w := string_of_reads Try.underlying48 Try.underlying5 Try.underlying9 hcut.out
            go_wp2_with (fail)
            have f1 : IntKind.i64.wrap ((k : Int) + 1) = (k : Int) + 1 := IntWalk.i64_in _ (by omega)
            have f2 : (0 : Int) ≤ (k : Int) + 1 := by omega
            have f3 : ((k : Int) + 1).toNat = k + 1 := by omega
            have f4 : (k : Int) + 1 ≤ (cap : Int) := by omega
            have hcvd : (convert 48 9 (.slice (some ad) (k + 1) cap)).run Try.prog w.drew = .ok (.string (strOfNums (xs.take (k + 1)))) w.drew := string_of_reads Try.underlying48 Try.underlying5 Try.underlying9 (show ReadsInt w.drew .u8 (some ad) (k + 1) (xs.take (k + 1)) from hcut.out)
            go_region_with (first | (go_at_call 62; refine (rput_any nn _ hn0).mono ?_; rintro e w1 ⟨v1, rfl, ho1, hB1⟩; obtain ⟨A1, c1, rfl, hr1⟩ := own_reads ho1; have hcv1 := string_of_reads (P := Try.prog) (c := c1) Try.underlying48 Try.underlying5 Try.underlying9 hr1; have hcv2 := string_of_reads (P := Try.prog) (c := cap) Try.underlying48 Try.underlying5 Try.underlying9 ((show ReadsInt w.drew .u8 (some ad) (k + 1) (xs.take (k + 1)) from hcut.out).below hB1)))
            all_goals
              clear f1 f2 f3 f4 hcvd hcv hcv1 hcv2 hr1 ho1 hcell
              obtain ⟨bb, hbb⟩ : ∃ bb, ((strOfNums (enc nn)).toList == (strOfNums (xs.take (k + 1))).toList) = bb := ⟨_, rfl⟩
              rw [hbb]
              have hf : bb = true → getV xs = ((nn : Int), (k : Int) + 1, 0) := fun hb0 => hyes.out (by
                rcases Classical.em (enc nn = xs.take (k + 1)) with he | he
                · exact he
                · have := (strs_ne (enc_bytes nn) (fun x hx => hB.out x (List.mem_of_mem_take hx)) he).1
                  rw [hbb, hb0] at this; cases this)
              have ht : bb = false → getV xs = (0, 0, 21) := fun hb0 => hno.out (fun he => by
                have := (strs_eq he).1
                rw [hbb, hb0] at this; cases this)
              replace hf := Lib.hid hf
              replace ht := Lib.hid ht
              clear hbb
              generalize strOfNums (enc nn) = s1
              generalize strOfNums (xs.take (k + 1)) = s2
              cases bb
              · go_wp2
                go_ret3
                exact ⟨ret_get (ht.out trivial), bl_then (bl_drew (Below.refl _ _)) hB1⟩
              · go_wp2
                go_ret3
                exact ⟨ret_get (hf.out trivial), bl_then (bl_drew (Below.refl _ _)) hB1⟩
    · have hgv := Lib.hid (getV_none k (by omega) hge.out)
      by_cases c1 : (k : Int) < (xs.length : Int)
      · obtain rfl : k = 10 := by omega
        have c1' : decide ((10 : Int) < (xs.length : Int)) = true := by simp; omega
        clear c1 hlt hk
        go_wp2
        go_ret3
        exact ⟨ret_get hgv.out, Below.refl _ _⟩
      · obtain rfl : k = xs.length := by omega
        have hx : xs.length ≤ 10 := by omega
        clear c1 hlt hk
        go_wp2
        go_ret3
        exact ⟨ret_get hgv.out, Below.refl _ _⟩
end Go.Proofs.Ytfcekicjlgdmaaa
