/- Contract: rows as text by the document (floodgateref26.Text). -/
import Derived.Test.YtebeknnjjoobnaaDoorBi8
import Derived.Test.YtebeknnjjoobnaaDoorBi6
set_option linter.unusedVariables false
set_option linter.unusedSimpArgs false
set_option maxRecDepth 100000
namespace Go.Proofs.YtebeknnjjoobnaaDoor
open Go.RowKit Go.Sort Go.Lib Go.Shelf Go.Proofs Go.Proofs.YtebeknnjjoobnaaDoorW.PrintWords
attribute [local go_sem] max2_int min2_int max_two min_two

def partL (x : Rw) (k : Nat) : List UInt8 := (((numsL x).take k).map fun n => 32 :: bU n).flatten
theorem part_step (x : Rw) (k : Nat) (h : k < 5) : partL x (k + 1) = partL x k ++ (32 :: bU ((numsL x).getD k 0)) := by
  obtain rfl | rfl | rfl | rfl | rfl : k = 0 ∨ k = 1 ∨ k = 2 ∨ k = 3 ∨ k = 4 := by omega
  all_goals (unfold partL numsL; simp)
theorem line_parts (x : Rw) : lineL bI bU x = bI x.1.1 ++ partL x 5 ++ [10] := by
  unfold lineL strsL partL numsL Lib.join
  simp [List.intercalate]
theorem part_len (x : Rw) (k : Nat) (h : k ≤ 5) : (partL x k).length ≤ k * 31 := by
  have h2 := bU_len x.1.2
  have h3 := bU_len x.2.1
  have h4 := bU_len x.2.2.1
  have h5 := bU_len x.2.2.2.1
  have h6 := bU_len x.2.2.2.2
  obtain rfl | rfl | rfl | rfl | rfl | rfl : k = 0 ∨ k = 1 ∨ k = 2 ∨ k = 3 ∨ k = 4 ∨ k = 5 := by omega
  all_goals (unfold partL numsL; simp; try omega)
theorem rdigits (n : Int) (h0 : 0 ≤ n) (h1 : n ≤ 18446744073709551615) (w : World) : Calls Tryd.prog 35 #[.int .u64 n] w fun e w' => e = .returned (.string ⟨(bU n).toArray⟩) ∧ w = w' := by
  obtain ⟨u, rfl⟩ : ∃ u : Nat, n = u := ⟨n.toNat, by omega⟩
  rw [bU_any u (by omega)]
  exact digits_any u (by omega) w
theorem bI_pos (n : Int) (h0 : 0 ≤ n) (h1 : n ≤ 9223372036854775807) : bI n = bU n := by
  obtain ⟨u, rfl⟩ : ∃ u : Nat, n = u := ⟨n.toNat, by omega⟩
  rw [bU_any u (by omega)]
  unfold bI
  rw [if_pos ⟨by omega, h1⟩, Lib.itoa_nonneg]
theorem bI_neg (n : Int) (h0 : -9223372036854775808 ≤ n) (h1 : n < 0) : bI n = 45 :: bU (-n) := by
  obtain ⟨u, rfl⟩ : ∃ u : Nat, n = -(u : Int) := ⟨n.natAbs, by omega⟩
  rw [Int.neg_neg, bU_any u (by omega)]
  unfold bI
  rw [if_pos ⟨h0, by omega⟩, Lib.itoa_neg u (by omega)]
theorem bs_app (a b : List UInt8) : ((⟨a.toArray⟩ : ByteArray) ++ ⟨b.toArray⟩) = ⟨(a ++ b).toArray⟩ := by apply ByteArray.ext; simp [ByteArray.data_append]
set_option maxHeartbeats 6400000 in
theorem rtext_any (A : Option Addr) (rows : List Rw) (cap : Nat) (w : World) (hA : RwAt w A rows) (hok : AllOk rows) (hl : rows.length ≤ 1000) :
    Calls Tryd.prog 16 #[.slice A rows.length cap] w fun e w' => e = .returned (.string ⟨(headL ++ linesL bI bU rows).toArray⟩) ∧ Below w.heap.size w w' := by
  obtain ⟨N, hN⟩ : ∃ N, rows.length = N := ⟨_, rfl⟩
  rw [hN] at hl ⊢
  replace hN := Lib.hid hN
  replace hA := Lib.hid hA
  replace hok := Lib.hid hok
  have hhd : (⟨#[115, 117, 98, 32, 112, 101, 114, 105, 111, 100, 32, 112, 97, 99, 107, 101, 116, 115, 32, 98, 121, 116, 101, 115, 32, 115, 108, 111, 119, 45, 112, 97, 99, 107, 101, 116, 115, 32, 115, 108, 111, 119, 45, 98, 121, 116, 101, 115, 10]⟩ : ByteArray) = ⟨(headL ++ linesL bI bU (rows.take 0)).toArray⟩ := by rw [List.take_zero]; rfl
  replace hhd := Lib.hid hhd
  go_enter Tryd.func16, Tryd.ntmps16
  go_wp2_with (fail)
  go_loopw [3, 11] (fun v3 v wr => ∃ i : Nat, v = .int .i64 i ∧ i ≤ N ∧ v3 = .string ⟨(headL ++ linesL bI bU (rows.take i)).toArray⟩ ∧ Below w.heap.size w wr) (fun _ v _ => N - (intOf v).toNat)
  case atStart => exact ⟨0, rfl, Nat.zero_le _, congrArg Value.string hhd.out, Below.refl _ _⟩
  case round =>
    obtain ⟨i, rfl, hii, rfl, hBr⟩ := hrel
    by_cases hil : i < N
    · have hil2 : decide ((i : Int) < (N : Int)) = true := decide_eq_true (by omega)
      obtain ⟨ad, hAd, hrow⟩ := (hA.out.below hBr) i (by rw [hN.out]; exact hil)
      have hln := lines_len bI bU bI_len bU_len (rows.take i)
      have hsn := linesL_snoc bI bU (rows.take i) (rows.getD i zeroRw)
      rw [← take_snoc rows i (by rw [hN.out]; exact hil)] at hsn
      have hxk := hok.out _ (getD_mem rows i zeroRw (by rw [hN.out]; exact hil))
      obtain ⟨x, hx⟩ : ∃ x, rows.getD i zeroRw = x := ⟨_, rfl⟩
      rw [hx] at hrow hsn hxk
      subst hAd
      have htl : (headL ++ linesL bI bU (rows.take i)).length ≤ 900000 := by
        rw [List.length_append]
        rw [List.length_take] at hln
        have : headL.length = 49 := rfl
        omega
      rw [line_parts, ← List.append_assoc, ← List.append_assoc] at hsn
      obtain ⟨T1, hT1⟩ : ∃ t, headL ++ linesL bI bU (rows.take i) = t := ⟨_, rfl⟩
      rw [hT1] at htl
      have hsn2 : headL ++ linesL bI bU (rows.take (i + 1)) = T1 ++ bI x.1.1 ++ partL x 5 ++ [10] := by rw [hsn, ← hT1]; simp
      rw [hT1]
      obtain ⟨c0, c1, c2, c3, c4, c5⟩ := rw_cellsAt hrow
      have hbx := bk_new wr #[.int .i64 x.1.1, .int .u64 x.1.2, .int .u64 x.2.1, .int .u64 x.2.2.1, .int .u64 x.2.2.2.1, .int .u64 x.2.2.2.2] 32
      have hBa := bl_alloc hBr (.cells #[.int .i64 x.1.1, .int .u64 x.1.2, .int .u64 x.2.1, .int .u64 x.2.2.1, .int .u64 x.2.2.2.1, .int .u64 x.2.2.2.2] 32)
      obtain ⟨z0, z1, z2, z3, z4, z5, _⟩ := hold6 hbx
      have hnk : ∀ n ∈ numsL x, 0 ≤ n ∧ n ≤ 18446744073709551615 := fun n hn => by
        obtain ⟨⟨_, k1⟩, k2, k3, k4, k5⟩ := hxk
        unfold numsL at hn
        simp only [List.mem_cons, List.not_mem_nil, or_false] at hn
        rcases hn with rfl | rfl | rfl | rfl | rfl
        · exact k1
        · exact k2
        · exact k3
        · exact k4
        · exact k5
      obtain ⟨hx0, hx1⟩ := hxk.1.1
      have hsl := bI_len x.1.1
      have hpl := part_len x
      replace hsn2 := Lib.hid hsn2
      replace hbx := Lib.hid hbx
      replace hBa := Lib.hid hBa
      replace hnk := Lib.hid hnk
      replace hpl := Lib.hid hpl
      clear hln hsn hx hrow hxk hT1 hBr
      go_upto_if 17 with fail
      go_cut [6] from 15 to 30 (fun v6 wx => v6 = .string ⟨(bI x.1.1).toArray⟩ ∧ wx = wr.alloc (.cells #[.int .i64 x.1.1, .int .u64 x.1.2, .int .u64 x.2.1, .int .u64 x.2.2.1, .int .u64 x.2.2.2.1, .int .u64 x.2.2.2.2] 32))
      case first =>
        by_cases hneg : 0 ≤ x.1.1
        · have q1 : decide (0 ≤ x.1.1) = true := decide_eq_true hneg
          have hw1 : IntKind.u64.wrap x.1.1 = x.1.1 := by rw [IntKind.wrap_u64]; omega
          have hk := fun W => rdigits x.1.1 hneg (by omega) W
          replace hk := Lib.hid hk
          go_wp2_with (fail)
          refine (hk.out _).mono ?_; rintro e w3 ⟨rfl, rfl⟩
          go_wp2_with (fail)
          go_meet
          exact ⟨by rw [bI_pos _ hneg hx1], rfl⟩
        · have q1 : decide (0 ≤ x.1.1) = false := decide_eq_false hneg
          have hk := fun W => rdigits (-(x.1.1 + 1) + 1) (by omega) (by omega) W
          have hcat : ((⟨#[45]⟩ : ByteArray) ++ ⟨(bU (-(x.1.1 + 1) + 1)).toArray⟩) = ⟨(45 :: bU (-(x.1.1 + 1) + 1)).toArray⟩ := by apply ByteArray.ext; simp [ByteArray.data_append]
          have hlb := bU_len (-(x.1.1 + 1) + 1)
          have hbn : bI x.1.1 = 45 :: bU (-(x.1.1 + 1) + 1) := by rw [bI_neg _ hx0 (by omega), show -(x.1.1 + 1) + 1 = -x.1.1 by omega]
          obtain ⟨D, hD⟩ : ∃ d, bU (-(x.1.1 + 1) + 1) = d := ⟨_, rfl⟩
          rw [hD] at hk hcat hlb hbn
          have hJ : ¬ (9223372036854775807 < 1 + D.length) := by omega
          replace hk := Lib.hid hk
          replace hcat := Lib.hid hcat
          replace hbn := Lib.hid hbn
          go_wp2_with (fail)
          refine (hk.out _).mono ?_; rintro e w3 ⟨rfl, rfl⟩
          go_wp2_with (fail)
          go_meet
          exact ⟨by rw [hbn.out, ← hcat.out], rfl⟩
      case rest =>
        obtain ⟨rfl, rfl⟩ := hcut
        obtain ⟨S, hS⟩ : ∃ s, bI x.1.1 = s := ⟨_, rfl⟩
        rw [hS] at hsl
        have hsn3 : headL ++ linesL bI bU (rows.take (i + 1)) = T1 ++ S ++ partL x 5 ++ [10] := by rw [hsn2.out, hS]
        rw [hS]
        have hcat0 := bs_app T1 S
        have hp0 : T1 ++ S = T1 ++ S ++ partL x 0 := by unfold partL; simp
        rw [hp0] at hcat0
        have hJ0 : ¬ (9223372036854775807 < T1.length + S.length) := by omega
        replace hsn3 := Lib.hid hsn3
        replace hcat0 := Lib.hid hcat0
        clear hS hsn2 hp0
        go_wp2_with (fail)
        go_loopw [3, 45] (fun v3 v45 wz => ∃ k : Nat, v45 = .int .i64 k ∧ k ≤ 5 ∧ v3 = .string ⟨(T1 ++ S ++ partL x k).toArray⟩ ∧ Below w.heap.size w wz) (fun _ v _ => 5 - (intOf v).toNat)
        case atStart => exact ⟨0, rfl, by omega, congrArg Value.string hcat0.out, hBa.out⟩
        case round =>
          obtain ⟨k, rfl, hk, rfl, hBz⟩ := hrel
          by_cases hkl : k < 5
          · have hkl2 : decide ((k : Int) < 5) = true := decide_eq_true (by omega)
            have hst := part_step x k hkl
            have hnm := hnk.out _ (nums_mem x k hkl)
            have hdg := fun W => rdigits ((numsL x).getD k 0) hnm.1 hnm.2 W
            have hpk := hpl.out k (by omega)
            have hdl := bU_len ((numsL x).getD k 0)
            have hix : ∀ W, (Instr.index 85 (.agg #[.int .u64 x.1.2, .int .u64 x.2.1, .int .u64 x.2.2.1, .int .u64 x.2.2.2.1, .int .u64 x.2.2.2.2]) (.int .i64 k)).run Tryd.prog W = .ok (.int .u64 ((numsL x).getD k 0)) W := fun W => by
              obtain rfl | rfl | rfl | rfl | rfl : k = 0 ∨ k = 1 ∨ k = 2 ∨ k = 3 ∨ k = 4 := by omega
              all_goals kernel_rfl
            obtain ⟨n, hn⟩ : ∃ n, (numsL x).getD k 0 = n := ⟨_, rfl⟩
            rw [hn] at hst hdg hdl hix
            obtain ⟨D, hD⟩ : ∃ d, bU n = d := ⟨_, rfl⟩
            rw [hD] at hst hdg hdl
            obtain ⟨T2, hT2⟩ : ∃ t, T1 ++ S ++ partL x k = t := ⟨_, rfl⟩
            have hst2 : T1 ++ S ++ partL x (k + 1) = T2 ++ (32 :: D) := by rw [hst, ← hT2]; simp
            have htl2 : T2.length ≤ 900000 + 30 + k * 31 := by rw [← hT2, List.length_append, List.length_append]; omega
            rw [hT2]
            have hcat : ((⟨T2.toArray⟩ : ByteArray) ++ (⟨#[32]⟩ ++ ⟨D.toArray⟩)) = ⟨(T2 ++ (32 :: D)).toArray⟩ := by apply ByteArray.ext; simp [ByteArray.data_append]
            have hJ1 : ¬ (9223372036854775807 < 1 + D.length) := by omega
            have hJ2 : ¬ (9223372036854775807 < T2.length + (1 + D.length)) := by omega
            replace hdg := Lib.hid hdg
            replace hcat := Lib.hid hcat
            replace hst2 := Lib.hid hst2
            replace hBz := Lib.hid hBz
            clear hst hn hD hT2 hnm
            go_wp2_with (fail)
            refine (hdg.out _).mono ?_; rintro e w3 ⟨rfl, rfl⟩
            go_wp2
            exact ⟨⟨k + 1, by first | rfl | (congr 1; omega), by omega, by rw [hst2.out, ← hcat.out], hBz.out⟩, by simp [intOf]; omega⟩
          · have hkl2 : decide ((k : Int) < 5) = false := decide_eq_false (by omega)
            obtain rfl : k = 5 := by omega
            have hpk := hpl.out 5 (by omega)
            obtain ⟨T2, hT2⟩ : ∃ t, T1 ++ S ++ partL x 5 = t := ⟨_, rfl⟩
            have hst2 : headL ++ linesL bI bU (rows.take (i + 1)) = T2 ++ [10] := by rw [hsn3.out, ← hT2]
            have htl2 : T2.length ≤ 900000 + 30 + 5 * 31 := by rw [← hT2, List.length_append, List.length_append]; omega
            rw [hT2]
            have hcat : ((⟨T2.toArray⟩ : ByteArray) ++ ⟨#[10]⟩) = ⟨(T2 ++ [10]).toArray⟩ := by apply ByteArray.ext; simp [ByteArray.data_append]
            have hJ2 : ¬ (9223372036854775807 < T2.length + 1) := by omega
            replace hcat := Lib.hid hcat
            replace hst2 := Lib.hid hst2
            replace hBz := Lib.hid hBz
            clear hT2 hsn3
            go_wp2
            exact ⟨⟨i + 1, by first | rfl | (congr 1; omega), by omega, by rw [hst2.out, ← hcat.out], hBz.out⟩, by simp [intOf]; omega⟩
    · have hil2 : decide ((i : Int) < (N : Int)) = false := decide_eq_false (by omega)
      obtain rfl : i = N := by omega
      rw [show rows.take i = rows by rw [← hN.out]; exact List.take_length]
      replace hBr := Lib.hid hBr
      go_wp2
      go_ret
      exact ⟨rfl, hBr.out⟩
end Go.Proofs.YtebeknnjjoobnaaDoor
