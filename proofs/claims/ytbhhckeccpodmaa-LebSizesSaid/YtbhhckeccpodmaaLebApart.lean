/- The walk of LebApart. -/
import Derived.Test.YtbhhckeccpodmaaLebLaws
import Derived.OpenShut
set_option linter.unusedVariables false
set_option linter.unusedSimpArgs false
namespace Go.Proofs.Ytbhhckeccpodmaa
open Go.RowKit Go.Proofs.YtbhhckeccpodmaaW.PrintWords
attribute [local go_sem] max2_int min2_int max_two min_two

theorem ofNat_inj {a b : Int} (ha : 0 ≤ a ∧ a ≤ 255) (hb : 0 ≤ b ∧ b ≤ 255) (h : UInt8.ofNat a.toNat = UInt8.ofNat b.toNat) : a = b := by
  have := congrArg UInt8.toNat h
  rw [UInt8.toNat_ofNat', UInt8.toNat_ofNat'] at this
  omega
theorem map_inj8 : ∀ {xs ys : List Int}, (∀ x ∈ xs, 0 ≤ x ∧ x ≤ 255) → (∀ x ∈ ys, 0 ≤ x ∧ x ≤ 255) → (xs.map fun n => UInt8.ofNat n.toNat) = (ys.map fun n => UInt8.ofNat n.toNat) → xs = ys
  | [], [], _, _, _ => rfl
  | [], _ :: _, _, _, h => by simp at h
  | _ :: _, [], _, _, h => by simp at h
  | x :: xs, y :: ys, hx, hy, h => by
    simp only [List.map_cons, List.cons.injEq] at h
    rw [ofNat_inj (hx x (by simp)) (hy y (by simp)) h.1, map_inj8 (fun z hz => hx z (by simp [hz])) (fun z hz => hy z (by simp [hz])) h.2]
theorem ofNums_inj {xs ys : List Int} (hx : ∀ x ∈ xs, 0 ≤ x ∧ x ≤ 255) (hy : ∀ x ∈ ys, 0 ≤ x ∧ x ≤ 255) (h : (strOfNums xs).toList = (strOfNums ys).toList) : xs = ys := by
  unfold strOfNums at h
  rw [ByteArray.toList_mk, ByteArray.toList_mk] at h
  exact map_inj8 hx hy h
theorem enc_apart1 {a b : Nat} (hab : a ≠ b) : enc a ≠ (enc b).take (enc a).length := by
  intro h
  have e : enc a ++ (enc b).drop (enc a).length = enc b ++ [] := by
    rw [List.append_nil]
    calc enc a ++ (enc b).drop (enc a).length = (enc b).take (enc a).length ++ (enc b).drop (enc a).length := by rw [← h]
      _ = enc b := List.take_append_drop _ _
  exact hab (enc_prefix a b _ _ e).1
theorem enc_apart {a b n : Nat} (hab : a ≠ b) (hn : n = min (enc a).length (enc b).length) : (enc a).take n ≠ (enc b).take n := by
  intro h
  rcases Nat.le_total (enc a).length (enc b).length with c | c
  · have e : n = (enc a).length := by omega
    rw [e, List.take_length] at h
    exact enc_apart1 hab h
  · have e : n = (enc b).length := by omega
    rw [e, List.take_length] at h
    exact enc_apart1 (Ne.symm hab) h.symm

set_option maxHeartbeats 1600000 in
theorem lebApart_walk (a : Int) (ha : 0 ≤ a ∧ a ≤ 18446744073709551615) (b : Int) (hb : 0 ≤ b ∧ b ≤ 18446744073709551615) (w : World) :
    Calls Try.prog 6 #[.int .u64 a, .int .u64 b] w fun e w' => e = .returned (.bool true) ∧ Below w.heap.size w w' := by
  obtain ⟨m, rfl⟩ := Int.eq_ofNat_of_zero_le ha.1
  obtain ⟨n, rfl⟩ := Int.eq_ofNat_of_zero_le hb.1
  have hp1 := enc_pos m
  have hp2 := enc_pos n
  have hq1 := enc_len_10 (n := m) (by omega)
  have hq2 := enc_len_10 (n := n) (by omega)
  have hbm := ha.2
  have hbn := hb.2
  by_cases hab : m = n
  · subst hab
    have hd : ((m : Int) == (m : Int)) = true := by simp
    go_enter Try.func6, Try.ntmps6
    go_wp2_with (go_at_call 16; refine (lebAlive_any _).mono ?_; rintro e w0 ⟨rfl, hB0⟩)
    refine (put_any m _ (by omega)).mono ?_; rintro e w1 ⟨v1, rfl, ho1, hB1⟩; obtain ⟨A1, c1, rfl, hr1⟩ := own_reads ho1
    go_wp2_with (fail)
    refine (put_any m _ (by omega)).mono ?_; rintro e w2 ⟨v2, rfl, ho2, hB2⟩; obtain ⟨A2, c2, rfl, hr2⟩ := own_reads ho2
    have hcv1 := string_of_reads (P := Try.prog) (c := c1) Try.underlying26 Try.underlying5 Try.underlying9 (hr1.below hB2)
    have hcv2 := string_of_reads (P := Try.prog) (c := c2) Try.underlying26 Try.underlying5 Try.underlying9 hr2
    go_wp2
    go_ret
    exact ⟨by simp, bl_then (bl_then hB0 hB1) hB2⟩
  · have hd : ((m : Int) == (n : Int)) = false := by simp; omega
    obtain ⟨k, hk⟩ : ∃ k, k = min (enc m).length (enc n).length := ⟨_, rfl⟩
    have hne := enc_apart hab hk
    have hk1 : k ≤ (enc m).length := by omega
    have hk2 : k ≤ (enc n).length := by omega
    have hs : ((strOfNums ((enc m).take k)).toList == (strOfNums ((enc n).take k)).toList) = false := by
      rw [Bool.eq_false_iff]
      intro hc
      exact hne (ofNums_inj (fun x hx => enc_bytes m x (List.mem_of_mem_take hx)) (fun x hx => enc_bytes n x (List.mem_of_mem_take hx)) (eq_of_beq hc))
    obtain ⟨s1, h1⟩ : ∃ s, strOfNums ((enc m).take k) = s := ⟨_, rfl⟩
    obtain ⟨s2, h2⟩ : ∃ s, strOfNums ((enc n).take k) = s := ⟨_, rfl⟩
    rw [h1, h2] at hs
    replace h1 := Lib.hid h1
    replace h2 := Lib.hid h2
    replace hs := Lib.hid hs
    rcases Nat.lt_or_ge (enc n).length (enc m).length with cl | cl
    · skip
      have hkk : k = (enc n).length := by omega
      have hnm : n < m := Nat.lt_of_not_le fun h => by have := enc_len_mono h; omega
      have f1 : decide ((n : Int) < (m : Int)) = true := decide_eq_true (by omega)
      have f2 : decide (((enc n).length : Int) < ((enc m).length : Int)) = true := decide_eq_true (by omega)
      go_enter Try.func6, Try.ntmps6
      go_wp2_with (go_at_call 16; refine (lebAlive_any _).mono ?_; rintro e w0 ⟨rfl, hB0⟩)
      refine (put_any m _ (by omega)).mono ?_; rintro e w1 ⟨v1, rfl, ho1, hB1⟩; obtain ⟨A1, c1, rfl, hr1⟩ := own_reads ho1
      go_wp2_with (fail)
      refine (put_any n _ (by omega)).mono ?_; rintro e w2 ⟨v2, rfl, ho2, hB2⟩; obtain ⟨A2, c2, rfl, hr2⟩ := own_reads ho2
      have hle1 := own_le ho1
      have hle2 := own_le ho2
      have hcv1 : ∀ q, (convert 26 9 (.slice A1 (enc n).length c1)).run Try.prog (w2.drewN q) = .ok (.string s1) (w2.drewN q) := fun q => by
        rw [← h1.out, hkk]; exact string_of_reads (P := Try.prog) (c := c1) Try.underlying26 Try.underlying5 Try.underlying9 (((hr1.below hB2).take_ (enc n).length (hkk ▸ hk1)).drewN q)
      have hcv2 : ∀ q, (convert 26 9 (.slice A2 (enc n).length c2)).run Try.prog (w2.drewN q) = .ok (.string s2) (w2.drewN q) := fun q => by
        rw [← h2.out, hkk]; exact string_of_reads (P := Try.prog) (c := c2) Try.underlying26 Try.underlying5 Try.underlying9 ((hr2.take_ (enc n).length (hkk ▸ hk2)).drewN q)
      clear hr1 hr2 ho1 ho2 hne
      clear hk hk1 hk2 h1 h2 hd
      go_wp2
      replace hs := hs.out
      go_quiet (fail)
      go_wp2
      go_ret
      exact ⟨rfl, bl_drewN (bl_then (bl_then hB0 hB1) hB2) _⟩
    · rcases Nat.lt_or_ge n m with hnm | hnm
      · skip
        have hmono := enc_len_mono (Nat.le_of_lt hnm)
        have hkk : k = (enc m).length := by omega
        have f1 : decide ((n : Int) < (m : Int)) = true := decide_eq_true (by omega)
        have f2 : decide (((enc n).length : Int) < ((enc m).length : Int)) = false := decide_eq_false (by omega); have g2 : decide ((enc n).length < (enc m).length) = false := decide_eq_false (by omega)
        have f3 : (((enc m).length : Int) == ((enc n).length : Int)) = true := by rw [show (enc m).length = (enc n).length by omega]; simp
        have g3 : ((enc m).length == (enc n).length) = true := by rw [show (enc m).length = (enc n).length by omega]; simp
        clear hmono
        go_enter Try.func6, Try.ntmps6
        go_wp2_with (go_at_call 16; refine (lebAlive_any _).mono ?_; rintro e w0 ⟨rfl, hB0⟩)
        refine (put_any m _ (by omega)).mono ?_; rintro e w1 ⟨v1, rfl, ho1, hB1⟩; obtain ⟨A1, c1, rfl, hr1⟩ := own_reads ho1
        go_wp2_with (fail)
        refine (put_any n _ (by omega)).mono ?_; rintro e w2 ⟨v2, rfl, ho2, hB2⟩; obtain ⟨A2, c2, rfl, hr2⟩ := own_reads ho2
        have hle1 := own_le ho1
        have hle2 := own_le ho2; have hle3 : (enc m).length ≤ c2 := by omega
        have hcv1 : ∀ q, (convert 26 9 (.slice A1 (enc m).length c1)).run Try.prog (w2.drewN q) = .ok (.string s1) (w2.drewN q) := fun q => by
          rw [← h1.out, hkk]; exact string_of_reads (P := Try.prog) (c := c1) Try.underlying26 Try.underlying5 Try.underlying9 (((hr1.below hB2).take_ (enc m).length (hkk ▸ hk1)).drewN q)
        have hcv2 : ∀ q, (convert 26 9 (.slice A2 (enc m).length c2)).run Try.prog (w2.drewN q) = .ok (.string s2) (w2.drewN q) := fun q => by
          rw [← h2.out, hkk]; exact string_of_reads (P := Try.prog) (c := c2) Try.underlying26 Try.underlying5 Try.underlying9 ((hr2.take_ (enc m).length (hkk ▸ hk2)).drewN q)
        clear hr1 hr2 ho1 ho2 hne
        clear hk hk1 hk2 h1 h2 hd
        go_wp2
        replace hs := hs.out
        go_quiet (fail)
        go_wp2
        go_ret
        exact ⟨rfl, bl_drewN (bl_then (bl_then hB0 hB1) hB2) _⟩
      · by_cases ce : (enc m).length = (enc n).length
        · skip
          have hkk : k = (enc m).length := by omega
          have f1 : decide ((n : Int) < (m : Int)) = false := decide_eq_false (by omega); have g1 : decide (n < m) = false := decide_eq_false (by omega)
          have f2 : decide (((enc n).length : Int) < ((enc m).length : Int)) = false := decide_eq_false (by omega); have g2 : decide ((enc n).length < (enc m).length) = false := decide_eq_false (by omega)
          have f3 : (((enc m).length : Int) == ((enc n).length : Int)) = true := by rw [ce]; simp
          have g3 : ((enc m).length == (enc n).length) = true := by rw [ce]; simp
          clear ce
          go_enter Try.func6, Try.ntmps6
          go_wp2_with (go_at_call 16; refine (lebAlive_any _).mono ?_; rintro e w0 ⟨rfl, hB0⟩)
          refine (put_any m _ (by omega)).mono ?_; rintro e w1 ⟨v1, rfl, ho1, hB1⟩; obtain ⟨A1, c1, rfl, hr1⟩ := own_reads ho1
          go_wp2_with (fail)
          refine (put_any n _ (by omega)).mono ?_; rintro e w2 ⟨v2, rfl, ho2, hB2⟩; obtain ⟨A2, c2, rfl, hr2⟩ := own_reads ho2
          have hle1 := own_le ho1
          have hle2 := own_le ho2; have hle3 : (enc m).length ≤ c2 := by omega
          have hcv1 : ∀ q, (convert 26 9 (.slice A1 (enc m).length c1)).run Try.prog (w2.drewN q) = .ok (.string s1) (w2.drewN q) := fun q => by
            rw [← h1.out, hkk]; exact string_of_reads (P := Try.prog) (c := c1) Try.underlying26 Try.underlying5 Try.underlying9 (((hr1.below hB2).take_ (enc m).length (hkk ▸ hk1)).drewN q)
          have hcv2 : ∀ q, (convert 26 9 (.slice A2 (enc m).length c2)).run Try.prog (w2.drewN q) = .ok (.string s2) (w2.drewN q) := fun q => by
            rw [← h2.out, hkk]; exact string_of_reads (P := Try.prog) (c := c2) Try.underlying26 Try.underlying5 Try.underlying9 ((hr2.take_ (enc m).length (hkk ▸ hk2)).drewN q)
          clear hr1 hr2 ho1 ho2 hne
          clear hk hk1 hk2 h1 h2 hd
          go_wp2
          replace hs := hs.out
          go_quiet (fail)
          go_wp2
          go_ret
          exact ⟨rfl, bl_drewN (bl_then (bl_then hB0 hB1) hB2) _⟩
        · skip
          have hkk : k = (enc m).length := by omega
          have f1 : decide ((n : Int) < (m : Int)) = false := decide_eq_false (by omega); have g1 : decide (n < m) = false := decide_eq_false (by omega)
          have f2 : decide (((enc n).length : Int) < ((enc m).length : Int)) = false := decide_eq_false (by omega); have g2 : decide ((enc n).length < (enc m).length) = false := decide_eq_false (by omega)
          have f3 : (((enc m).length : Int) == ((enc n).length : Int)) = false := by simp; omega
          have g3 : ((enc m).length == (enc n).length) = false := by simp; omega
          go_enter Try.func6, Try.ntmps6
          go_wp2_with (go_at_call 16; refine (lebAlive_any _).mono ?_; rintro e w0 ⟨rfl, hB0⟩)
          refine (put_any m _ (by omega)).mono ?_; rintro e w1 ⟨v1, rfl, ho1, hB1⟩; obtain ⟨A1, c1, rfl, hr1⟩ := own_reads ho1
          go_wp2_with (fail)
          refine (put_any n _ (by omega)).mono ?_; rintro e w2 ⟨v2, rfl, ho2, hB2⟩; obtain ⟨A2, c2, rfl, hr2⟩ := own_reads ho2
          have hle1 := own_le ho1
          have hle2 := own_le ho2; have hle3 : (enc m).length ≤ c2 := by omega
          have hcv1 : ∀ q, (convert 26 9 (.slice A1 (enc m).length c1)).run Try.prog (w2.drewN q) = .ok (.string s1) (w2.drewN q) := fun q => by
            rw [← h1.out, hkk]; exact string_of_reads (P := Try.prog) (c := c1) Try.underlying26 Try.underlying5 Try.underlying9 (((hr1.below hB2).take_ (enc m).length (hkk ▸ hk1)).drewN q)
          have hcv2 : ∀ q, (convert 26 9 (.slice A2 (enc m).length c2)).run Try.prog (w2.drewN q) = .ok (.string s2) (w2.drewN q) := fun q => by
            rw [← h2.out, hkk]; exact string_of_reads (P := Try.prog) (c := c2) Try.underlying26 Try.underlying5 Try.underlying9 ((hr2.take_ (enc m).length (hkk ▸ hk2)).drewN q)
          clear hr1 hr2 ho1 ho2 hne
          clear hk hk1 hk2 h1 h2 hd
          go_wp2
          replace hs := hs.out
          go_quiet (fail)
          go_wp2
          go_ret
          exact ⟨rfl, bl_drewN (bl_then (bl_then hB0 hB1) hB2) _⟩
end Go.Proofs.Ytbhhckeccpodmaa
