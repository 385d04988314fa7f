/- Numbers as bytes, plainly: the bytes of a number, and the number that bytes begin with. No Go here. -/
import Derived.Test.YtfcekicjlgdmaaaBase
import Derived.Lib.BitFns
import Derived.Lib.ItoaNum
set_option linter.unusedVariables false
set_option linter.unusedSimpArgs false
namespace Go.Proofs.Ytfcekicjlgdmaaa

/-- The bytes of a number: groups of seven bits, the lowest first; all but the last one have their highest bit set. -/
def enc (n : Nat) : List Int := if h : n < 128 then [(n : Int)] else ((n % 128 + 128 : Nat) : Int) :: enc (n / 128)
termination_by n
decreasing_by omega
theorem enc_small {n : Nat} (h : n < 128) : enc n = [(n : Int)] := by rw [enc, dif_pos h]
theorem enc_big {n : Nat} (h : ¬ n < 128) : enc n = ((n % 128 + 128 : Nat) : Int) :: enc (n / 128) := by rw [enc, dif_neg h]
theorem enc_ne (n : Nat) : enc n ≠ [] := by
  by_cases h : n < 128
  · rw [enc_small h]; simp
  · rw [enc_big h]; simp
theorem enc_pos (n : Nat) : 1 ≤ (enc n).length := by
  have := enc_ne n
  cases h : enc n with
  | nil => exact absurd h this
  | cons => simp
theorem enc_bytes (n : Nat) : ∀ x ∈ enc n, 0 ≤ x ∧ x ≤ 255 := by
  induction n using Nat.strongRecOn with
  | ind n ih =>
    by_cases h : n < 128
    · rw [enc_small h]; intro x hx; simp at hx; omega
    · rw [enc_big h]
      intro x hx
      rcases List.mem_cons.1 hx with rfl | hx
      · omega
      · exact ih _ (by omega) x hx
theorem enc_len_le (k : Nat) : ∀ n, n < 2 ^ (7 * (k + 1)) → (enc n).length ≤ k + 1 := by
  induction k with
  | zero => intro n h; rw [enc_small (by simpa using h)]; simp
  | succ k ih =>
    intro n h
    by_cases hs : n < 128
    · rw [enc_small hs]; simp
    · rw [enc_big hs]
      have := ih (n / 128) (by rw [Nat.div_lt_iff_lt_mul (by decide)]; rw [show (128 : Nat) = 2 ^ 7 by rfl, ← Nat.pow_add]; exact h)
      simp; omega
theorem enc_len_10 {n : Nat} (h : n < 18446744073709551616) : (enc n).length ≤ 10 := enc_len_le 9 n (Nat.lt_of_lt_of_le h (by decide))
theorem enc_len_lt (k : Nat) : ∀ n, (enc n).length ≤ k → n < 2 ^ (7 * k) := by
  induction k with
  | zero => intro n h; have := enc_pos n; omega
  | succ k ih =>
    intro n h
    by_cases hs : n < 128
    · exact Nat.lt_of_lt_of_le hs (by rw [show (128 : Nat) = 2 ^ 7 by rfl]; exact Nat.pow_le_pow_right (by decide) (by omega))
    · rw [enc_big hs] at h
      have := ih (n / 128) (by simp at h; omega)
      rw [Nat.div_lt_iff_lt_mul (by decide), show (128 : Nat) = 2 ^ 7 by rfl, ← Nat.pow_add] at this
      exact this
theorem enc_len_iff (k n : Nat) (hk : 1 ≤ k) : (enc n).length ≤ k ↔ n < 2 ^ (7 * k) := by
  obtain ⟨j, rfl⟩ : ∃ j, k = j + 1 := ⟨k - 1, by omega⟩
  exact ⟨enc_len_lt _ n, enc_len_le j n⟩
theorem enc_len_mono {a b : Nat} (h : a ≤ b) : (enc a).length ≤ (enc b).length :=
  (enc_len_iff _ a (enc_pos b)).2 (Nat.lt_of_le_of_lt h (enc_len_lt _ b (Nat.le_refl _)))

/-- No number's bytes are the beginning of another one's, whatever follows. -/
theorem enc_prefix : ∀ (a b : Nat) (s t : List Int), enc a ++ s = enc b ++ t → a = b ∧ s = t := by
  intro a
  induction a using Nat.strongRecOn with
  | ind a ih =>
    intro b s t h
    by_cases ha : a < 128
    · by_cases hb : b < 128
      · rw [enc_small ha, enc_small hb] at h
        simp at h
        exact ⟨by omega, h.2⟩
      · rw [enc_small ha, enc_big hb] at h
        simp at h
        omega
    · by_cases hb : b < 128
      · rw [enc_big ha, enc_small hb] at h
        simp at h
        omega
      · rw [enc_big ha, enc_big hb] at h
        simp only [List.cons_append, List.cons.injEq] at h
        obtain ⟨h1, h2⟩ := ih (a / 128) (by omega) (b / 128) s t h.2
        exact ⟨by omega, h2⟩
theorem enc_inj {a b : Nat} (h : enc a = enc b) : a = b := (enc_prefix a b [] [] (by simpa using h)).1

/-- The number of bytes is what the number of bits tells. -/
theorem enc_len_bits (n : Nat) (h : n < 18446744073709551616) : max 1 ((Lib.bitLen n + 6) / 7) = (enc n).length := by
  by_cases h0 : n = 0
  · subst h0; rw [enc_small (by decide)]; decide
  obtain ⟨h1, h2, h3⟩ := Lib.bitLenAux_bounds 64 n h h0
  have hL : Lib.bitLen n = Lib.bitLenAux 64 n := rfl
  rw [hL]
  generalize Lib.bitLenAux 64 n = L at *
  have hp := enc_pos n
  have up : (enc n).length ≤ (L + 6) / 7 := (enc_len_iff _ n (by omega)).2 (Nat.lt_of_lt_of_le h3 (Nat.pow_le_pow_right (by decide) (by omega)))
  have lo : (L + 6) / 7 ≤ (enc n).length := by
    rcases Nat.lt_or_ge (enc n).length ((L + 6) / 7) with hlt | hge
    · exfalso
      have h4 := enc_len_lt _ n (Nat.le_refl _)
      have h5 : (2 : Nat) ^ (7 * (enc n).length) ≤ 2 ^ (L - 1) := Nat.pow_le_pow_right (by decide) (by omega)
      omega
    · exact hge
  omega

/-- The number that groups of seven bits tell. -/
def val : List Int → Nat
  | [] => 0
  | c :: l => c.toNat % 128 + 128 * val l
theorem val_enc (n : Nat) : val (enc n) = n := by
  induction n using Nat.strongRecOn with
  | ind n ih =>
    by_cases h : n < 128
    · rw [enc_small h]; simp [val]; omega
    · rw [enc_big h]
      simp only [val, Int.toNat_natCast]
      rw [ih _ (by omega)]
      omega
theorem val_append (l : List Int) : ∀ m : List Int, val (l ++ m) = val l + 128 ^ l.length * val m := by
  induction l with
  | nil => intro m; simp [val]
  | cons c l ih =>
    intro m
    simp only [List.cons_append, val, ih, List.length_cons, Nat.pow_succ, Nat.mul_add]
    rw [show 128 ^ l.length * 128 * val m = 128 * (128 ^ l.length * val m) by rw [Nat.mul_comm (128 ^ l.length) 128, Nat.mul_assoc]]
    omega
theorem val_lt (l : List Int) : val l < 128 ^ l.length := by
  induction l with
  | nil => simp [val]
  | cons c l ih => simp only [val, List.length_cons, Nat.pow_succ]; omega
/-- Bytes all but the last of which have their highest bit set, the last one neither that nor, if it isn't the only one, nothing: they are their number's bytes. -/
theorem enc_val (l : List Int) (hb : ∀ x ∈ l, 128 ≤ x ∧ x ≤ 255) (c : Int) (h0 : 0 ≤ c) (hc : c < 128) (hz : l = [] ∨ 0 < c) : enc (val (l ++ [c])) = l ++ [c] := by
  induction l with
  | nil => simp only [List.nil_append, val]; rw [enc_small (by omega)]; simp; omega
  | cons x l ih =>
    have hx := hb x (by simp)
    have hpos : 0 < val (l ++ [c]) := by
      rw [val_append]
      have : 0 < val [c] := by simp only [val]; have := hz; simp at this; omega
      have := Nat.mul_pos (Nat.pow_pos (n := l.length) (show 0 < 128 by decide)) this
      omega
    have hi := ih (fun y hy => hb y (by simp [hy])) (by
      have := hz; simp at this; exact .inr this)
    simp only [List.cons_append, val]
    rw [enc_big (by omega)]
    congr 1
    · omega
    · rw [show (x.toNat % 128 + 128 * val (l ++ [c])) / 128 = val (l ++ [c]) by omega]; exact hi
/-- The form of a number's bytes. -/
theorem enc_form (n : Nat) : ∃ l c, enc n = l ++ [c] ∧ (∀ x ∈ l, 128 ≤ x ∧ x ≤ 255) ∧ 0 ≤ c ∧ c < 128 ∧ (l = [] ∨ 0 < c) := by
  induction n using Nat.strongRecOn with
  | ind n ih =>
    by_cases h : n < 128
    · exact ⟨[], n, by rw [enc_small h]; simp, by simp, by omega, by omega, .inl rfl⟩
    · obtain ⟨l, c, e, h1, h2, h3, h4⟩ := ih (n / 128) (by omega)
      refine ⟨((n % 128 + 128 : Nat) : Int) :: l, c, by rw [enc_big h, e]; simp, ?_, h2, h3, ?_⟩
      · intro x hx
        rcases List.mem_cons.1 hx with rfl | hx
        · omega
        · exact h1 x hx
      · rcases h4 with rfl | h4
        · right
          by_cases h5 : n / 128 < 128
          · rw [enc_small h5] at e; simp at e; omega
          · rw [enc_big h5] at e; simp at e; exact absurd e.2 (enc_ne _)
        · exact .inr h4

open Classical in
/-- The number that bytes begin with, how many bytes that has, and the error's number. -/
noncomputable def getV (b : List Int) : Int × Int × Int := if h : ∃ n : Nat, n < 18446744073709551616 ∧ enc n <+: b then ((h.choose : Int), ((enc h.choose).length : Int), 0) else (0, 0, 21)
theorem getV_ok {b : List Int} {n : Nat} (hn : n < 18446744073709551616) (h : enc n <+: b) : getV b = ((n : Int), ((enc n).length : Int), 0) := by
  have hex : ∃ n : Nat, n < 18446744073709551616 ∧ enc n <+: b := ⟨n, hn, h⟩
  unfold getV
  rw [dif_pos hex]
  obtain ⟨_, h2⟩ := hex.choose_spec
  obtain ⟨s, hs⟩ := h
  obtain ⟨t, ht⟩ := h2
  have := (enc_prefix n hex.choose s t (hs.trans ht.symm)).1
  rw [← this]
theorem getV_err {b : List Int} (h : ∀ n : Nat, n < 18446744073709551616 → ¬ enc n <+: b) : getV b = (0, 0, 21) := by
  unfold getV
  rw [dif_neg (fun ⟨n, hn, hp⟩ => h n hn hp)]
theorem getV_cases (b : List Int) : (∃ n : Nat, n < 18446744073709551616 ∧ enc n <+: b ∧ getV b = ((n : Int), ((enc n).length : Int), 0)) ∨ getV b = (0, 0, 21) := by
  by_cases h : ∃ n : Nat, n < 18446744073709551616 ∧ enc n <+: b
  · obtain ⟨n, hn, hp⟩ := h; exact .inl ⟨n, hn, hp, getV_ok hn hp⟩
  · exact .inr (getV_err fun n hn hp => h ⟨n, hn, hp⟩)

/-- Where a number's bytes end: at the first byte below 128. -/
theorem prefix_end {xs : List Int} {n k : Nat} (h : enc n <+: xs) (hk : k < xs.length) (hge : ∀ j, j < k → 128 ≤ xs.getD j 0) (hc : xs.getD k 0 < 128) : enc n = xs.take (k + 1) := by
  obtain ⟨l, c, e, h1, h2, h3, _⟩ := enc_form n
  obtain ⟨s, rfl⟩ := h
  rw [e] at hk hge hc ⊢
  have hl : l.length = k := by
    rcases Nat.lt_trichotomy l.length k with hlt | heq | hgt
    · have := hge l.length hlt
      simp [List.getD_eq_getElem?_getD] at this
      omega
    · exact heq
    · exfalso
      have hm := h1 (l[k]'hgt) (List.getElem_mem hgt)
      rw [List.getD_eq_getElem?_getD, List.append_assoc, List.getElem?_append_left hgt, List.getElem?_eq_getElem hgt] at hc
      simp at hc
      omega
  subst hl
  rw [List.take_append_of_le_length (by simp), List.take_of_length_le (by simp)]
theorem prefix_len {xs : List Int} {n : Nat} (h : enc n <+: xs) : ∃ k, k < xs.length ∧ (enc n).length = k + 1 ∧ (∀ j, j < k → 128 ≤ xs.getD j 0) ∧ xs.getD k 0 < 128 := by
  obtain ⟨l, c, e, h1, h2, h3, _⟩ := enc_form n
  obtain ⟨s, rfl⟩ := h
  rw [e]
  refine ⟨l.length, by simp, by simp, ?_, ?_⟩
  · intro j hj
    have hm := h1 (l[j]'hj) (List.getElem_mem hj)
    rw [List.getD_eq_getElem?_getD, List.append_assoc, List.getElem?_append_left hj, List.getElem?_eq_getElem hj]
    simp; omega
  · simp [List.getD_eq_getElem?_getD]; omega
theorem getV_none {xs : List Int} (m : Nat) (hm : m = min xs.length 10) (h : ∀ j, j < m → 128 ≤ xs.getD j 0) : getV xs = (0, 0, 21) := by
  refine getV_err fun n hn hp => ?_
  obtain ⟨k, h1, h2, h3, h4⟩ := prefix_len hp
  have := enc_len_10 hn
  have := h k (by omega)
  omega
theorem getV_some {xs : List Int} {k : Nat} (hk : k < xs.length) (hge : ∀ j, j < k → 128 ≤ xs.getD j 0) (hc : xs.getD k 0 < 128) (n : Nat) (hn : n < 18446744073709551616) (h : enc n = xs.take (k + 1)) :
    getV xs = ((n : Int), (k : Int) + 1, 0) := by
  have := getV_ok (b := xs) hn ⟨xs.drop (k + 1), by rw [h]; exact List.take_append_drop _ _⟩
  rw [this, h]
  simp [List.length_take]; omega
theorem getV_not {xs : List Int} {k : Nat} (hk : k < xs.length) (hge : ∀ j, j < k → 128 ≤ xs.getD j 0) (hc : xs.getD k 0 < 128) (h : ∀ n : Nat, n < 18446744073709551616 → enc n ≠ xs.take (k + 1)) : getV xs = (0, 0, 21) :=
  getV_err fun n hn hp => h n hn (prefix_end hp hk hge hc)

theorem take_succ_getD (xs : List Int) (k : Nat) (hk : k < xs.length) : xs.take (k + 1) = xs.take k ++ [xs.getD k 0] := by
  rw [List.take_add_one, List.getD_eq_getElem?_getD, List.getElem?_eq_getElem hk]; rfl
theorem val_take_succ (xs : List Int) (k : Nat) (hk : k < xs.length) : val (xs.take (k + 1)) = val (xs.take k) + 128 ^ k * ((xs.getD k 0).toNat % 128) := by
  rw [take_succ_getD xs k hk, val_append, List.length_take, Nat.min_eq_left (by omega)]
  simp [val]
theorem val_take_lt (xs : List Int) (k : Nat) (hk : k ≤ xs.length) : val (xs.take k) < 128 ^ k := by
  have := val_lt (xs.take k)
  rwa [List.length_take, Nat.min_eq_left hk] at this
/-- Bytes that end at place k: their number, if it is not too great and has so many bytes. -/
theorem enc_take {xs : List Int} {k : Nat} (hk : k < xs.length) (hb : ∀ x ∈ xs, 0 ≤ x ∧ x ≤ 255) (hge : ∀ j, j < k → 128 ≤ xs.getD j 0) (hc : xs.getD k 0 < 128) (hl : (enc (val (xs.take (k + 1)))).length = k + 1) :
    enc (val (xs.take (k + 1))) = xs.take (k + 1) := by
  have ht := take_succ_getD xs k hk
  have h0 : 0 ≤ xs.getD k 0 := by
    rw [List.getD_eq_getElem?_getD, List.getElem?_eq_getElem hk]; exact (hb _ (List.getElem_mem hk)).1
  rw [ht]
  refine enc_val _ ?_ _ h0 hc ?_
  · intro x hx
    obtain ⟨j, hj, rfl⟩ := List.mem_iff_getElem.1 hx
    have hjk : j < k := by rw [List.length_take] at hj; omega
    have := hge j hjk
    rw [List.getD_eq_getElem?_getD, List.getElem?_eq_getElem (by omega)] at this
    simp at this
    rw [List.getElem_take]
    exact ⟨this, (hb _ (List.getElem_mem (by omega))).2⟩
  · rcases Nat.eq_zero_or_pos k with rfl | hkp
    · left; simp
    · right
      rcases Int.lt_or_le 0 (xs.getD k 0) with h | h
      · exact h
      · exfalso
        have hz : xs.getD k 0 = 0 := by omega
        have hv := val_take_succ xs k hk
        rw [hz] at hv
        simp at hv
        have hlt := val_take_lt xs k (by omega)
        rw [hv] at hl
        have := (enc_len_iff k (val (xs.take k)) hkp).2 (by rw [Nat.pow_mul]; exact hlt)
        omega
theorem enc_take_only {xs : List Int} {k n : Nat} (hk : k < xs.length) (h : enc n = xs.take (k + 1)) : n = val (xs.take (k + 1)) ∧ (enc n).length = k + 1 := by
  refine ⟨by rw [← h, val_enc], ?_⟩
  rw [h, List.length_take]; omega
end Go.Proofs.Ytfcekicjlgdmaaa
