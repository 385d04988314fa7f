/- The mathematics of routes: the longest one. -/
import Derived.Test.YtebeknnjjoobnaaRoute2
import Derived.Test.YtebeknnjjoobnaaFlatAt
set_option linter.unusedVariables false
set_option linter.unusedSimpArgs false
namespace Go.Proofs.Ytebeknnjjoobnaa

/-- The table behind the setting of the first networks, each with its place. -/
def setsL (ns : List Nt) : Nat → Routes
  | 0 => []
  | k + 1 => setL (setsL ns k) (ns.getD k zeroN) (k : Int)
theorem setL_len (l : Routes) (x : Nt) (v : Int) : (setL l x v).length ≤ l.length + 1 := by
  unfold setL
  split
  · rw [mput_len]; split <;> omega
  · omega
theorem setsL_len (ns : List Nt) : ∀ k, (setsL ns k).length ≤ k
  | 0 => by simp [setsL]
  | k + 1 => by
    have h1 := setsL_len ns k
    have h2 := setL_len (setsL ns k) (ns.getD k zeroN) (k : Int)
    unfold setsL
    omega
theorem setOk_right (l : Routes) (x : Nt) (k : Nat) (hl : l.length < 64) : setOk l x (k : Int) = rightT x := by
  unfold setOk
  rw [decide_eq_true (by omega : (0 : Int) ≤ (k : Int)), decide_eq_true hl]
  simp
theorem sets_some (ns : List Nt) (x : Nt) (v : Int) : ∀ k, k ≤ 64 → mget (setsL ns k) x = some v → ∃ j : Nat, v = (j : Int) ∧ j < k ∧ ns.getD j zeroN = x ∧ rightT x = true ∧ ∀ i, j < i → i < k → ns.getD i zeroN ≠ x
  | 0, _, h => by simp [setsL, mget] at h
  | k + 1, hk, h => by
    have hl := setsL_len ns k
    unfold setsL setL at h
    rw [setOk_right _ _ _ (by omega)] at h
    cases hr : rightT (ns.getD k zeroN) with
    | true =>
      rw [hr, if_pos rfl, mget_put] at h
      by_cases e : x = ns.getD k zeroN
      · rw [if_pos e] at h
        exact ⟨k, (Option.some.inj h).symm, by omega, e.symm, by rw [e]; exact hr, fun i h1 h2 => absurd h1 (by omega)⟩
      · rw [if_neg e] at h
        obtain ⟨j, h1, h2, h3, h4, h5⟩ := sets_some ns x v k (by omega) h
        refine ⟨j, h1, by omega, h3, h4, fun i hi1 hi2 => ?_⟩
        rcases Nat.lt_or_ge i k with c | c
        · exact h5 i hi1 c
        · obtain rfl : i = k := by omega
          exact fun he => e he.symm
    | false =>
      rw [hr] at h
      simp only [Bool.false_eq_true, if_false] at h
      obtain ⟨j, h1, h2, h3, h4, h5⟩ := sets_some ns x v k (by omega) h
      refine ⟨j, h1, by omega, h3, h4, fun i hi1 hi2 => ?_⟩
      rcases Nat.lt_or_ge i k with c | c
      · exact h5 i hi1 c
      · obtain rfl : i = k := by omega
        intro he
        rw [he, h4] at hr
        cases hr
theorem sets_none (ns : List Nt) (x : Nt) : ∀ k, k ≤ 64 → mget (setsL ns k) x = none → rightT x = true → ∀ j, j < k → ns.getD j zeroN ≠ x
  | 0, _, _, _, j, hj => absurd hj (by omega)
  | k + 1, hk, h, hx, j, hj => by
    have hl := setsL_len ns k
    unfold setsL setL at h
    rw [setOk_right _ _ _ (by omega)] at h
    cases hr : rightT (ns.getD k zeroN) with
    | true =>
      rw [hr, if_pos rfl, mget_put] at h
      by_cases e : x = ns.getD k zeroN
      · rw [if_pos e] at h; cases h
      · rw [if_neg e] at h
        rcases Nat.lt_or_ge j k with c | c
        · exact sets_none ns x k (by omega) h hx j c
        · obtain rfl : j = k := by omega
          exact fun he => e he.symm
    | false =>
      rw [hr] at h
      simp only [Bool.false_eq_true, if_false] at h
      rcases Nat.lt_or_ge j k with c | c
      · exact sets_none ns x k (by omega) h hx j c
      · obtain rfl : j = k := by omega
        intro he
        rw [he, hx] at hr
        cases hr
theorem find_some {l : Routes} {p q r s : Int} {x : Nt} {v : Int} : ∀ k, findFrom l p q r s k = some (x, v) → ∃ b : Nat, b ≤ k ∧ x = cutV p q r s (b : Int) ∧ mget l x = some v ∧ ∀ c : Nat, b < c → c ≤ k → mget l (cutV p q r s (c : Int)) = none
  | 0, h => by
    unfold findFrom at h
    obtain ⟨v', h1, h2⟩ := Option.map_eq_some_iff.1 h
    simp only [Prod.mk.injEq] at h2
    obtain ⟨rfl, rfl⟩ := h2
    exact ⟨0, Nat.le_refl _, rfl, h1, fun c h1 h2 => by omega⟩
  | k + 1, h => by
    unfold findFrom at h
    split at h
    · rename_i v' hv
      simp only [Option.some.injEq, Prod.mk.injEq] at h
      obtain ⟨rfl, rfl⟩ := h
      exact ⟨k + 1, Nat.le_refl _, rfl, hv, fun c h1 h2 => by omega⟩
    · rename_i hv
      obtain ⟨b, h1, h2, h3, h4⟩ := find_some k h
      refine ⟨b, by omega, h2, h3, fun c hc1 hc2 => ?_⟩
      rcases Nat.lt_or_ge c (k + 1) with e | e
      · exact h4 c hc1 (by omega)
      · obtain rfl : c = k + 1 := by omega
        exact hv
theorem find_none {l : Routes} {p q r s : Int} : ∀ k, findFrom l p q r s k = none → ∀ c : Nat, c ≤ k → mget l (cutV p q r s (c : Int)) = none
  | 0, h, c, hc => by
    obtain rfl : c = 0 := by omega
    unfold findFrom at h
    exact Option.map_eq_none_iff.1 h
  | k + 1, h, c, hc => by
    unfold findFrom at h
    split at h
    · cases h
    · rename_i hv
      rcases Nat.lt_or_ge c (k + 1) with e | e
      · exact find_none k h c (by omega)
      · obtain rfl : c = k + 1 := by omega
        exact hv
theorem cutV_bits (p q r s n : Int) : (cutV p q r s n).2.2.2.2 = (clampN n : Int) := rfl
theorem clampN_nat {b : Nat} (h : b ≤ 32) : clampN (b : Int) = b := by unfold clampN; (repeat' split) <;> omega
def inT (p q r s : Int) (x : Nt) : Bool := inB p q r s x.1 x.2.1 x.2.2.1 x.2.2.2.1 x.2.2.2.2
theorem inT_cut {p q r s : Int} {b : Nat} (hb : b ≤ 32) (h : rightT (cutV p q r s (b : Int)) = true) : inT p q r s (cutV p q r s (b : Int)) = true := by
  have e : (cutV p q r s (b : Int)).2.2.2.2 = (b : Int) := by rw [cutV_bits, clampN_nat hb]
  have hq : ∀ y : Ad, eqA y y = true := fun y => eqA_iff.2 rfl
  unfold inT inB
  rw [show rightB (cutV p q r s (b : Int)).1 (cutV p q r s (b : Int)).2.1 (cutV p q r s (b : Int)).2.2.1 (cutV p q r s (b : Int)).2.2.2.1 (cutV p q r s (b : Int)).2.2.2.2 = true from h, e, Bool.true_and]
  exact hq _
theorem inT_iff {p q r s : Int} {x : Nt} (h : inT p q r s x = true) : rightT x = true ∧ ∃ b : Nat, b ≤ 32 ∧ x = cutV p q r s (b : Int) ∧ x.2.2.2.2 = (b : Int) := by
  unfold inT inB at h
  rw [Bool.and_eq_true] at h
  obtain ⟨h1, h2⟩ := h
  have hr : rightT x = true := h1
  unfold rightB at h1
  rw [decide_eq_true_eq] at h1
  obtain ⟨b0, b1, _⟩ := h1
  obtain ⟨b, hb⟩ := Int.eq_ofNat_of_zero_le b0
  have hb32 : b ≤ 32 := by omega
  refine ⟨hr, b, hb32, ?_, hb⟩
  have e := eqA_iff.1 h2
  rw [hb] at e
  simp only [Prod.mk.injEq] at e
  obtain ⟨e1, e2, e3, e4⟩ := e
  have e5 : (cutV p q r s (b : Int)).2.2.2.2 = (b : Int) := by rw [cutV_bits, clampN_nat hb32]
  exact (Prod.ext e1 (Prod.ext e2 (Prod.ext e3 (Prod.ext e4 (by show (cutV p q r s (b : Int)).2.2.2.2 = x.2.2.2.2; rw [e5, hb]))))).symm
/-- What is found is one of those set, and has the address. -/
theorem longest_found {ns : List Nt} {p q r s : Int} {x : Nt} {v : Int} (hk : ns.length ≤ 64) (h : findL (setsL ns ns.length) p q r s = some (x, v)) :
    ∃ j : Nat, v = (j : Int) ∧ j < ns.length ∧ ns.getD j zeroN = x ∧ inT p q r s x = true := by
  obtain ⟨b, h1, h2, h3, _⟩ := find_some 32 h
  obtain ⟨j, g1, g2, g3, g4, _⟩ := sets_some ns x v ns.length hk h3
  exact ⟨j, g1, g2, g3, by rw [h2] at g4 ⊢; exact inT_cut h1 g4⟩
/-- No other one that has it has more bits, or is the same and later. -/
theorem longest_best {ns : List Nt} {p q r s : Int} (hk : ns.length ≤ 64) {i : Nat} (hi : i < ns.length) (hin : inT p q r s (ns.getD i zeroN) = true) :
    ∃ x v, findL (setsL ns ns.length) p q r s = some (x, v) ∧ (ns.getD i zeroN).2.2.2.2 ≤ x.2.2.2.2 ∧ (ns.getD i zeroN = x → (i : Int) ≤ v) := by
  obtain ⟨hr, b, hb, hx, hbits⟩ := inT_iff hin
  have hget : mget (setsL ns ns.length) (cutV p q r s (b : Int)) ≠ none := by
    rw [← hx]
    intro h0
    exact sets_none ns _ ns.length hk h0 hr i hi rfl
  cases hf : findL (setsL ns ns.length) p q r s with
  | none => exact absurd (find_none 32 hf b hb) hget
  | some y =>
    obtain ⟨x, v⟩ := y
    obtain ⟨b', h1, h2, h3, h4⟩ := find_some 32 hf
    refine ⟨x, v, rfl, ?_, ?_⟩
    · rw [hbits, h2, cutV_bits, clampN_nat h1]
      rcases Nat.lt_or_ge b' b with c | c
      · exact absurd (h4 b c hb) hget
      · omega
    · intro e
      obtain ⟨j, g1, g2, g3, g4, g5⟩ := sets_some ns x v ns.length hk h3
      rw [g1]
      rcases Nat.lt_or_ge j i with c | c
      · exact absurd e (g5 i c hi)
      · omega
end Go.Proofs.Ytebeknnjjoobnaa
