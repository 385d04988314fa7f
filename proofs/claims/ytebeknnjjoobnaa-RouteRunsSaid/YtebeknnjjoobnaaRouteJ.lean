/- The mathematics: the document's Find finds what the table finds. -/
import Derived.Test.YtebeknnjjoobnaaRouteH
import Derived.Test.YtebeknnjjoobnaaRouteI
import Derived.Test.YtebeknnjjoobnaaRouteB
set_option linter.unusedVariables false
set_option linter.unusedSimpArgs false
namespace Go.Proofs.Ytebeknnjjoobnaa
open Go.RowKit

theorem fold_inv {p q r s : Int} : ∀ (l : List Rt) (o : Option Rt), (l.foldl (stepF p q r s) o = none → o = none ∧ ∀ x ∈ l, inT p q r s x.1 = false) ∧
    (∀ x, l.foldl (stepF p q r s) o = some x → (o = some x ∨ (x ∈ l ∧ inT p q r s x.1 = true)) ∧ (∀ y ∈ l, inT p q r s y.1 = true → y.1.2.2.2.2 ≤ x.1.2.2.2.2) ∧ (∀ y, o = some y → y.1.2.2.2.2 ≤ x.1.2.2.2.2))
  | [], o => ⟨fun h => ⟨h, fun x hx => absurd hx (by simp)⟩, fun x h => ⟨.inl h, fun y hy => absurd hy (by simp), fun y hy => by have : some x = some y := h.symm.trans hy; cases this; omega⟩⟩
  | z :: l, o => by
    rw [List.foldl_cons]
    obtain ⟨h1, h2⟩ := fold_inv l (stepF p q r s o z)
    by_cases hc : (inT p q r s z.1 && (o.isNone || decide ((o.getD zeroRt).1.2.2.2.2 < z.1.2.2.2.2))) = true
    · have hs : stepF p q r s o z = some z := if_pos hc
      rw [hs] at h1 h2 ⊢
      simp only [Bool.and_eq_true, Bool.or_eq_true, decide_eq_true_eq] at hc
      refine ⟨fun h => absurd (h1 h).1 (by simp), fun x hx => ?_⟩
      obtain ⟨h3, h4, h5⟩ := h2 x hx
      have hz := h5 z rfl
      refine ⟨.inr ?_, fun y hy hi => ?_, fun y hy => ?_⟩
      · rcases h3 with h3 | ⟨h3, h6⟩
        · obtain rfl := Option.some.inj h3
          exact ⟨List.mem_cons_self .., hc.1⟩
        · exact ⟨List.mem_cons_of_mem _ h3, h6⟩
      · rcases List.mem_cons.1 hy with rfl | hy
        · exact hz
        · exact h4 y hy hi
      · rcases hc.2 with h6 | h6
        · rw [hy] at h6; cases h6
        · rw [hy] at h6
          have h7 : y.1.2.2.2.2 < z.1.2.2.2.2 := h6
          omega
    · have hs : stepF p q r s o z = o := if_neg hc
      rw [hs] at h1 h2 ⊢
      have hc2 : inT p q r s z.1 = true → ∃ y, o = some y ∧ z.1.2.2.2.2 ≤ y.1.2.2.2.2 := fun hi => by
        cases o with
        | none => exact absurd (by rw [hi]; rfl) hc
        | some y =>
          refine ⟨y, rfl, ?_⟩
          rcases Int.lt_or_le y.1.2.2.2.2 z.1.2.2.2.2 with h | h
          · exact absurd (by rw [hi]; simpa using h) hc
          · exact h
      refine ⟨fun h => ⟨(h1 h).1, fun x hx => ?_⟩, fun x hx => ?_⟩
      · rcases List.mem_cons.1 hx with rfl | hx
        · cases hi : inT p q r s x.1 with
          | false => rfl
          | true =>
            obtain ⟨y, hy, _⟩ := hc2 hi
            rw [(h1 h).1] at hy
            cases hy
        · exact (h1 h).2 x hx
      · obtain ⟨h3, h4, h5⟩ := h2 x hx
        refine ⟨?_, fun y hy hi => ?_, h5⟩
        · rcases h3 with h3 | ⟨h3, h6⟩
          · exact .inl h3
          · exact .inr ⟨List.mem_cons_of_mem _ h3, h6⟩
        · rcases List.mem_cons.1 hy with rfl | hy
          · obtain ⟨y', h6, h7⟩ := hc2 hi
            have := h5 y' h6
            omega
          · exact h4 y hy hi
theorem find_same {l d : List Rt} (h : Agree l d) (hn : (l.map Prod.fst).Nodup) (p q r s : Int) : findD p q r s d = findL l p q r s := by
  obtain ⟨f1, f2⟩ := fold_inv (p := p) (q := q) (r := r) (s := s) d none
  have hmem : ∀ y, y ∈ d → mget l y.1 = some y.2 := fun y hy => mget_of_mem hn ((h.mem y).1 hy)
  unfold findD
  cases hf : findL l p q r s with
  | none =>
    have hno := find_none 32 hf
    cases hd : d.foldl (stepF p q r s) none with
    | none => rfl
    | some x =>
      obtain ⟨h3, _⟩ := f2 x hd
      rcases h3 with h3 | ⟨h3, h4⟩
      · cases h3
      · obtain ⟨_, b, hb, hx, _⟩ := inT_iff h4
        have := hmem x h3
        rw [hx, hno b hb] at this
        cases this
  | some z =>
    obtain ⟨x, v⟩ := z
    obtain ⟨b, hb, hx, hg, hbest⟩ := find_some 32 hf
    have hxd : (x, v) ∈ d := (h.mem _).2 (mget_some_mem hg)
    have hin : inT p q r s x = true := by
      have hr := h.rt _ (mget_some_mem hg)
      have hr2 : rightT x = true := hr
      rw [hx] at hr2 ⊢
      exact inT_cut hb hr2
    have hxb : x.2.2.2.2 = (b : Int) := by rw [hx, cutV_bits, clampN_nat hb]
    cases hd : d.foldl (stepF p q r s) none with
    | none =>
      have := (f1 hd).2 _ hxd
      rw [show inT p q r s (x, v).1 = true from hin] at this
      cases this
    | some y =>
      obtain ⟨h3, h4, _⟩ := f2 y hd
      rcases h3 with h3 | ⟨h3, h5⟩
      · cases h3
      · obtain ⟨_, c, hc, hy, hyb⟩ := inT_iff h5
        have h6 := h4 _ hxd hin
        have h7 : x.2.2.2.2 ≤ y.1.2.2.2.2 := h6
        rw [hxb, hyb] at h7
        rcases Nat.lt_or_ge b c with hbc | hbc
        · have := hmem y h3
          rw [hy, hbest c hbc hc] at this
          cases this
        · obtain rfl : b = c := by omega
          have hyx : y.1 = x := by rw [hy, hx]
          have h8 := hmem y h3
          rw [hyx, hg] at h8
          exact congrArg some (Prod.ext hyx (Option.some.inj h8).symm)
end Go.Proofs.Ytebeknnjjoobnaa
