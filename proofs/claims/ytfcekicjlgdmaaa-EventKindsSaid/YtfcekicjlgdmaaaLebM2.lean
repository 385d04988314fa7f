/- The mathematics of lists of numbers as bytes. -/
import Derived.Test.YtfcekicjlgdmaaaLebM
set_option linter.unusedVariables false
set_option linter.unusedSimpArgs false
namespace Go.Proofs.Ytfcekicjlgdmaaa

/-- Numbers as bytes. -/
def encL (l : List Int) : List Int := l.flatMap fun n => enc n.toNat
def U64 (l : List Int) : Prop := ∀ n ∈ l, 0 ≤ n ∧ n ≤ 18446744073709551615
theorem encL_nil : encL [] = [] := rfl
theorem encL_cons (n : Int) (l : List Int) : encL (n :: l) = enc n.toNat ++ encL l := by simp [encL]
theorem encL_append (a b : List Int) : encL (a ++ b) = encL a ++ encL b := by simp [encL]
theorem encL_snoc (a : List Int) (n : Int) : encL (a ++ [n]) = encL a ++ enc n.toNat := by simp [encL]
theorem encL_bytes (l : List Int) : ∀ x ∈ encL l, 0 ≤ x ∧ x ≤ 255 := by
  intro x hx
  obtain ⟨n, _, h⟩ := List.mem_flatMap.1 hx
  exact enc_bytes _ x h
theorem encL_ne {l : List Int} (h : l ≠ []) : encL l ≠ [] := by
  cases l with
  | nil => exact absurd rfl h
  | cons n l => rw [encL_cons]; intro e; exact enc_ne _ (List.append_eq_nil_iff.1 e).1
theorem encL_len {l : List Int} (h : U64 l) : (encL l).length ≤ 10 * l.length := by
  induction l with
  | nil => simp [encL]
  | cons n l ih =>
    rw [encL_cons, List.length_append, List.length_cons]
    have h1 := enc_len_10 (n := n.toNat) (by have := h n (by simp); omega)
    have h2 := ih fun m hm => h m (by simp [hm])
    omega
theorem U64.take {l : List Int} (h : U64 l) (k : Nat) : U64 (l.take k) := fun n hn => h n (List.mem_of_mem_take hn)
theorem U64.drop {l : List Int} (h : U64 l) (k : Nat) : U64 (l.drop k) := fun n hn => h n (List.mem_of_mem_drop hn)
theorem U64.snoc {l : List Int} (h : U64 l) {n : Int} (hn : 0 ≤ n ∧ n ≤ 18446744073709551615) : U64 (l ++ [n]) := by
  intro m hm
  rcases List.mem_append.1 hm with c | c
  · exact h m c
  · obtain rfl := List.mem_singleton.1 c
    exact hn
theorem U64.nil : U64 [] := fun n h => by simp at h
theorem U64.getD {l : List Int} (h : U64 l) {k : Nat} (hk : k < l.length) : 0 ≤ l.getD k 0 ∧ l.getD k 0 ≤ 18446744073709551615 := by
  rw [List.getD_eq_getElem?_getD, List.getElem?_eq_getElem hk]; exact h _ (List.getElem_mem hk)
theorem encL_take_succ {l : List Int} {k : Nat} (hk : k < l.length) : encL (l.take (k + 1)) = encL (l.take k) ++ enc (l.getD k 0).toNat := by
  rw [take_succ_getD l k hk, encL_snoc]
theorem encL_prefix : ∀ (a b r : List Int), U64 a → U64 b → encL a ++ r = encL b → ∃ c, b = a ++ c ∧ r = encL c
  | [], b, r, _, _, h => ⟨b, rfl, by simpa [encL] using h⟩
  | n :: a, [], r, _, _, h => by
    rw [encL_cons, encL_nil, List.append_assoc] at h
    exact absurd (List.append_eq_nil_iff.1 h).1 (enc_ne _)
  | n :: a, m :: b, r, ha, hb, h => by
    rw [encL_cons, encL_cons, List.append_assoc] at h
    obtain ⟨e1, e2⟩ := enc_prefix _ _ _ _ h
    have hn := ha n (by simp)
    have hm := hb m (by simp)
    have e3 : n = m := by omega
    subst e3
    obtain ⟨c, e4, e5⟩ := encL_prefix a b r (fun x hx => ha x (by simp [hx])) (fun x hx => hb x (by simp [hx])) e2
    exact ⟨c, by rw [e4, List.cons_append], e5⟩
theorem encL_inj {a b : List Int} (ha : U64 a) (hb : U64 b) (h : encL a = encL b) : a = b := by
  obtain ⟨c, e1, e2⟩ := encL_prefix a b [] ha hb (by simpa using h)
  rcases Classical.em (c = []) with hc | hc
  · rw [e1, hc, List.append_nil]
  · exact absurd e2.symm (encL_ne hc)

/-- These bytes are those of these numbers, not too many. -/
def GoodL (xs l : List Int) : Prop := U64 l ∧ l.length ≤ 128 ∧ xs = encL l
open Classical in
/-- The numbers of bytes, and the number of the error. -/
noncomputable def allV (xs : List Int) : List Int × Int := if h : ∃ l, GoodL xs l then (h.choose, 0) else ([], 21)
theorem allV_ok {xs l : List Int} (h : GoodL xs l) : allV xs = (l, 0) := by
  have hex : ∃ l, GoodL xs l := ⟨l, h⟩
  unfold allV
  rw [dif_pos hex]
  have hs := hex.choose_spec
  rw [encL_inj hs.1 h.1 (hs.2.2.symm.trans h.2.2)]
theorem allV_err {xs : List Int} (h : ¬ ∃ l, GoodL xs l) : allV xs = ([], 21) := by unfold allV; rw [dif_neg h]
theorem allV_cases (xs : List Int) : (∃ l, GoodL xs l ∧ allV xs = (l, 0)) ∨ allV xs = ([], 21) := by
  rcases Classical.em (∃ l, GoodL xs l) with ⟨l, h⟩ | h
  · exact .inl ⟨l, h, allV_ok h⟩
  · exact .inr (allV_err h)
theorem allV_u64 (xs : List Int) : U64 (allV xs).1 := by
  rcases allV_cases xs with ⟨l, h, e⟩ | e
  · rw [e]; exact h.1
  · rw [e]; exact U64.nil
theorem allV_len (xs : List Int) : (allV xs).1.length ≤ 128 := by
  rcases allV_cases xs with ⟨l, h, e⟩ | e
  · rw [e]; exact h.2.1
  · rw [e]; simp
/-- A step of the reading: the bytes behind these numbers begin with none. -/
theorem all_stop {xs a r : List Int} (hx : xs = encL a ++ r) (ha : U64 a) (hr : r ≠ []) (hg : getV r = (0, 0, 21)) : allV xs = ([], 21) := by
  refine allV_err ?_
  rintro ⟨l, hl, _, e⟩
  obtain ⟨c, e1, e2⟩ := encL_prefix a l r ha hl (hx.symm.trans e)
  cases c with
  | nil => exact hr e2
  | cons n c =>
    have hn := hl n (by rw [e1]; simp)
    have := getV_ok (b := r) (n := n.toNat) (by omega) ⟨encL c, by rw [e2, encL_cons]⟩
    rw [hg] at this
    simp at this
/-- There are too many. -/
theorem all_many {xs a r : List Int} (hx : xs = encL a ++ r) (ha : U64 a) (hr : r ≠ []) (hm : 128 ≤ a.length) : allV xs = ([], 21) := by
  refine allV_err ?_
  rintro ⟨l, hl, hlen, e⟩
  obtain ⟨c, e1, e2⟩ := encL_prefix a l r ha hl (hx.symm.trans e)
  cases c with
  | nil => exact hr e2
  | cons n c =>
    rw [e1] at hlen
    simp at hlen
    omega
theorem getV_step {r : List Int} {n : Nat} (h : enc n <+: r) : r = enc n ++ r.drop (enc n).length ∧ (enc n).length ≤ r.length := by
  obtain ⟨t, e⟩ := h
  refine ⟨?_, ?_⟩
  · rw [← e, List.drop_left]
  · rw [← e, List.length_append]; omega
end Go.Proofs.Ytfcekicjlgdmaaa
