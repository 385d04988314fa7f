/- The elements of a slice of flat structs, one by one. -/
import Derived.Test.YtebeknnjjoobnaaDoorNetEq
set_option linter.unusedVariables false
set_option linter.unusedSimpArgs false
namespace Go.Proofs.YtebeknnjjoobnaaDoor
open Go.RowKit

theorem ff_i {k : IntKind} {ks : List Leaf} {vs : List Value} (h : Fits (.i k :: ks) vs) : ∃ n us, vs = .int k n :: us ∧ (Lit.int k n).wf = true ∧ Fits ks us := by
  match vs, h with
  | _ :: us, ⟨⟨n, rfl, hw⟩, h2⟩ => exact ⟨n, us, rfl, hw, h2⟩
theorem ff_b {ks : List Leaf} {vs : List Value} (h : Fits (.b :: ks) vs) : ∃ n us, vs = .bool n :: us ∧ Fits ks us := by
  match vs, h with
  | _ :: us, ⟨⟨n, rfl⟩, h2⟩ => exact ⟨n, us, rfl, h2⟩
theorem ff_nil {vs : List Value} (h : Fits [] vs) : vs = [] := by
  match vs, h with
  | [], _ => rfl
theorem cl_lt {w : World} {a : Addr} {v : Value} (h : w.cell? a = some v) : a.block < w.heap.size := by
  rcases Nat.lt_or_ge a.block w.heap.size with k | k
  · exact k
  · exfalso
    unfold World.cell? at h
    rw [Array.getElem?_eq_none k] at h
    simp at h
theorem ad_block (x : Addr) (k : Nat) : (x.add k).block = x.block := by unfold Addr.add; split <;> rfl
theorem ad_pos (x : Addr) {k : Nat} (h : k ≠ 0) : x.add k = ⟨x.block, x.off + k, none⟩ := by unfold Addr.add; rw [if_neg h]
theorem cl_far {w w1 : World} {x : Addr} {v : Value} (hB : Below w.heap.size w w1) (h : w.cell? x = some v) : w1.cell? x = some v := by
  rw [hB.cell (cl_lt h)]; exact h

/-- The cells of a row of values at an address. -/
def RowAt (w : World) (a : Addr) (vs : List Value) : Prop := ∀ j, j < vs.length → w.cell? (a.add j) = vs[j]?
theorem RowAt.far {w w1 : World} {a : Addr} {vs : List Value} (h : RowAt w a vs) (hB : Below w.heap.size w w1) : RowAt w1 a vs := fun j hj => by
  have h1 := h j hj
  rw [List.getElem?_eq_getElem hj] at h1 ⊢
  exact cl_far hB h1
theorem RowAt.head {w : World} {a : Addr} {v : Value} {vs : List Value} (h : RowAt w a (v :: vs)) : w.cell? a = some v := by
  have := h 0 (by simp)
  simpa [Addr.add] using this
theorem RowAt.at_ {w : World} {a : Addr} {vs : List Value} (h : RowAt w a vs) (j : Nat) (v : Value) (hv : vs[j]? = some v) (h0 : j ≠ 0) : w.cell? ⟨a.block, a.off + j, none⟩ = some v := by
  rw [← ad_pos a h0, ← hv]
  exact h j (List.getElem?_eq_some_iff.1 hv).1
/-- Element i of a slice of flat things. -/
theorem flat_row {ks : List Leaf} {w : World} {A : Option Addr} {len cap : Nat} (h : IsFlat ks w A len cap) {i : Nat} (hi : i < len) : ∃ x vs, A = some x ∧ Fits ks vs ∧ RowAt w (x.add (i * ks.length)) vs := by
  rcases h with ⟨_, rfl, _⟩ | ⟨x, rfl, hl, hm, hx⟩
  · omega
  · obtain ⟨vs, hf, hc⟩ := hx i hi
    refine ⟨x, vs, rfl, hf, fun j hj => ?_⟩
    rw [addr_add]
    exact hc j (by rw [← hf.length]; exact hj)
theorem list_choose {α : Type} (d : α) (P : Nat → α → Prop) : ∀ (n : Nat), (∀ i, i < n → ∃ x, P i x) → ∃ l : List α, l.length = n ∧ ∀ i, i < n → P i (l.getD i d)
  | 0, _ => ⟨[], rfl, fun i hi => absurd hi (by omega)⟩
  | n + 1, h => by
    obtain ⟨l, hl, hp⟩ := list_choose d P n fun i hi => h i (by omega)
    obtain ⟨x, hx⟩ := h n (by omega)
    refine ⟨l ++ [x], by simp [hl], fun i hi => ?_⟩
    rcases Nat.lt_or_ge i n with c | c
    · have := hp i c
      rwa [List.getD_eq_getElem?_getD, List.getElem?_append_left (by omega), ← List.getD_eq_getElem?_getD]
    · obtain rfl : i = n := by omega
      rw [List.getD_eq_getElem?_getD, List.getElem?_append_right (by omega), hl, Nat.sub_self]
      exact hx

def zeroN : Nt := (0, 0, 0, 0, 0)
def ntRow (x : Nt) : List Value := [.int .u8 x.1, .int .u8 x.2.1, .int .u8 x.2.2.1, .int .u8 x.2.2.2.1, .int .i64 x.2.2.2.2]
/-- A slice of networks that came in. -/
def NtsAt (w : World) (A : Option Addr) (ns : List Nt) : Prop := ∀ i, i < ns.length → NtOk (ns.getD i zeroN).1 (ns.getD i zeroN).2.1 (ns.getD i zeroN).2.2.1 (ns.getD i zeroN).2.2.2.1 (ns.getD i zeroN).2.2.2.2 ∧ ∃ x, A = some x ∧ RowAt w (x.add (i * 5)) (ntRow (ns.getD i zeroN))
theorem nts_of {w : World} {A : Option Addr} {len cap : Nat} (h : IsFlat ntLeaves w A len cap) : ∃ ns : List Nt, len = ns.length ∧ NtsAt w A ns := by
  obtain ⟨ns, hl, hp⟩ := list_choose zeroN (fun i x => NtOk x.1 x.2.1 x.2.2.1 x.2.2.2.1 x.2.2.2.2 ∧ ∃ ad, A = some ad ∧ RowAt w (ad.add (i * 5)) (ntRow x)) len fun i hi => by
    obtain ⟨x, vs, rfl, hf, hr⟩ := flat_row h hi
    obtain ⟨a, us, rfl, wa, hf⟩ := ff_i hf
    obtain ⟨b, us, rfl, wb, hf⟩ := ff_i hf
    obtain ⟨c, us, rfl, wc, hf⟩ := ff_i hf
    obtain ⟨d, us, rfl, wd, hf⟩ := ff_i hf
    obtain ⟨n, us, rfl, wn, hf⟩ := ff_i hf
    obtain rfl := ff_nil hf
    exact ⟨(a, b, c, d, n), ⟨⟨bounds_u8 wa, bounds_u8 wb, bounds_u8 wc, bounds_u8 wd⟩, bounds_i64 wn⟩, x, rfl, hr⟩
  exact ⟨ns, hl.symm, fun i hi => hp i (by omega)⟩
theorem nt_cellsAt {w : World} {a : Addr} {x : Nt} (h : RowAt w a (ntRow x)) :
    w.cell? a = some (.int .u8 x.1) ∧ w.cell? ⟨a.block, a.off + 1, none⟩ = some (.int .u8 x.2.1) ∧ w.cell? ⟨a.block, a.off + 2, none⟩ = some (.int .u8 x.2.2.1) ∧ w.cell? ⟨a.block, a.off + 3, none⟩ = some (.int .u8 x.2.2.2.1) ∧ w.cell? ⟨a.block, a.off + 4, none⟩ = some (.int .i64 x.2.2.2.2) :=
  ⟨h.head, h.at_ 1 _ rfl (by decide), h.at_ 2 _ rfl (by decide), h.at_ 3 _ rfl (by decide), h.at_ 4 _ rfl (by decide)⟩
end Go.Proofs.YtebeknnjjoobnaaDoor
