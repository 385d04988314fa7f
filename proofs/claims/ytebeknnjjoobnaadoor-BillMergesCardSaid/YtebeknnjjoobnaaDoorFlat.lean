/- What a value of a flat type (numbers, booleans, and structs and arrays of these) reads as: cell for cell. -/
import Derived.Test.YtebeknnjjoobnaaDoorBase
import Derived.OpenShut
import Derived.Deep.Slices
set_option linter.unusedVariables false
set_option linter.unusedSimpArgs false
namespace Go.Proofs.YtebeknnjjoobnaaDoor
open Go.RowKit Go.ChangeShapes Go.WideShapes Go.ChangeAt

inductive Leaf where
  | i (k : IntKind)
  | b
def Leaf.fits : Leaf → Value → Prop
  | .i k, v => ∃ n, v = .int k n ∧ (Lit.int k n).wf = true
  | .b, v => ∃ x, v = .bool x
def Fits : List Leaf → List Value → Prop
  | [], [] => True
  | k :: ks, v :: vs => k.fits v ∧ Fits ks vs
  | _, _ => False
theorem Fits.length : ∀ {ks : List Leaf} {vs : List Value}, Fits ks vs → vs.length = ks.length
  | [], [], _ => rfl
  | _ :: ks, _ :: vs, h => by simp [Fits.length h.2]
  | [], _ :: _, h => h.elim
  | _ :: _, [], h => h.elim
theorem Fits.append : ∀ {ks ls : List Leaf} {vs us : List Value}, Fits ks vs → Fits ls us → Fits (ks ++ ls) (vs ++ us)
  | [], _, [], _, _, k => k
  | _ :: _, _, _ :: _, _, h, k => ⟨h.1, Fits.append h.2 k⟩
  | [], _, _ :: _, _, h, _ => h.elim
  | _ :: _, _, [], _, h, _ => h.elim

def leavesF (P : Program) (L : TypeId → Option (List Leaf)) : Nat → List Field → Option (List Leaf)
  | _, [] => some []
  | off, f :: fs => match L f.type, leavesF P L (off + P.cellsOf f.type) fs with
    | some ks, some r => if f.offset = off ∧ P.cellsOf f.type = ks.length then some (ks ++ r) else none
    | _, _ => none
def leaves (P : Program) : Nat → TypeId → Option (List Leaf)
  | 0, _ => none
  | n + 1, t => match P.underlying t with
    | some (.int k) => some [.i k]
    | some .bool => some [.b]
    | some (.struct fs) => match leavesF P (leaves P n) 0 fs.toList with
      | some ks => if P.cellsOf t = ks.length then some ks else none
      | none => none
    | some (.array m e) => match leaves P n e with
      | some ks => if P.cellsOf e = ks.length ∧ P.cellsOf t = (List.replicate m ks).flatten.length then some (List.replicate m ks).flatten else none
      | none => none
    | _ => none

variable {H : Type} {enc : TypeId × Value → H} {P : Program} {w : World} {base : Nat} {spare : Nat → Bool} {held : Bool}

theorem leavesF_fits {L : TypeId → Option (List Leaf)} {n : Nat} {cs : List Value} (hL : ∀ t ks vs x, L t = some ks → DataW.trod enc P w base spare held n t vs = some x → Fits ks vs) :
    ∀ (fs : List Field) (off : Nat) (r : List Leaf), leavesF P L off fs = some r → (∀ f ∈ fs, ∃ y, DataW.trod enc P w base spare held n f.type ((cs.drop f.offset).take (P.cellsOf f.type)) = some y) → Fits r ((cs.drop off).take r.length)
  | [], off, r, h, _ => by
    simp only [leavesF, Option.some.injEq] at h
    subst h
    simp [Fits]
  | f :: fs, off, r, h, hf => by
    simp only [leavesF] at h
    split at h
    · rename_i ks r' h1 h2
      split at h
      · rename_i hc
        simp only [Option.some.injEq] at h
        subst h
        obtain ⟨y, hy⟩ := hf f (by simp)
        have e1 := hL _ _ _ _ h1 hy
        have e2 := leavesF_fits hL fs _ _ h2 fun g hg => hf g (by simp [hg])
        rw [hc.1, hc.2] at e1
        rw [hc.2, ← List.drop_drop] at e2
        rw [List.length_append, List.take_add]
        exact e1.append e2
      · cases h
    · cases h
theorem rep_fits {n : Nat} {e : TypeId} {ks : List Leaf} {cs : List Value} {c : Nat} (hc : c = ks.length) : ∀ (m i : Nat), (∀ j, i ≤ j → j < i + m → Fits ks ((cs.drop (j * c)).take c)) → Fits (List.replicate m ks).flatten ((cs.drop (i * c)).take (List.replicate m ks).flatten.length)
  | 0, i, _ => by simp [Fits]
  | m + 1, i, h => by
    have e1 := h i (Nat.le_refl _) (by omega)
    have e2 := rep_fits (n := n) (e := e) hc m (i + 1) fun j h1 h2 => h j (by omega) (by omega)
    rw [List.replicate_succ, List.flatten_cons, List.length_append, List.take_add, ← hc]
    rw [Nat.succ_mul, ← List.drop_drop] at e2
    exact e1.append e2
theorem leaves_fits : ∀ (f : Nat) (t : TypeId) (ks : List Leaf) (fuel : Nat) (cs : List Value) (x : DataW H × List MemPlace), leaves P f t = some ks → DataW.trod enc P w base spare held fuel t cs = some x → Fits ks cs
  | 0, _, _, _, _, _, h, _ => by simp [leaves] at h
  | f + 1, t, ks, fuel, cs, x, h, hx => by
    simp only [leaves] at h
    split at h
    · rename_i k ht
      simp only [Option.some.injEq] at h
      subst h
      obtain ⟨n, rfl, _, hw⟩ := DataW.trod_int ht hx
      exact ⟨⟨n, rfl, hw⟩, trivial⟩
    · rename_i ht
      simp only [Option.some.injEq] at h
      subst h
      obtain ⟨b, rfl, _⟩ := DataW.trod_bool ht hx
      exact ⟨⟨b, rfl⟩, trivial⟩
    · rename_i fs ht
      split at h
      · rename_i ks' h1
        split at h
        · rename_i hc
          simp only [Option.some.injEq] at h
          subst h
          obtain ⟨xs, n, _, _, hlen, hxl, hf⟩ := DataW.trod_struct ht hx
          have e := leavesF_fits (cs := cs) (n := n) (fun t ks vs x h1 h2 => leaves_fits f t ks n vs x h1 h2) _ _ _ h1 fun g hg => by
            obtain ⟨i, hi, rfl⟩ := List.mem_iff_getElem.1 hg
            have hi' : i < fs.size := by simpa using hi
            have := hf i fs[i] (by simp [hi'])
            simp only [Array.getElem_toList]
            exact ⟨xs[i], by rw [this]; simp⟩
          rw [List.drop_zero, List.take_of_length_le (by omega)] at e
          exact e
        · cases h
      · cases h
    · rename_i m e ht
      split at h
      · rename_i ks' h1
        split at h
        · rename_i hc
          simp only [Option.some.injEq] at h
          subst h
          obtain ⟨xs, n, _, _, hlen, hxl, hf⟩ := DataW.trod_array ht hx
          have e := rep_fits (n := n) (e := e) (ks := ks') (cs := cs) hc.1 m 0 fun j _ hj => by
            have := hf j (by omega)
            have hj' : j < xs.length := by omega
            exact leaves_fits f e ks' n _ xs[j] h1 (by rw [this]; simp)
          rw [Nat.zero_mul, List.drop_zero, List.take_of_length_le (by omega)] at e
          exact e
        · cases h
      · cases h
    · cases h

/-- A slice of flat things that came in: what its elements hold, cell for cell. -/
def IsFlat (ks : List Leaf) (w : World) (a : Option Addr) (len cap : Nat) : Prop :=
  (a = none ∧ len = 0 ∧ cap = 0) ∨
  ∃ x, a = some x ∧ len ≤ cap ∧ cap ≤ maxLen ∧ ∀ i, i < len → ∃ vs, Fits ks vs ∧ ∀ j, j < ks.length → w.cell? (x.add (i * ks.length + j)) = vs[j]?
theorem addr_add (a : Addr) (i j : Nat) : (a.add i).add j = a.add (i + j) := by
  by_cases hi : i = 0 <;> by_cases hj : j = 0 <;> simp [Addr.add, Nat.add_assoc, hi, hj]
theorem isFlat_of {f : Nat} {t e : TypeId} {ks : List Leaf} {fuel : Nat} {A : Option Addr} {len cap : Nat} {x : DataW H × List MemPlace} (ht : P.underlying t = some (.slice e)) (hk : leaves P f e = some ks) (hc : P.cellsOf e = ks.length)
    (h : DataW.trod enc P w base spare held fuel t [.slice A len cap] = some x) : IsFlat ks w A len cap := by
  rcases Deep.open_slice ht h with ⟨h0, _⟩ | ⟨a, l, c, m, n, D, Pl, h0, hb, hl, hm, hmm, rfl, hx⟩
  · simp at h0
    exact .inl h0
  · simp only [List.cons.injEq, Value.slice.injEq, and_true] at h0
    obtain ⟨rfl, rfl, rfl⟩ := h0
    refine .inr ⟨a, rfl, hl, hm, fun i hi => ?_⟩
    obtain ⟨cs, h1, h2⟩ := hx i (by rw [hmm]; split <;> omega)
    obtain ⟨_, hlen, hcell⟩ := World.cells?_some h1
    refine ⟨cs, leaves_fits f e ks n cs _ hk h2, fun j hj => ?_⟩
    have := hcell j (by omega)
    rw [addr_add, hc] at this
    exact this
end Go.Proofs.YtebeknnjjoobnaaDoor
