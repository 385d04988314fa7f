/- The mathematics of sums by subscriber and period. -/
import Derived.Test.YtebeknnjjoobnaaDoorBiH
set_option linter.unusedVariables false
set_option linter.unusedSimpArgs false
namespace Go.Proofs.YtebeknnjjoobnaaDoor
open Go.RowKit

abbrev Sums := List (Ky × Rw)
def zeroV : Bv := (0, 0, 0, 0)
def getS (l : Sums) (k : Ky) : Rw := (mget l k).getD zeroRw
def newS (l : Sums) (x : Rw) : Rw := (x.1, addV zeroV (addV (getS l x.1).2 x.2))
def stepS (l : Sums) (x : Rw) : Sums := mput l x.1 (newS l x)
def sumsL (rows : List Rw) : Sums := rows.foldl stepS []
theorem sumsL_snoc (rows : List Rw) (x : Rw) : sumsL (rows ++ [x]) = stepS (sumsL rows) x := by unfold sumsL; rw [List.foldl_append]; rfl
/-- A key's sums in rows. -/
def tot (rows : List Rw) (k : Ky) : Bv := rows.foldl (fun v x => if x.1 = k then addV v x.2 else v) zeroV
theorem tot_snoc (rows : List Rw) (x : Rw) (k : Ky) : tot (rows ++ [x]) k = if x.1 = k then addV (tot rows k) x.2 else tot rows k := by unfold tot; rw [List.foldl_append]; rfl
theorem zeroV_ok : BvOk zeroV := ⟨⟨by decide, by decide⟩, ⟨by decide, by decide⟩, ⟨by decide, by decide⟩, by decide, by decide⟩
theorem satAdd_zero {a : Int} (h : U64 a) : satAdd 0 a = a := by
  obtain ⟨h1, h2⟩ := h
  unfold satAdd
  rw [if_pos (by omega)]; omega
theorem addV_zero {x : Bv} (h : BvOk x) : addV zeroV x = x := by
  obtain ⟨h1, h2, h3, h4⟩ := h
  unfold addV zeroV
  rw [satAdd_zero h1, satAdd_zero h2, satAdd_zero h3, satAdd_zero h4]
theorem rev_ind {α : Type} {p : List α → Prop} (h0 : p []) (h1 : ∀ l x, p l → p (l ++ [x])) : ∀ l, p l := fun l => by
  have h : ∀ n, p (l.take n) := fun n => by
    induction n with
    | zero => rw [List.take_zero]; exact h0
    | succ n ih =>
      rcases Nat.lt_or_ge n l.length with c | c
      · rw [List.take_add_one, List.getElem?_eq_getElem c]; exact h1 _ _ ih
      · rw [List.take_of_length_le (by omega)]; rw [List.take_of_length_le c] at ih; exact ih
  have := h l.length
  rwa [List.take_length] at this
theorem tot_ok {rows : List Rw} (k : Ky) : (∀ x ∈ rows, RwOk x) → BvOk (tot rows k) := by
  refine rev_ind (p := fun rows => (∀ x ∈ rows, RwOk x) → BvOk (tot rows k)) (fun _ => zeroV_ok) (fun l x ih h => ?_) rows
  have h1 := ih fun y hy => h y (by simp [hy])
  rw [tot_snoc]
  split
  · exact addV_ok h1 (h x (by simp)).2
  · exact h1
theorem tot_none {rows : List Rw} {k : Ky} : (∀ x ∈ rows, x.1 ≠ k) → tot rows k = zeroV := by
  refine rev_ind (p := fun rows => (∀ x ∈ rows, x.1 ≠ k) → tot rows k = zeroV) (fun _ => rfl) (fun l x ih h => ?_) rows
  rw [tot_snoc, if_neg (h x (by simp))]
  exact ih fun y hy => h y (by simp [hy])
theorem sums_get {rows : List Rw} : (∀ x ∈ rows, RwOk x) → ∀ k, ((∃ x ∈ rows, x.1 = k) → mget (sumsL rows) k = some (k, tot rows k)) ∧ ((∀ x ∈ rows, x.1 ≠ k) → mget (sumsL rows) k = none) := by
  refine rev_ind (p := fun rows => (∀ x ∈ rows, RwOk x) → ∀ k, ((∃ x ∈ rows, x.1 = k) → mget (sumsL rows) k = some (k, tot rows k)) ∧ ((∀ x ∈ rows, x.1 ≠ k) → mget (sumsL rows) k = none)) (fun _ k => ⟨fun ⟨x, hx, _⟩ => absurd hx (by simp), fun _ => rfl⟩) (fun l x ih h k => ?_) rows
  have ho : ∀ y ∈ l, RwOk y := fun y hy => h y (by simp [hy])
  have hx := h x (by simp)
  have hg : (getS (sumsL l) x.1).2 = tot l x.1 := by
    unfold getS
    by_cases e : ∃ y ∈ l, y.1 = x.1
    · rw [(ih ho x.1).1 e]; rfl
    · have e' : ∀ y ∈ l, y.1 ≠ x.1 := fun y hy c => e ⟨y, hy, c⟩
      rw [(ih ho x.1).2 e', tot_none e']; rfl
  have hnew : newS (sumsL l) x = (x.1, tot (l ++ [x]) x.1) := by
    unfold newS
    rw [hg, tot_snoc, if_pos rfl, addV_zero (addV_ok (tot_ok _ ho) hx.2)]
  rw [sumsL_snoc]
  unfold stepS
  rw [mget_put]
  by_cases e : k = x.1
  · subst e
    rw [if_pos rfl, hnew]
    exact ⟨fun _ => rfl, fun h => absurd rfl (h x (by simp))⟩
  · rw [if_neg e]
    constructor
    · rintro ⟨y, hy, he⟩
      have hy' : y ∈ l := by
        rcases List.mem_append.1 hy with c | c
        · exact c
        · obtain rfl : y = x := by simpa using c
          exact absurd he.symm e
      rw [(ih ho k).1 ⟨y, hy', he⟩, tot_snoc, if_neg (Ne.symm e)]
    · intro h'
      exact (ih ho k).2 fun y hy => h' y (by simp [hy])
theorem sums_len (rows : List Rw) : (sumsL rows).length ≤ rows.length := by
  refine rev_ind (p := fun rows => (sumsL rows).length ≤ rows.length) (Nat.le_refl _) (fun l x ih => ?_) rows
  rw [sumsL_snoc, List.length_append]
  unfold stepS
  rw [mput_len]
  split <;> simp <;> omega
/-- What a map of sums holds, but for empty ones. -/
def valsL (l : Sums) : List Rw := (l.map Prod.snd).filter fun x => !emptyV x.2
theorem valsL_snoc (l : Sums) (p : Ky × Rw) : valsL (l ++ [p]) = if emptyV p.2.2 then valsL l else valsL l ++ [p.2] := by
  unfold valsL
  rw [List.map_append, List.filter_append]
  cases h : emptyV p.2.2 with
  | true => simp [h]
  | false => simp [h]
theorem sums_mem {rows : List Rw} (h : ∀ x ∈ rows, RwOk x) (hn : ((sumsL rows).map Prod.fst).Nodup) {p : Ky × Rw} (hp : p ∈ sumsL rows) : p.2 = (p.1, tot rows p.1) ∧ ∃ x ∈ rows, x.1 = p.1 := by
  have hg := mget_of_mem hn hp
  by_cases e : ∃ x ∈ rows, x.1 = p.1
  · rw [(sums_get h p.1).1 e] at hg
    exact ⟨(Option.some.inj hg).symm, e⟩
  · rw [(sums_get h p.1).2 fun y hy c => e ⟨y, hy, c⟩] at hg
    cases hg
theorem vals_mem {rows : List Rw} (h : ∀ x ∈ rows, RwOk x) (hn : ((sumsL rows).map Prod.fst).Nodup) (x : Rw) : x ∈ valsL (sumsL rows) ↔ x.2 = tot rows x.1 ∧ x.2 ≠ zeroV := by
  unfold valsL
  rw [List.mem_filter, List.mem_map]
  constructor
  · rintro ⟨⟨p, hp, rfl⟩, h2⟩
    obtain ⟨h1, _⟩ := sums_mem h hn hp
    have e1 : p.2.1 = p.1 := by rw [h1]
    refine ⟨by rw [e1, h1], fun c => ?_⟩
    rw [c] at h2
    cases h2
  · rintro ⟨h1, h2⟩
    by_cases e : ∃ y ∈ rows, y.1 = x.1
    · have hg := (sums_get h x.1).1 e
      rw [← h1] at hg
      exact ⟨⟨_, mget_some_mem hg, rfl⟩, by unfold emptyV; simp; exact h2⟩
    · rw [tot_none fun y hy c => e ⟨y, hy, c⟩] at h1
      exact absurd h1 h2
theorem vals_ok {rows : List Rw} (h : ∀ x ∈ rows, RwOk x) (hn : ((sumsL rows).map Prod.fst).Nodup) : ∀ p ∈ sumsL rows, RwOk p.2 := fun p hp => by
  obtain ⟨h1, x, hx, h2⟩ := sums_mem h hn hp
  rw [h1]
  exact ⟨by rw [← h2]; exact (h x hx).1, tot_ok _ h⟩
theorem vals_len (l : Sums) : (valsL l).length ≤ l.length := by
  unfold valsL
  exact Nat.le_trans (List.length_filter_le _ _) (by simp)
theorem filter_map_nodup {α β : Type} (f : α → β) (p : α → Bool) (l : List α) (h : (l.map f).Nodup) : ((l.filter p).map f).Nodup := h.sublist (List.Sublist.map f (List.filter_sublist))
theorem vals_keys {rows : List Rw} (h : ∀ x ∈ rows, RwOk x) (hn : ((sumsL rows).map Prod.fst).Nodup) : ((valsL (sumsL rows)).map Prod.fst).Nodup := by
  unfold valsL
  refine filter_map_nodup _ _ _ ?_
  rw [List.map_map]
  have : (sumsL rows).map (Prod.fst ∘ Prod.snd) = (sumsL rows).map Prod.fst := List.map_congr_left fun p hp => by
    show p.2.1 = p.1
    rw [(sums_mem h hn hp).1]
  rw [this]
  exact hn
end Go.Proofs.YtebeknnjjoobnaaDoor
