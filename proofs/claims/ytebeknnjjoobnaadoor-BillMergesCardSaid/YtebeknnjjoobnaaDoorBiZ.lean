/- The mathematics of all rows' sums. -/
import Derived.Test.YtebeknnjjoobnaaDoorBiU
set_option linter.unusedVariables false
set_option linter.unusedSimpArgs false
namespace Go.Proofs.YtebeknnjjoobnaaDoor
open Go.RowKit

def sumK (f : Ky → Bv) (K : List Ky) : Bv := K.foldr (fun k s => addV (f k) s) zeroV
theorem sumK_ok {f : Ky → Bv} (h : ∀ k, BvOk (f k)) : ∀ K, BvOk (sumK f K)
  | [] => zeroV_ok
  | k :: K => addV_ok (h k) (sumK_ok h K)
theorem sumK_same {f g : Ky → Bv} : ∀ {K : List Ky}, (∀ k ∈ K, f k = g k) → sumK f K = sumK g K
  | [], _ => rfl
  | k :: K, h => by
    show addV (f k) (sumK f K) = addV (g k) (sumK g K)
    rw [h k (by simp), sumK_same fun j hj => h j (by simp [hj])]
theorem sumK_upd {f g : Ky → Bv} {a : Ky} {v : Bv} (hf : ∀ k, BvOk (f k)) (hv : BvOk v) (ha : g a = addV (f a) v) (hn : ∀ k, k ≠ a → g k = f k) : ∀ {K : List Ky}, K.Nodup → a ∈ K → sumK g K = addV (sumK f K) v
  | [], _, h => absurd h (by simp)
  | k :: K, hnd, h => by
    obtain ⟨h1, h2⟩ := List.nodup_cons.1 hnd
    show addV (g k) (sumK g K) = addV (addV (f k) (sumK f K)) v
    by_cases e : k = a
    · subst e
      rw [ha, sumK_same (f := g) (g := f) fun j hj => hn j fun c => h1 (by rw [← c]; exact hj), addV_assoc (hf k) hv (sumK_ok hf K), addV_comm v, ← addV_assoc (hf k) (sumK_ok hf K) hv]
    · have hK : a ∈ K := by
        rcases List.mem_cons.1 h with c | c
        · exact absurd c.symm e
        · exact c
      rw [hn k e, sumK_upd hf hv ha hn h2 hK, addV_assoc (hf k) (sumK_ok hf K) hv]
theorem sumK_zero (K : List Ky) : sumK (fun _ => zeroV) K = zeroV := by
  induction K with
  | nil => rfl
  | cons k K ih =>
    show addV zeroV (sumK (fun _ => zeroV) K) = zeroV
    rw [ih, addV_zero zeroV_ok]
theorem totA_sum {K : List Ky} (hK : K.Nodup) : ∀ {rows : List Rw}, AllOk rows → (∀ x ∈ rows, x.1 ∈ K) → totA rows = sumK (tot rows) K := by
  intro rows
  refine rev_ind (p := fun rows => AllOk rows → (∀ x ∈ rows, x.1 ∈ K) → totA rows = sumK (tot rows) K) (fun _ _ => (sumK_zero K).symm) (fun l x ih h hk => ?_) rows
  have hl : AllOk l := h.left
  rw [totA_snoc, ih hl fun y hy => hk y (by simp [hy])]
  exact (sumK_upd (fun k => tot_ok k hl) (h x (by simp)).2 (by rw [tot_snoc, if_pos rfl]) (fun k e => by rw [tot_snoc, if_neg (Ne.symm e)]) hK (hk x (by simp))).symm
theorem keys_of (rows : List Rw) : ∃ K : List Ky, K.Nodup ∧ ∀ x ∈ rows, x.1 ∈ K := by
  refine rev_ind (p := fun rows => ∃ K : List Ky, K.Nodup ∧ ∀ x ∈ rows, x.1 ∈ K) ⟨[], List.nodup_nil, fun x hx => absurd hx (by simp)⟩ (fun l x ih => ?_) rows
  obtain ⟨K, h1, h2⟩ := ih
  by_cases e : x.1 ∈ K
  · refine ⟨K, h1, fun y hy => ?_⟩
    rcases List.mem_append.1 hy with c | c
    · exact h2 y c
    · obtain rfl : y = x := by simpa using c
      exact e
  · refine ⟨x.1 :: K, List.nodup_cons.2 ⟨e, h1⟩, fun y hy => ?_⟩
    rcases List.mem_append.1 hy with c | c
    · exact List.mem_cons_of_mem _ (h2 y c)
    · obtain rfl : y = x := by simpa using c
      exact List.mem_cons_self ..
theorem Mg.totA {d rows : List Rw} (h : Mg d rows) (ho : AllOk rows) : totA d = Go.Proofs.YtebeknnjjoobnaaDoor.totA rows := by
  obtain ⟨K, h1, h2⟩ := keys_of rows
  have hd : ∀ x ∈ d, x.1 ∈ K := fun x hx => by
    obtain ⟨e1, e2⟩ := (h.mem x).1 hx
    by_cases e : ∃ y ∈ rows, y.1 = x.1
    · obtain ⟨y, hy, e⟩ := e
      rw [← e]; exact h2 y hy
    · rw [tot_none fun y hy c => e ⟨y, hy, c⟩] at e1
      exact absurd e1 e2
  rw [totA_sum h1 h.ok hd, totA_sum h1 ho h2]
  exact sumK_same fun k _ => h.tot k
theorem totA_app {xs ys : List Rw} (hx : AllOk xs) : AllOk ys → totA (xs ++ ys) = addV (totA xs) (totA ys) := by
  refine rev_ind (p := fun ys => AllOk ys → totA (xs ++ ys) = addV (totA xs) (totA ys)) (fun _ => ?_) (fun l y ih h => ?_) ys
  · rw [List.append_nil]
    exact (addV_zero' (totA_ok hx)).symm
  · have hl : AllOk l := h.left
    rw [← List.append_assoc, totA_snoc, totA_snoc, ih hl, addV_assoc (totA_ok hx) (totA_ok hl) (h y (by simp)).2]
/-- The sums of a history's packets. -/
def wantStep (v : Bv) (m : Mo) : Bv := if sentB m then (if m.tier = 1 then (v.1 + 1, v.2.1 + m.nb, v.2.2.1, v.2.2.2) else (v.1, v.2.1, v.2.2.1 + 1, v.2.2.2 + m.nb)) else v
def wantV (ms : List Mo) : Bv := ms.foldl wantStep zeroV
theorem wantV_snoc (ms : List Mo) (m : Mo) : wantV (ms ++ [m]) = wantStep (wantV ms) m := by unfold wantV; rw [List.foldl_append]; rfl
theorem want_le (ms : List Mo) : (∀ m ∈ ms, m.nb ≤ 5000) → (0 ≤ (wantV ms).1 ∧ (wantV ms).1 ≤ ms.length) ∧ (0 ≤ (wantV ms).2.1 ∧ (wantV ms).2.1 ≤ ms.length * 5000) ∧ (0 ≤ (wantV ms).2.2.1 ∧ (wantV ms).2.2.1 ≤ ms.length) ∧ 0 ≤ (wantV ms).2.2.2 ∧ (wantV ms).2.2.2 ≤ ms.length * 5000 := by
  refine rev_ind (p := fun ms => (∀ m ∈ ms, m.nb ≤ 5000) → (0 ≤ (wantV ms).1 ∧ (wantV ms).1 ≤ ms.length) ∧ (0 ≤ (wantV ms).2.1 ∧ (wantV ms).2.1 ≤ ms.length * 5000) ∧ (0 ≤ (wantV ms).2.2.1 ∧ (wantV ms).2.2.1 ≤ ms.length) ∧ 0 ≤ (wantV ms).2.2.2 ∧ (wantV ms).2.2.2 ≤ ms.length * 5000) (fun _ => by unfold wantV zeroV; simp) (fun l m ih h => ?_) ms
  have h1 := ih fun y hy => h y (by simp [hy])
  have h2 := h m (by simp)
  rw [wantV_snoc, List.length_append]
  unfold wantStep
  simp only [List.length_cons, List.length_nil]
  split
  · split <;> dsimp only <;> omega
  · omega
theorem want_tot (ms : List Mo) : (∀ m ∈ ms, m.nb ≤ 5000) → ms.length ≤ 300 → totA (rowsL ms).1 = wantV ms := by
  refine rev_ind (p := fun ms => (∀ m ∈ ms, m.nb ≤ 5000) → ms.length ≤ 300 → totA (rowsL ms).1 = wantV ms) (fun _ _ => rfl) (fun l m ih h hl => ?_) ms
  have hb : ∀ y ∈ l, y.nb ≤ 5000 := fun y hy => h y (by simp [hy])
  rw [List.length_append] at hl
  simp only [List.length_cons, List.length_nil] at hl
  have h1 := ih hb (by omega)
  have h2 := want_le l hb
  have h3 := h m (by simp)
  rw [rowsL_snoc, wantV_snoc]
  unfold rowsStep wantStep
  dsimp only
  cases hs : sentB m with
  | false => simp only [Bool.false_eq_true, if_false]; exact h1
  | true =>
    simp only [if_true]
    rw [totA_snoc, h1]
    show addV (wantV l) (rowV m.tier m.nb) = _
    unfold addV satAdd
    rcases rowV_cases m.tier m.nb with ⟨e, e2⟩ | ⟨e, e2⟩
    · rw [e2, if_pos e]
      dsimp only
      rw [if_pos (by omega), if_pos (by omega), if_pos (by omega), if_pos (by omega), Int.add_zero, Int.add_zero]
    · rw [e2, if_neg e]
      dsimp only
      rw [if_pos (by omega), if_pos (by omega), if_pos (by omega), if_pos (by omega), Int.add_zero, Int.add_zero]
end Go.Proofs.YtebeknnjjoobnaaDoor
