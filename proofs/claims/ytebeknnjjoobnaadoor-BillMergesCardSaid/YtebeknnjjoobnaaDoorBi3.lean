/- The mathematics of rows put in order. -/
import Derived.Test.YtebeknnjjoobnaaDoorBi1
set_option linter.unusedVariables false
set_option linter.unusedSimpArgs false
namespace Go.Proofs.YtebeknnjjoobnaaDoor
open Go.RowKit

def putR (x : Rw) : List Rw → List Rw
  | [] => [x]
  | y :: ys => if ltR y x then y :: putR x ys else if y.1 = x.1 then (y.1, addV y.2 x.2) :: ys else x :: y :: ys
theorem ltR_ne {y x : Rw} (h : ltR y x = true) : y.1 ≠ x.1 := fun e => by
  unfold ltR at h
  rw [e, ltK_iff] at h
  omega
theorem ltR_tot {y x : Rw} (h : ltR y x = false) (hne : y.1 ≠ x.1) : ltR x y = true := by
  unfold ltR at *
  rw [ltK_no] at h
  rw [ltK_iff]
  rcases h with h | ⟨h1, h2⟩
  · exact .inl h
  · refine .inr ⟨h1.symm, ?_⟩
    rcases Int.lt_or_eq_of_le h2 with h3 | h3
    · exact h3
    · exact absurd (Prod.ext h1 h3.symm) hne
theorem tot_cons {z : Rw} {zs : List Rw} (h : AllOk (z :: zs)) (k : Ky) : tot (z :: zs) k = addV (if z.1 = k then z.2 else zeroV) (tot zs k) := by
  have h1 : AllOk [z] := fun y hy => h y (by simp at hy; simp [hy])
  have h2 : AllOk zs := fun y hy => h y (by simp [hy])
  have e : z :: zs = [z] ++ zs := rfl
  rw [e, tot_app h1 k h2]
  by_cases hk : z.1 = k
  · subst hk
    rw [if_pos rfl, tot_one z (h z (by simp))]
  · rw [if_neg hk, tot_none (rows := [z]) fun y hy => by
      obtain rfl : y = z := by simpa using hy
      exact hk]
theorem put_ok {x : Rw} (hx : RwOk x) : ∀ {l : List Rw}, AllOk l → AllOk (putR x l)
  | [], _ => fun y hy => by
    obtain rfl : y = x := by simpa [putR] using hy
    exact hx
  | z :: zs, h => fun y hy => by
    have hz := h z (by simp)
    have hzs : AllOk zs := fun y hy => h y (by simp [hy])
    unfold putR at hy
    split at hy
    · rcases List.mem_cons.1 hy with rfl | c
      · exact hz
      · exact put_ok hx hzs y c
    · split at hy
      · rcases List.mem_cons.1 hy with rfl | c
        · exact ⟨hz.1, addV_ok hz.2 hx.2⟩
        · exact hzs y c
      · rcases List.mem_cons.1 hy with rfl | c
        · exact hx
        · exact h y c
theorem put_mem {x : Rw} (hx : RwOk x) (y : Rw) : ∀ {l : List Rw}, Ordered l → AllOk l → (y ∈ putR x l ↔ (y.1 ≠ x.1 ∧ y ∈ l) ∨ (y.1 = x.1 ∧ y.2 = addV (tot l x.1) x.2))
  | [], _, _ => by
    show y ∈ [x] ↔ _
    rw [List.mem_singleton, show tot [] x.1 = zeroV from rfl, addV_zero hx.2]
    constructor
    · rintro rfl; exact .inr ⟨rfl, rfl⟩
    · rintro (⟨_, h⟩ | ⟨h1, h2⟩)
      · exact absurd h (by simp)
      · exact Prod.ext h1 h2
  | z :: zs, ho, h => by
    obtain ⟨o1, o2⟩ := List.pairwise_cons.1 ho
    have hz := h z (by simp)
    have hzs : AllOk zs := fun y hy => h y (by simp [hy])
    unfold putR
    split
    · rename_i hlt
      have hne := ltR_ne hlt
      rw [List.mem_cons, put_mem hx y o2 hzs, tot_cons h, if_neg hne, addV_zero (tot_ok _ hzs), List.mem_cons]
      constructor
      · rintro (rfl | ⟨h1, h2⟩ | h1)
        · exact .inl ⟨hne, .inl rfl⟩
        · exact .inl ⟨h1, .inr h2⟩
        · exact .inr h1
      · rintro (⟨h1, rfl | h2⟩ | h1)
        · exact .inl rfl
        · exact .inr (.inl ⟨h1, h2⟩)
        · exact .inr (.inr h1)
    · rename_i hlt
      have hlt2 : ltR z x = false := by simpa using hlt
      split
      · rename_i he
        have ht : tot (z :: zs) x.1 = z.2 := by rw [← he]; exact tot_mem ho h (by simp)
        rw [List.mem_cons, ht, List.mem_cons]
        constructor
        · rintro (rfl | h1)
          · exact .inr ⟨he, rfl⟩
          · refine .inl ⟨fun c => ?_, .inr h1⟩
            have := ltR_ne (o1 y h1)
            exact this (he.trans c.symm)
        · rintro (⟨h1, rfl | h2⟩ | ⟨h1, h2⟩)
          · exact absurd he h1
          · exact .inr h2
          · exact .inl (Prod.ext (h1.trans he.symm) h2)
      · rename_i hne
        have hxz := ltR_tot hlt2 hne
        have hall : ∀ u ∈ z :: zs, u.1 ≠ x.1 := fun u hu => by
          rcases List.mem_cons.1 hu with rfl | c
          · exact hne
          · exact fun e => ltR_ne (ltR_trans hxz (o1 u c)) e.symm
        rw [List.mem_cons, tot_none hall, addV_zero hx.2]
        constructor
        · rintro (rfl | h1)
          · exact .inr ⟨rfl, rfl⟩
          · exact .inl ⟨hall y h1, h1⟩
        · rintro (⟨_, h1⟩ | ⟨h1, h2⟩)
          · exact .inr h1
          · exact .inl (Prod.ext h1 h2)
theorem put_key {x y : Rw} : ∀ {l : List Rw}, y ∈ putR x l → y.1 = x.1 ∨ ∃ z ∈ l, z.1 = y.1
  | [], h => by
    obtain rfl : y = x := by simpa [putR] using h
    exact .inl rfl
  | z :: zs, h => by
    unfold putR at h
    split at h
    · rcases List.mem_cons.1 h with rfl | c
      · exact .inr ⟨y, by simp, rfl⟩
      · rcases put_key c with h1 | ⟨u, hu, he⟩
        · exact .inl h1
        · exact .inr ⟨u, by simp [hu], he⟩
    · split at h
      · rcases List.mem_cons.1 h with rfl | c
        · exact .inr ⟨z, by simp, rfl⟩
        · exact .inr ⟨y, by simp [c], rfl⟩
      · rcases List.mem_cons.1 h with rfl | c
        · exact .inl rfl
        · exact .inr ⟨y, c, rfl⟩
theorem ltR_keys {x y x' y' : Rw} (h : ltR x y = true) (e1 : x.1 = x'.1) (e2 : y.1 = y'.1) : ltR x' y' = true := by
  unfold ltR at *
  rwa [← e1, ← e2]
theorem put_ord {x : Rw} : ∀ {l : List Rw}, Ordered l → Ordered (putR x l)
  | [], _ => List.pairwise_singleton _ _
  | z :: zs, ho => by
    obtain ⟨o1, o2⟩ := List.pairwise_cons.1 ho
    unfold putR
    split
    · rename_i hlt
      refine List.pairwise_cons.2 ⟨fun u hu => ?_, put_ord o2⟩
      rcases put_key hu with h1 | ⟨v, hv, he⟩
      · exact ltR_keys hlt rfl h1.symm
      · exact ltR_keys (o1 v hv) rfl he
    · rename_i hlt
      have hlt2 : ltR z x = false := by simpa using hlt
      split
      · exact List.pairwise_cons.2 ⟨fun u hu => ltR_keys (o1 u hu) rfl rfl, o2⟩
      · rename_i hne
        have hxz := ltR_tot hlt2 hne
        refine List.pairwise_cons.2 ⟨fun u hu => ?_, ho⟩
        rcases List.mem_cons.1 hu with rfl | c
        · exact hxz
        · exact ltR_trans hxz (o1 u c)
/-- P is rows, put in order. -/
structure PutS (P rows : List Rw) : Prop where
  ord : Ordered P
  ok : AllOk P
  mem : ∀ y, y ∈ P ↔ (∃ r ∈ rows, r.1 = y.1) ∧ y.2 = tot rows y.1
theorem PutS.nil : PutS [] [] := ⟨List.Pairwise.nil, fun x hx => absurd hx (by simp), fun y => ⟨fun h => absurd h (by simp), fun ⟨⟨r, hr, _⟩, _⟩ => absurd hr (by simp)⟩⟩
theorem PutS.tot {P rows : List Rw} (h : PutS P rows) (hr : AllOk rows) (k : Ky) : tot P k = Go.Proofs.YtebeknnjjoobnaaDoor.tot rows k := by
  by_cases e : ∃ r ∈ rows, r.1 = k
  · have hm : (k, Go.Proofs.YtebeknnjjoobnaaDoor.tot rows k) ∈ P := (h.mem _).2 ⟨e, rfl⟩
    exact tot_mem h.ord h.ok hm
  · have e' : ∀ r ∈ rows, r.1 ≠ k := fun r hr c => e ⟨r, hr, c⟩
    rw [tot_none e', tot_none fun y hy c => ?_]
    obtain ⟨⟨r, hr, hk⟩, _⟩ := (h.mem y).1 hy
    exact e' r hr (hk.trans c)
theorem PutS.step {P rows : List Rw} (h : PutS P rows) (hr : AllOk rows) {x : Rw} (hx : RwOk x) : PutS (putR x P) (rows ++ [x]) := by
  refine ⟨put_ord h.ord, put_ok hx h.ok, fun y => ?_⟩
  rw [put_mem hx y h.ord h.ok, tot_snoc, h.tot hr]
  by_cases e : x.1 = y.1
  · rw [if_pos e, e]
    constructor
    · rintro (⟨h1, _⟩ | ⟨_, h2⟩)
      · exact absurd rfl h1
      · exact ⟨⟨x, by simp, e⟩, h2⟩
    · rintro ⟨_, h2⟩
      exact .inr ⟨rfl, h2⟩
  · rw [if_neg e, h.mem]
    constructor
    · rintro (⟨_, ⟨r, hr, hk⟩, h2⟩ | ⟨h1, _⟩)
      · exact ⟨⟨r, by simp [hr], hk⟩, h2⟩
      · exact absurd h1.symm e
    · rintro ⟨⟨r, hr, hk⟩, h2⟩
      refine .inl ⟨fun c => e c.symm, ⟨r, ?_, hk⟩, h2⟩
      rcases List.mem_append.1 hr with c | c
      · exact c
      · obtain rfl : r = x := by simpa using c
        exact absurd hk e
theorem put_len (x : Rw) : ∀ l : List Rw, (putR x l).length ≤ l.length + 1
  | [] => by simp [putR]
  | y :: ys => by
    unfold putR
    have := put_len x ys
    split
    · simp; omega
    · split <;> simp
theorem put_at {x : Rw} : ∀ (l : List Rw) (k : Nat), k ≤ l.length → (∀ j, j < k → ltR (l.getD j zeroRw) x = true) → putR x l = l.take k ++ putR x (l.drop k)
  | l, 0, _, _ => by simp
  | [], k + 1, h, _ => by simp at h
  | y :: ys, k + 1, h, hj => by
    have h0 : ltR y x = true := hj 0 (by omega)
    have := put_at ys k (by simpa using h) fun j hjk => by simpa using hj (j + 1) (by omega)
    rw [List.take_succ_cons, List.drop_succ_cons, List.cons_append, ← this]
    rw [putR, if_pos h0]
theorem drop_get (l : List Rw) (k : Nat) (h : k < l.length) : l.drop k = l.getD k zeroRw :: l.drop (k + 1) := by
  rw [List.drop_eq_getElem_cons h, List.getD_eq_getElem?_getD, List.getElem?_eq_getElem h]; rfl
theorem tot_pos {rows : List Rw} (k : Ky) : AllOk rows → (∀ x ∈ rows, x.2.1 = 1 ∨ x.2.2.2.1 = 1) → (∃ r ∈ rows, r.1 = k) → 1 ≤ (tot rows k).1 ∨ 1 ≤ (tot rows k).2.2.1 := by
  refine rev_ind (p := fun rows => AllOk rows → (∀ x ∈ rows, x.2.1 = 1 ∨ x.2.2.2.1 = 1) → (∃ r ∈ rows, r.1 = k) → 1 ≤ (tot rows k).1 ∨ 1 ≤ (tot rows k).2.2.1) (fun _ _ ⟨r, hr, _⟩ => absurd hr (by simp)) (fun l x ih ho h1 ⟨r, hr, hk⟩ => ?_) rows
  have hl : AllOk l := ho.left
  obtain ⟨⟨t1, t1'⟩, ⟨t2, t2'⟩, ⟨t3, t3'⟩, t4, t4'⟩ := tot_ok k hl
  obtain ⟨_, ⟨x1, x1'⟩, _, ⟨x3, x3'⟩, _⟩ := ho x (by simp)
  rw [tot_snoc]
  split
  · have := h1 x (by simp)
    unfold addV satAdd
    dsimp only
    rcases this with e | e
    · left; split <;> omega
    · right; split <;> omega
  · rename_i hne
    refine ih hl (fun y hy => h1 y (by simp [hy])) ⟨r, ?_, hk⟩
    rcases List.mem_append.1 hr with c | c
    · exact c
    · obtain rfl : r = x := by simpa using c
      exact absurd hk hne
theorem rows_one {ms : List Mo} : ∀ x ∈ (rowsL ms).1, x.2.1 = 1 ∨ x.2.2.2.1 = 1 := by
  refine rev_ind (p := fun ms => ∀ x ∈ (rowsL ms).1, x.2.1 = 1 ∨ x.2.2.2.1 = 1) (fun x hx => absurd hx (by simp [rowsL])) (fun l m ih => ?_) ms
  intro x hx
  rw [rowsL_snoc] at hx
  unfold rowsStep at hx
  dsimp only at hx
  split at hx
  · rcases List.mem_append.1 hx with c | c
    · exact ih x c
    · obtain rfl : x = rowOf m (rowsL l).2 := by simpa using c
      unfold rowOf
      dsimp only
      rcases rowV_cases m.tier m.nb with ⟨_, e⟩ | ⟨_, e⟩
      · left; rw [e]
      · right; rw [e]
  · exact ih x hx
theorem rows_same {d P : List Rw} {ms : List Mo} (hm : Mg d (rowsL ms).1) (hp : PutS P (rowsL ms).1) (ho : AllOk (rowsL ms).1) : d = P := by
  refine ordered_eq d P hm.ord hp.ord fun x => ?_
  rw [hm.mem, hp.mem]
  constructor
  · rintro ⟨h1, h2⟩
    refine ⟨?_, h1⟩
    by_cases e : ∃ r ∈ (rowsL ms).1, r.1 = x.1
    · exact e
    · rw [tot_none fun r hr c => e ⟨r, hr, c⟩] at h1
      exact absurd h1 h2
  · rintro ⟨h1, h2⟩
    refine ⟨h2, fun c => ?_⟩
    have := tot_pos x.1 ho rows_one h1
    rw [← h2, c] at this
    unfold zeroV at this
    dsimp only at this
    omega
end Go.Proofs.YtebeknnjjoobnaaDoor
