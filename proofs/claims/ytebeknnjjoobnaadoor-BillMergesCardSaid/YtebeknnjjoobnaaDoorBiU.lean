/- The mathematics of merged rows. -/
import Derived.Test.YtebeknnjjoobnaaDoorBiS
set_option linter.unusedVariables false
set_option linter.unusedSimpArgs false
namespace Go.Proofs.YtebeknnjjoobnaaDoor
open Go.RowKit

theorem satAdd_assoc {a b c : Int} (ha : U64 a) (hb : U64 b) (hc : U64 c) : satAdd (satAdd a b) c = satAdd a (satAdd b c) := by
  obtain ⟨h1, h2⟩ := ha
  obtain ⟨h3, h4⟩ := hb
  obtain ⟨h5, h6⟩ := hc
  unfold satAdd
  split <;> split <;> split <;> (try split) <;> omega
theorem satAdd_comm (a b : Int) : satAdd a b = satAdd b a := by
  unfold satAdd
  rw [Int.add_comm]
theorem addV_assoc {a b c : Bv} (ha : BvOk a) (hb : BvOk b) (hc : BvOk c) : addV (addV a b) c = addV a (addV b c) := by
  obtain ⟨a1, a2, a3, a4⟩ := ha
  obtain ⟨b1, b2, b3, b4⟩ := hb
  obtain ⟨c1, c2, c3, c4⟩ := hc
  unfold addV
  dsimp only
  rw [satAdd_assoc a1 b1 c1, satAdd_assoc a2 b2 c2, satAdd_assoc a3 b3 c3, satAdd_assoc a4 b4 c4]
theorem addV_comm (a b : Bv) : addV a b = addV b a := by
  unfold addV
  rw [satAdd_comm a.1, satAdd_comm a.2.1, satAdd_comm a.2.2.1, satAdd_comm a.2.2.2]
theorem addV_zero' {x : Bv} (h : BvOk x) : addV x zeroV = x := by rw [addV_comm, addV_zero h]
def AllOk (l : List Rw) : Prop := ∀ x ∈ l, RwOk x
theorem AllOk.app {a b : List Rw} (ha : AllOk a) (hb : AllOk b) : AllOk (a ++ b) := fun x hx => (List.mem_append.1 hx).elim (ha x) (hb x)
theorem AllOk.left {a b : List Rw} (h : AllOk (a ++ b)) : AllOk a := fun x hx => h x (List.mem_append_left _ hx)
theorem AllOk.right {a b : List Rw} (h : AllOk (a ++ b)) : AllOk b := fun x hx => h x (List.mem_append_right _ hx)
theorem tot_app {xs ys : List Rw} (hx : AllOk xs) (k : Ky) : AllOk ys → tot (xs ++ ys) k = addV (tot xs k) (tot ys k) := by
  refine rev_ind (p := fun ys => AllOk ys → tot (xs ++ ys) k = addV (tot xs k) (tot ys k)) (fun _ => ?_) (fun l y ih h => ?_) ys
  · rw [List.append_nil]
    exact (addV_zero' (tot_ok k hx)).symm
  · have hl : AllOk l := h.left
    have hy := h y (by simp)
    rw [← List.append_assoc, tot_snoc, tot_snoc, ih hl]
    split
    · rw [addV_assoc (tot_ok k hx) (tot_ok k hl) hy.2]
    · rfl
theorem tot_one (x : Rw) (h : RwOk x) : tot [x] x.1 = x.2 := by
  unfold tot
  rw [List.foldl_cons, List.foldl_nil, if_pos rfl, addV_zero h.2]
/-- d is rows, merged. -/
structure Mg (d rows : List Rw) : Prop where
  ord : Ordered d
  mem : ∀ x, x ∈ d ↔ x.2 = tot rows x.1 ∧ x.2 ≠ zeroV
  ok : AllOk d
  len : d.length ≤ rows.length
theorem ord_keys {d s t : List Rw} {x : Rw} (h : Ordered d) (e : d = s ++ x :: t) : (∀ y ∈ s, y.1 ≠ x.1) ∧ ∀ y ∈ t, y.1 ≠ x.1 := by
  subst e
  unfold Ordered at h
  rw [List.pairwise_append, List.pairwise_cons] at h
  obtain ⟨_, ⟨h1, _⟩, h2⟩ := h
  constructor
  · intro y hy c
    have := h2 y hy x (by simp)
    unfold ltR at this
    rw [c, ltK_iff] at this
    omega
  · intro y hy c
    have := h1 y hy
    unfold ltR at this
    rw [c, ltK_iff] at this
    omega
theorem tot_mem {d : List Rw} (h : Ordered d) (ho : AllOk d) {x : Rw} (hx : x ∈ d) : tot d x.1 = x.2 := by
  obtain ⟨s, t, rfl⟩ := List.append_of_mem hx
  obtain ⟨h1, h2⟩ := ord_keys h rfl
  have e : s ++ x :: t = s ++ ([x] ++ t) := rfl
  have hxo := ho x (by simp)
  have hs : AllOk s := ho.left
  have ht : AllOk t := fun y hy => ho y (by simp [hy])
  have h1o : AllOk [x] := fun y hy => by
    obtain rfl : y = x := by simpa using hy
    exact hxo
  rw [e, tot_app hs x.1 (h1o.app ht), tot_app h1o x.1 ht, tot_none h1, tot_none h2, tot_one x hxo, addV_zero' hxo.2, addV_zero hxo.2]
theorem Mg.tot {d rows : List Rw} (h : Mg d rows) (k : Ky) : tot d k = Go.Proofs.YtebeknnjjoobnaaDoor.tot rows k := by
  by_cases e : ∃ x ∈ d, x.1 = k
  · obtain ⟨x, hx, rfl⟩ := e
    rw [tot_mem h.ord h.ok hx]
    exact ((h.mem x).1 hx).1
  · have h1 : ∀ x ∈ d, x.1 ≠ k := fun x hx c => e ⟨x, hx, c⟩
    rw [tot_none h1]
    by_cases hz : Go.Proofs.YtebeknnjjoobnaaDoor.tot rows k = zeroV
    · exact hz.symm
    · exact absurd rfl (h1 (k, Go.Proofs.YtebeknnjjoobnaaDoor.tot rows k) ((h.mem _).2 ⟨rfl, hz⟩))
theorem Mg.same {d d' rows rows' : List Rw} (h : Mg d rows) (h' : Mg d' rows') (e : ∀ k, Go.Proofs.YtebeknnjjoobnaaDoor.tot rows k = Go.Proofs.YtebeknnjjoobnaaDoor.tot rows' k) : d = d' :=
  ordered_eq d d' h.ord h'.ord fun x => by rw [h.mem, h'.mem, e]
theorem parts_same {a b c dab dbc l l2 l3 : List Rw} (ha : AllOk a) (hb : AllOk b) (hc : AllOk c) (h1 : Mg dab (a ++ b)) (h2 : Mg l (dab ++ c)) (h3 : Mg dbc (b ++ c)) (h4 : Mg l2 (a ++ dbc)) (h5 : Mg l3 (c ++ (b ++ a))) : l = l2 ∧ l = l3 := by
  have e1 : ∀ k, tot (dab ++ c) k = addV (addV (tot a k) (tot b k)) (tot c k) := fun k => by rw [tot_app h1.ok k hc, h1.tot, tot_app ha k hb]
  have e2 : ∀ k, tot (a ++ dbc) k = addV (tot a k) (addV (tot b k) (tot c k)) := fun k => by rw [tot_app ha k h3.ok, h3.tot, tot_app hb k hc]
  have e3 : ∀ k, tot (c ++ (b ++ a)) k = addV (tot c k) (addV (tot b k) (tot a k)) := fun k => by rw [tot_app hc k (hb.app ha), tot_app hb k ha]
  refine ⟨h2.same h4 fun k => ?_, h2.same h5 fun k => ?_⟩
  · rw [e1, e2, addV_assoc (tot_ok k ha) (tot_ok k hb) (tot_ok k hc)]
  · rw [e1, e3, addV_comm (addV (tot a k) (tot b k)), addV_comm (tot a k)]
theorem merge_mg (A B : Option Addr) (ca cb : Nat) (a b : List Rw) (w : World) (hA : RwAt w A a) (hB : RwAt w B b) (hao : AllOk a) (hbo : AllOk b) (ha : a.length ≤ 400) (hb : b.length ≤ 400) :
    Calls Tryd.prog 13 #[.slice A a.length ca, .slice B b.length cb] w fun e w' => ∃ (D : Option Addr) (c : Nat) (d : List Rw), e = .returned (.slice D d.length c) ∧ RwAt w' D d ∧ Mg d (a ++ b) ∧ Below w.heap.size w w' :=
  (merge_any A B ca cb a b w hA hB hao hbo ha hb).mono fun e w' ⟨D, c, d, h1, h2, h3, h4, h5, h6, h7⟩ => ⟨D, c, d, h1, h2, ⟨h3, h4, h5, h6⟩, h7⟩
theorem same_at (A B : Option Addr) (c d : Nat) (ps qs : List Rw) (w : World) (he : ps = qs) (hp : RwAt w A ps) (hq : RwAt w B qs) (hqo : AllOk qs) (hm : qs.length ≤ 1000) :
    Calls Tryd.prog 10 #[.slice A ps.length c, .slice B qs.length d] w fun e w' => e = .returned (.bool true) ∧ Below w.heap.size w w' := by
  have h := same_any A B c d ps qs w hp hq (by rw [he]; exact hqo) hqo (by rw [he]; exact hm)
  rw [decide_eq_true he] at h
  exact h
/-- The rows of a slice that came in. -/
theorem rws_of {w : World} {A : Option Addr} {len cap : Nat} (h : IsFlat rwLeaves w A len cap) : ∃ l : List Rw, len = l.length ∧ RwAt w A l ∧ AllOk l := by
  obtain ⟨l, hl, hp⟩ := list_choose zeroRw (fun i x => RwOk x ∧ ∃ ad, A = some ad ∧ RowAt w (ad.add (i * 6)) (rwRow x)) len fun i hi => by
    obtain ⟨x, vs, rfl, hf, hr⟩ := flat_row h hi
    obtain ⟨n0, us, rfl, w0, hf⟩ := ff_i hf
    obtain ⟨n1, us, rfl, w1, hf⟩ := ff_i hf
    obtain ⟨n2, us, rfl, w2, hf⟩ := ff_i hf
    obtain ⟨n3, us, rfl, w3, hf⟩ := ff_i hf
    obtain ⟨n4, us, rfl, w4, hf⟩ := ff_i hf
    obtain ⟨n5, us, rfl, w5, hf⟩ := ff_i hf
    obtain rfl := ff_nil hf
    exact ⟨((n0, n1), (n2, n3, n4, n5)), ⟨⟨bounds_i64 w0, bounds_u64 w1⟩, bounds_u64 w2, bounds_u64 w3, bounds_u64 w4, bounds_u64 w5⟩, x, rfl, hr⟩
  refine ⟨l, hl.symm, fun i hi => (hp i (by omega)).2, fun x hx => ?_⟩
  obtain ⟨i, hi, rfl⟩ := List.mem_iff_getElem.1 hx
  have := (hp i (by omega)).1
  rwa [List.getD_eq_getElem?_getD, List.getElem?_eq_getElem hi] at this
end Go.Proofs.YtebeknnjjoobnaaDoor
