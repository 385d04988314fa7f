/- The mathematics of routes in order. -/
import Derived.Test.YtebeknnjjoobnaaRoute2
import Derived.Shelf.SlSortCmp.InsertionK
set_option linter.unusedVariables false
set_option linter.unusedSimpArgs false
namespace Go.Proofs.Ytebeknnjjoobnaa
open Go.RowKit Go.Sort

/-- A route's place in the order. -/
def keyR (x : Nt × Int) : Int × Int := (numA x.1.1 x.1.2.1 x.1.2.2.1 x.1.2.2.2.1, x.1.2.2.2.2)
def ltK (a b : Int × Int) : Bool := decide (a.1 < b.1) || (decide (a.1 = b.1) && decide (a.2 < b.2))
def ltR (x y : Nt × Int) : Bool := ltK (keyR x) (keyR y)
def cmpI (a b : Int) : Int := if a < b then -1 else if b < a then 1 else 0
def cfK (a b : Int × Int) : Int := if cmpI a.1 b.1 ≠ 0 then cmpI a.1 b.1 else cmpI a.2 b.2
theorem cfK_lt (a b : Int × Int) : decide (cfK a b < 0) = ltK a b := by
  obtain ⟨a1, a2⟩ := a
  obtain ⟨b1, b2⟩ := b
  unfold cfK ltK cmpI
  dsimp only
  by_cases h1 : a1 < b1
  · simp [h1]
  · by_cases h2 : b1 < a1
    · simp [h1, h2]; omega
    · have : a1 = b1 := by omega
      subst this
      by_cases h3 : a2 < b2
      · simp [h3]
      · by_cases h4 : b2 < a2 <;> simp [h3, h4]
theorem ltK_iff (a b : Int × Int) : ltK a b = true ↔ a.1 < b.1 ∨ (a.1 = b.1 ∧ a.2 < b.2) := by unfold ltK; simp
theorem ltK_no (a b : Int × Int) : ltK a b = false ↔ b.1 < a.1 ∨ (a.1 = b.1 ∧ b.2 ≤ a.2) := by
  rw [← Bool.not_eq_true, ltK_iff]
  constructor <;> intro h <;> omega
theorem swoK : SWO ltK where
  irrefl x := by rw [ltK_no]; omega
  trans x y z h1 h2 := by rw [ltK_iff] at *; omega
  ntrans x y z h1 h2 := by rw [ltK_no] at *; omega
/-- In order, each key once. -/
def Ordered (l : List (Nt × Int)) : Prop := l.Pairwise fun x y => ltR x y = true
theorem ltR_irrefl (x : Nt × Int) : ltR x x = false := swoK.irrefl _
theorem ltR_trans {x y z : Nt × Int} (h : ltR x y = true) (h' : ltR y z = true) : ltR x z = true := swoK.trans _ _ _ h h'
theorem ordered_eq : ∀ (a b : List (Nt × Int)), Ordered a → Ordered b → (∀ x, x ∈ a ↔ x ∈ b) → a = b
  | [], [], _, _, _ => rfl
  | [], y :: b, _, _, h => absurd ((h y).2 (List.mem_cons_self ..)) (by simp)
  | x :: a, [], _, _, h => absurd ((h x).1 (List.mem_cons_self ..)) (by simp)
  | x :: a, y :: b, ha, hb, h => by
    obtain ⟨ha1, ha2⟩ := List.pairwise_cons.1 ha
    obtain ⟨hb1, hb2⟩ := List.pairwise_cons.1 hb
    have hxy : x = y := by
      rcases List.mem_cons.1 ((h x).1 (List.mem_cons_self ..)) with e | e
      · exact e
      · rcases List.mem_cons.1 ((h y).2 (List.mem_cons_self ..)) with e' | e'
        · exact e'.symm
        · have h1 := ltR_trans (hb1 x e) (ha1 y e')
          rw [ltR_irrefl] at h1
          cases h1
    subst hxy
    rw [ordered_eq a b ha2 hb2 (fun z => ⟨fun hz => ?_, fun hz => ?_⟩)]
    · rcases List.mem_cons.1 ((h z).1 (List.mem_cons_of_mem _ hz)) with e | e
      · subst e
        have := ha1 z hz
        rw [ltR_irrefl] at this
        cases this
      · exact e
    · rcases List.mem_cons.1 ((h z).2 (List.mem_cons_of_mem _ hz)) with e | e
      · subst e
        have := hb1 z hz
        rw [ltR_irrefl] at this
        cases this
      · exact e
theorem num_inj {a b c d a' b' c' d' : Int} (h : AdOk a b c d) (h' : AdOk a' b' c' d') (e : numA a b c d = numA a' b' c' d') : a = a' ∧ b = b' ∧ c = c' ∧ d = d' := by
  obtain ⟨h1, h2, h3, h4⟩ := h
  obtain ⟨h5, h6, h7, h8⟩ := h'
  unfold numA at e
  omega
theorem key_inj {x y : Nt × Int} (hx : NtOkT x.1) (hy : NtOkT y.1) (e : keyR x = keyR y) : x.1 = y.1 := by
  obtain ⟨⟨a, b, c, d, n⟩, v⟩ := x
  obtain ⟨⟨a', b', c', d', n'⟩, v'⟩ := y
  unfold keyR at e
  simp only [Prod.mk.injEq] at e
  obtain ⟨h1, h2, h3, h4⟩ := num_inj hx.1 hy.1 e.1
  simp only [Prod.mk.injEq]
  exact ⟨h1, h2, h3, h4, e.2⟩
end Go.Proofs.Ytebeknnjjoobnaa
