/- Rows in a row; sorting them. -/
import Derived.Test.YtebeknnjjoobnaaDoorBiD
import Derived.Laws.AppendOwn
set_option linter.unusedVariables false
set_option linter.unusedSimpArgs false
set_option maxRecDepth 100000
namespace Go.Proofs.YtebeknnjjoobnaaDoor
open Go.RowKit Go.Sort Go.Lib Go.Shelf Go.Proofs

def wrows (l : List Rw) : List Value := (l.map rwRow).flatten
theorem rwRow_len (x : Rw) : (rwRow x).length = 6 := rfl
theorem wrows_cons (x : Rw) (l : List Rw) : wrows (x :: l) = rwRow x ++ wrows l := rfl
theorem wrows_len (l : List Rw) : (wrows l).length = l.length * 6 := by
  induction l with
  | nil => rfl
  | cons x l ih => rw [wrows_cons, List.length_append, ih, rwRow_len, List.length_cons]; omega
theorem wrows_snoc (l : List Rw) (x : Rw) : wrows (l ++ [x]) = wrows l ++ rwRow x := by
  unfold wrows
  rw [List.map_append, List.flatten_append]
  congr 1
theorem wrows_at : ∀ (l : List Rw) (i : Nat), i < l.length → ∀ j, j < 6 → (wrows l)[i * 6 + j]? = (rwRow (l.getD i zeroRw))[j]?
  | [], i, hi, _, _ => absurd hi (by simp)
  | x :: l, 0, _, j, hj => by
    rw [wrows_cons, List.getElem?_append_left (by rw [rwRow_len]; omega), Nat.zero_mul, Nat.zero_add]; rfl
  | x :: l, i + 1, hi, j, hj => by
    rw [wrows_cons, List.getElem?_append_right (by rw [rwRow_len]; omega), rwRow_len, show (i + 1) * 6 + j - 6 = i * 6 + j by omega, List.getD_cons_succ]
    exact wrows_at l i (by simpa using hi) j hj
theorem add_lit0 (g j : Nat) : (⟨g, 0, none⟩ : Addr).add j = ⟨g, j, none⟩ := by unfold Addr.add; split <;> simp_all
abbrev RwS := {x : Rw // True}
instance : Inhabited RwS := ⟨⟨zeroRw, trivial⟩⟩
def encS (x : RwS) : List Value := rwRow x.1
def cfS (x y : RwS) : Int := cfK (x.1.1) (y.1.1)
theorem swoS : SWO (ltOf cfS) where
  irrefl x := by unfold ltOf cfS; rw [cfK_lt]; exact swoK.irrefl _
  trans x y z h1 h2 := by unfold ltOf cfS at *; rw [cfK_lt] at *; exact swoK.trans _ _ _ h1 h2
  ntrans x y z h1 h2 := by unfold ltOf cfS at *; rw [cfK_lt] at *; exact swoK.ntrans _ _ _ h1 h2
theorem holdsS {w : World} {g : Nat} {cur : Array Value} {e : TypeId} (hg : w.heap[g]? = some (.cells cur e (0, 0))) (d : Array RwS) (ht : cur.toList.take (d.size * 6) = wrows (d.toList.map (·.1))) : HoldsK encS 6 w g 0 d := fun t ht' => by
  rw [size_flatK] at ht'
  have hlen : d.size * 6 ≤ cur.size := by
    have := congrArg List.length ht
    rw [List.length_take, wrows_len, List.length_map, Array.length_toList, Array.length_toList] at this
    omega
  refine ⟨?_, by simp [World.frozen?, hg]⟩
  rw [get_flatK _ _ _ _ ht', Nat.zero_add, cell_of_row w g t cur e (0, 0) hg]
  have hi : t / 6 < d.size := by omega
  have h1 : cur[t]? = (wrows (d.toList.map (·.1)))[t / 6 * 6 + t % 6]? := by
    rw [show t / 6 * 6 + t % 6 = t by omega, ← ht, List.getElem?_take, if_pos ht']
    simp
  rw [h1, wrows_at _ (t / 6) (by simpa using hi) (t % 6) (by omega)]
  have h2 : (d.toList.map (·.1)).getD (t / 6) zeroRw = (d[t / 6]!).1 := by
    rw [List.getD_eq_getElem?_getD, List.getElem?_map, getElem!_pos d (t / 6) hi, Array.getElem?_toList, Array.getElem?_eq_getElem hi]
    rfl
  rw [h2]
  have h3 : t % 6 < (rwRow (d[t / 6]!).1).length := by rw [rwRow_len]; omega
  rw [List.getElem?_eq_getElem h3]
  show some _ = some ((rwRow (d[t / 6]!).1)[t % 6]!)
  rw [getElem!_pos (rwRow (d[t / 6]!).1) (t % 6) h3]
theorem rw_of_holds {w : World} {g : Nat} {d : Array RwS} (h : HoldsK encS 6 w g 0 d) : RwAt w (some ⟨g, 0, none⟩) (d.toList.map (·.1)) := fun i hi => by
  have hi' : i < d.size := by simpa using hi
  refine ⟨_, rfl, fun j hj => ?_⟩
  rw [rwRow_len] at hj
  have h2 : (d.toList.map (·.1)).getD i zeroRw = (d[i]!).1 := by
    rw [List.getD_eq_getElem?_getD, List.getElem?_map, getElem!_pos d i hi', Array.getElem?_toList, Array.getElem?_eq_getElem hi']
    rfl
  rw [h2, addr_add, add_lit0, show i * 6 + j = 0 + i * 6 + j by omega, (h.cell hi' hj).1]
  have h3 : j < (rwRow (d[i]!).1).length := by rw [rwRow_len]; omega
  rw [List.getElem?_eq_getElem h3]
  show some ((rwRow (d[i]!).1)[j]!) = some _
  rw [getElem!_pos (rwRow (d[i]!).1) j h3]
/-- The world behind a sort: the row's block has turned, new blocks lie. -/
theorem below_sort {w : World} {base g n : Nat} {d : Array RwS} {os : Array Obj} (hg : base ≤ g) (hb : base ≤ w.heap.size) : Below base w (sortWorldK encS 6 w g 0 n d os) := by
  refine ⟨rfl, rfl, rfl, ?_, fun i hi => ?_⟩
  · unfold sortWorldK putRowK grow
    simp
  · unfold sortWorldK putRowK putRow grow mapBlock
    show ((w.heap.modify g _) ++ os)[i]? = w.heap[i]?
    rw [Array.getElem?_append_left (by simp; omega), Array.getElem?_modify, if_neg (by omega)]
end Go.Proofs.YtebeknnjjoobnaaDoor
