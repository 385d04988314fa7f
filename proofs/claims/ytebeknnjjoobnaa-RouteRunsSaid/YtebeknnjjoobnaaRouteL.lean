/- Routes in a row; sorting them. -/
import Derived.Test.YtebeknnjjoobnaaRouteX
import Derived.Test.YtebeknnjjoobnaaFlatAt
import Derived.Laws.AppendOwn
set_option linter.unusedVariables false
set_option linter.unusedSimpArgs false
set_option maxRecDepth 100000
namespace Go.Proofs.Ytebeknnjjoobnaa
open Go.RowKit Go.Sort Go.Lib Go.Shelf Go.Proofs

abbrev Rt := Nt × Int
def zeroRt : Rt := ((0, 0, 0, 0, 0), 0)
def rtRow (x : Rt) : List Value := [.int .u8 x.1.1, .int .u8 x.1.2.1, .int .u8 x.1.2.2.1, .int .u8 x.1.2.2.2.1, .int .i64 x.1.2.2.2.2, .int .i64 x.2]
def rrows (l : List Rt) : List Value := (l.map rtRow).flatten
theorem rtRow_len (x : Rt) : (rtRow x).length = 6 := rfl
theorem rrows_cons (x : Rt) (l : List Rt) : rrows (x :: l) = rtRow x ++ rrows l := rfl
theorem rrows_len (l : List Rt) : (rrows l).length = l.length * 6 := by
  induction l with
  | nil => rfl
  | cons x l ih => rw [rrows_cons, List.length_append, ih, rtRow_len, List.length_cons]; omega
theorem rrows_snoc (l : List Rt) (x : Rt) : rrows (l ++ [x]) = rrows l ++ rtRow x := by
  unfold rrows
  rw [List.map_append, List.flatten_append]
  congr 1
theorem rrows_at : ∀ (l : List Rt) (i : Nat), i < l.length → ∀ j, j < 6 → (rrows l)[i * 6 + j]? = (rtRow (l.getD i zeroRt))[j]?
  | [], i, hi, _, _ => absurd hi (by simp)
  | x :: l, 0, _, j, hj => by
    rw [rrows_cons, List.getElem?_append_left (by rw [rtRow_len]; omega), Nat.zero_mul, Nat.zero_add]; rfl
  | x :: l, i + 1, hi, j, hj => by
    rw [rrows_cons, List.getElem?_append_right (by rw [rtRow_len]; omega), rtRow_len, show (i + 1) * 6 + j - 6 = i * 6 + j by omega, List.getD_cons_succ]
    exact rrows_at l i (by simpa using hi) j hj
theorem add_lit0 (g j : Nat) : (⟨g, 0, none⟩ : Addr).add j = ⟨g, j, none⟩ := by unfold Addr.add; split <;> simp_all
/-- A slice of routes. -/
def RtAt (w : World) (A : Option Addr) (l : List Rt) : Prop := ∀ i, i < l.length → ∃ x, A = some x ∧ RowAt w (x.add (i * 6)) (rtRow (l.getD i zeroRt))
theorem RtAt.below {w w1 : World} {A : Option Addr} {l : List Rt} (h : RtAt w A l) (hB : Below w.heap.size w w1) : RtAt w1 A l := fun i hi => by
  obtain ⟨x, h2, h3⟩ := h i hi
  exact ⟨x, h2, h3.far hB⟩
abbrev RtS := {x : Rt // NtOkT x.1}
instance : Inhabited RtS := ⟨⟨zeroRt, by unfold zeroRt NtOkT NtOk AdOk; simp⟩⟩
def encS (x : RtS) : List Value := rtRow x.1
def cfS (x y : RtS) : Int := cfK (keyR x.1) (keyR y.1)
theorem swoS : SWO (ltOf cfS) where
  irrefl x := by unfold ltOf cfS; rw [cfK_lt]; exact swoK.irrefl _
  trans x y z h1 h2 := by unfold ltOf cfS at *; rw [cfK_lt] at *; exact swoK.trans _ _ _ h1 h2
  ntrans x y z h1 h2 := by unfold ltOf cfS at *; rw [cfK_lt] at *; exact swoK.ntrans _ _ _ h1 h2
theorem holdsS {w : World} {g : Nat} {cur : Array Value} {e : TypeId} (hg : w.heap[g]? = some (.cells cur e (0, 0))) (d : Array RtS) (ht : cur.toList.take (d.size * 6) = rrows (d.toList.map (·.1))) : HoldsK encS 6 w g 0 d := fun t ht' => by
  rw [size_flatK] at ht'
  have hlen : d.size * 6 ≤ cur.size := by
    have := congrArg List.length ht
    rw [List.length_take, rrows_len, List.length_map, Array.length_toList, Array.length_toList] at this
    omega
  refine ⟨?_, by simp [World.frozen?, hg]⟩
  rw [get_flatK _ _ _ _ ht', Nat.zero_add, cell_of_row w g t cur e (0, 0) hg]
  have hi : t / 6 < d.size := by omega
  have h1 : cur[t]? = (rrows (d.toList.map (·.1)))[t / 6 * 6 + t % 6]? := by
    rw [show t / 6 * 6 + t % 6 = t by omega, ← ht, List.getElem?_take, if_pos ht']
    simp
  rw [h1, rrows_at _ (t / 6) (by simpa using hi) (t % 6) (by omega)]
  have h2 : (d.toList.map (·.1)).getD (t / 6) zeroRt = (d[t / 6]!).1 := by
    rw [List.getD_eq_getElem?_getD, List.getElem?_map, getElem!_pos d (t / 6) hi, Array.getElem?_toList, Array.getElem?_eq_getElem hi]
    rfl
  rw [h2]
  have h3 : t % 6 < (rtRow (d[t / 6]!).1).length := by rw [rtRow_len]; omega
  rw [List.getElem?_eq_getElem h3]
  show some _ = some ((rtRow (d[t / 6]!).1)[t % 6]!)
  rw [getElem!_pos (rtRow (d[t / 6]!).1) (t % 6) h3]
theorem rt_of_holds {w : World} {g : Nat} {d : Array RtS} (h : HoldsK encS 6 w g 0 d) : RtAt w (some ⟨g, 0, none⟩) (d.toList.map (·.1)) := fun i hi => by
  have hi' : i < d.size := by simpa using hi
  refine ⟨_, rfl, fun j hj => ?_⟩
  rw [rtRow_len] at hj
  have h2 : (d.toList.map (·.1)).getD i zeroRt = (d[i]!).1 := by
    rw [List.getD_eq_getElem?_getD, List.getElem?_map, getElem!_pos d i hi', Array.getElem?_toList, Array.getElem?_eq_getElem hi']
    rfl
  rw [h2, addr_add, add_lit0, show i * 6 + j = 0 + i * 6 + j by omega, (h.cell hi' hj).1]
  have h3 : j < (rtRow (d[i]!).1).length := by rw [rtRow_len]; omega
  rw [List.getElem?_eq_getElem h3]
  show some ((rtRow (d[i]!).1)[j]!) = some _
  rw [getElem!_pos (rtRow (d[i]!).1) j h3]
/-- The world behind a sort: the row's block has turned, new blocks lie. -/
theorem below_sort {w : World} {base g n : Nat} {d : Array RtS} {os : Array Obj} (hg : base ≤ g) (hb : base ≤ w.heap.size) : Below base w (sortWorldK encS 6 w g 0 n d os) := by
  refine ⟨rfl, rfl, rfl, ?_, fun i hi => ?_⟩
  · unfold sortWorldK putRowK grow
    simp
  · unfold sortWorldK putRowK putRow grow mapBlock
    show ((w.heap.modify g _) ++ os)[i]? = w.heap[i]?
    rw [Array.getElem?_append_left (by simp; omega), Array.getElem?_modify, if_neg (by omega)]
end Go.Proofs.Ytebeknnjjoobnaa
