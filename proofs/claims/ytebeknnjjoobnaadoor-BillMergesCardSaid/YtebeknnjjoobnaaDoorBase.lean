/- Small words on worlds: what lies below a mark stays; a block of cells that is known whole. -/
import Derived.Test.YtebeknnjjoobnaaDoorProg
import Derived.WalkKit
import Derived.ProofKit
import Derived.WalkLawsBesides
import Derived.WalkSpells
import Derived.Lib.Hide
import Derived.Below
import Derived.Deep.QuietTactic
import Derived.BigQuiet
set_option linter.unusedVariables false
set_option linter.unusedSimpArgs false
namespace Go.Proofs.YtebeknnjjoobnaaDoor
open Go.RowKit

theorem max2_int (k k' : IntKind) (x y : Int) : Builtin.max2 (.int k x) (.int k' y) = pure (.int k (if x < y then y else x)) := by simp only [Builtin.max2, gt_iff_lt]
theorem min2_int (k k' : IntKind) (x y : Int) : Builtin.min2 (.int k x) (.int k' y) = pure (.int k (if y < x then y else x)) := by simp only [Builtin.min2]
theorem max_two (ats : Array TypeId) (ty : TypeId) (a b : Value) : Builtin.max_ ats ty #[a, b] = (Builtin.max2 a b >>= fun s => pure s) := by simp only [Builtin.max_, List.foldlM_cons, List.foldlM_nil]
theorem min_two (ats : Array TypeId) (ty : TypeId) (a b : Value) : Builtin.min_ ats ty #[a, b] = (Builtin.min2 a b >>= fun s => pure s) := by simp only [Builtin.min_, List.foldlM_cons, List.foldlM_nil]

theorem ret_u64 {a b : Int} (h : a = b) : Ending.returned (.int .u64 a) = .returned (.int .u64 b) := by rw [h]
theorem ret_i64 {a b : Int} (h : a = b) : Ending.returned (.int .i64 a) = .returned (.int .i64 b) := by rw [h]
theorem ret_bool {a b : Bool} (h : a = b) : Ending.returned (.bool a) = .returned (.bool b) := by rw [h]
theorem ret_ib {a b : Int} {c d : Bool} (h : a = b) (h' : c = d) : Ending.returned (.tuple #[.int .i64 a, .bool c]) = .returned (.tuple #[.int .i64 b, .bool d]) := by rw [h, h']
theorem ret_ub {a b : Int} {c d : Bool} (h : a = b) (h' : c = d) : Ending.returned (.tuple #[.int .u64 a, .bool c]) = .returned (.tuple #[.int .u64 b, .bool d]) := by rw [h, h']

theorem bl_alloc {w W : World} (h : Below w.heap.size w W) (o : Obj) : Below w.heap.size w (W.alloc o) := h.alloc h.size o
theorem bl_drew {B : Nat} {w W : World} (h : Below B w W) : Below B w W.drew := ⟨h.os, h.tape, h.output, h.size, h.block⟩
theorem bl_drewN {B : Nat} {w W : World} (h : Below B w W) (n : Nat) : Below B w (W.drewN n) := ⟨h.os, h.tape, h.output, h.size, h.block⟩
theorem bl_set {B : Nat} {w W : World} {p : Addr} (h : Below B w W) (hp : B ≤ p.block) (u : Value) : Below B w (W.setCell p u) := h.setCell hp u
theorem bl_then {w w1 w2 : World} (h : Below w.heap.size w w1) (k : Below w1.heap.size w1 w2) : Below w.heap.size w w2 := h.trans (k.mono h.size)
theorem bl_cells {w w1 : World} (hb : Below w.heap.size w w1) : (∀ b o, b < w.heap.size → w1.cell? ⟨b, o, none⟩ = w.cell? ⟨b, o, none⟩) ∧ (∀ b o, b < w.heap.size → w1.frozen? ⟨b, o, none⟩ = w.frozen? ⟨b, o, none⟩) :=
  ⟨fun b o h => hb.cell (p := ⟨b, o, none⟩) h, fun b o h => hb.frozen (p := ⟨b, o, none⟩) h⟩

/-- Block g of w is a plain row of cells. -/
def Bk (w : World) (g : Nat) (cs : Array Value) (t : TypeId) : Prop := w.heap[g]? = some (.cells cs t (0, 0))
theorem bk_lt {w : World} {g : Nat} {cs : Array Value} {t : TypeId} (h : Bk w g cs t) : g < w.heap.size := (Array.getElem?_eq_some_iff.1 h).1
theorem bk_cell {w : World} {g : Nat} {cs : Array Value} {t : TypeId} (h : Bk w g cs t) (i : Nat) : w.cell? ⟨g, i, none⟩ = cs[i]? := cell_of_row w g i cs t (0, 0) h
theorem bk_frozen {w : World} {g : Nat} {cs : Array Value} {t : TypeId} (h : Bk w g cs t) (i : Nat) : w.frozen? ⟨g, i, none⟩ = false := by unfold Bk at h; simp [World.frozen?, h]
theorem bk_new (w : World) (cs : Array Value) (t : TypeId) : Bk (w.alloc (.cells cs t)) w.heap.size cs t := heap_alloc_new w _
theorem bk_at {w : World} {g : Nat} {cs : Array Value} {t : TypeId} (hg : w.heap.size = g) : Bk (w.alloc (.cells cs t)) g cs t := by subst hg; exact bk_new w cs t
theorem bk_alloc {w : World} {g : Nat} {cs : Array Value} {t : TypeId} (h : Bk w g cs t) (o : Obj) : Bk (w.alloc o) g cs t := (Below.heap_alloc w o g (bk_lt h)).trans h
theorem bk_drew {w : World} {g : Nat} {cs : Array Value} {t : TypeId} (h : Bk w g cs t) : Bk w.drew g cs t := h
theorem bk_drewN {w : World} {g : Nat} {cs : Array Value} {t : TypeId} (h : Bk w g cs t) (n : Nat) : Bk (w.drewN n) g cs t := h
theorem bk_below {w w1 : World} {g : Nat} {cs : Array Value} {t : TypeId} (hb : Below w.heap.size w w1) (h : Bk w g cs t) : Bk w1 g cs t := (hb.block g (bk_lt h)).trans h
theorem bk_belowB {B : Nat} {w w1 : World} {g : Nat} {cs : Array Value} {t : TypeId} (hb : Below B w w1) (hg : g < B) (h : Bk w g cs t) : Bk w1 g cs t := (hb.block g hg).trans h
theorem bk_far {w : World} {g : Nat} {cs : Array Value} {t : TypeId} {p : Addr} (h : Bk w g cs t) (hp : g ≠ p.block) (u : Value) : Bk (w.setCell p u) g cs t := (Below.heap_setCell w p u g hp).trans h
theorem bk_put {w : World} {g : Nat} {cs cs' : Array Value} {t : TypeId} {i : Nat} {u : Value} (h : Bk w g cs t) (e : cs.setIfInBounds i u = cs') : Bk (w.setCell ⟨g, i, none⟩ u) g cs' t := by
  subst e; unfold Bk at *; simp [World.setCell, Array.getElem?_modify, h]
theorem bk_ne {w : World} {g g' : Nat} {t t' : TypeId} {cs cs' : Array Value} (h : Bk w g cs t) (h' : Bk w g' cs' t') (hne : t ≠ t') : g ≠ g' := by
  rintro rfl
  unfold Bk at *
  rw [h] at h'
  injection h' with h'
  injection h' with _ ht
  exact hne ht
theorem cell_new (w : World) (cs : Array Value) (t i : Nat) (v : Value) (h : cs[i]? = some v) : (w.alloc (.cells cs t)).cell? ⟨w.heap.size, i, none⟩ = some v := by
  simp [h]
end Go.Proofs.YtebeknnjjoobnaaDoor
