/- What a call may have changed: a set of blocks; all other blocks stay. -/
import Derived.Test.YtebeknnjjoobnaaDoorBase
set_option linter.unusedVariables false
set_option linter.unusedSimpArgs false
namespace Go.Proofs.YtebeknnjjoobnaaDoor
open Go.RowKit

/-- Of what was there only blocks in S may have turned. -/
def Kept (S : Nat → Prop) (w w' : World) : Prop := w'.os = w.os ∧ w'.tape = w.tape ∧ w'.output = w.output ∧ w.heap.size ≤ w'.heap.size ∧ ∀ k, k < w.heap.size → ¬ S k → w'.heap[k]? = w.heap[k]?
theorem Kept.refl (S : Nat → Prop) (w : World) : Kept S w w := ⟨rfl, rfl, rfl, Nat.le_refl _, fun _ _ _ => rfl⟩
theorem Kept.size {S : Nat → Prop} {w w' : World} (h : Kept S w w') : w.heap.size ≤ w'.heap.size := h.2.2.2.1
theorem Kept.block {S : Nat → Prop} {w w' : World} (h : Kept S w w') {k : Nat} (hk : k < w.heap.size) (hS : ¬ S k) : w'.heap[k]? = w.heap[k]? := h.2.2.2.2 k hk hS
theorem Kept.mono {S T : Nat → Prop} {w w' : World} (h : Kept S w w') (hT : ∀ k, k < w.heap.size → S k → T k) : Kept T w w' := ⟨h.1, h.2.1, h.2.2.1, h.size, fun k hk hn => h.block hk fun c => hn (hT k hk c)⟩
/-- One behind the other; what the second one changes beside is new. -/
theorem Kept.trans {S T : Nat → Prop} {a b c : World} (h : Kept S a b) (k : Kept T b c) (hT : ∀ i, i < a.heap.size → T i → S i) : Kept S a c :=
  ⟨k.1.trans h.1, k.2.1.trans h.2.1, k.2.2.1.trans h.2.2.1, Nat.le_trans h.size k.size, fun i hi hn => (k.block (Nat.lt_of_lt_of_le hi h.size) fun c => hn (hT i hi c)).trans (h.block hi hn)⟩
theorem Kept.of_below {S : Nat → Prop} {w w' : World} (h : Below w.heap.size w w') : Kept S w w' := ⟨h.os, h.tape, h.output, h.size, fun k hk _ => h.block k hk⟩
theorem Kept.below {S : Nat → Prop} {w w' : World} (h : Kept S w w') (hS : ∀ k, k < w.heap.size → ¬ S k) : Below w.heap.size w w' := ⟨h.1, h.2.1, h.2.2.1, h.size, fun k hk => h.block hk (hS k hk)⟩
theorem Kept.bl {S : Nat → Prop} {a b c : World} (h : Below a.heap.size a b) (k : Kept S b c) (hS : ∀ i, S i → a.heap.size ≤ i) : Below a.heap.size a c :=
  ((Kept.of_below (S := fun _ => False) h).trans k fun i hi c => absurd (hS i c) (by omega)).below fun _ _ => id
theorem Kept.then_below {S : Nat → Prop} {a b c : World} (h : Kept S a b) (k : Below b.heap.size b c) : Kept S a c := h.trans (Kept.of_below (S := fun _ => False) k) fun _ _ c => c.elim
theorem Kept.drew {S : Nat → Prop} {a w : World} (h : Kept S a w) : Kept S a w.drew := h
theorem Kept.drewN {S : Nat → Prop} {a w : World} (h : Kept S a w) (n : Nat) : Kept S a (w.drewN n) := h
theorem Kept.alloc {S : Nat → Prop} {a w : World} (h : Kept S a w) (o : Obj) : Kept S a (w.alloc o) := h.then_below (bl_alloc (Below.refl _ _) o)
theorem Kept.set {S : Nat → Prop} {a w : World} (h : Kept S a w) (g i : Nat) (u : Value) (hg : S g ∨ a.heap.size ≤ g) : Kept S a (w.setCell ⟨g, i, none⟩ u) :=
  h.trans (T := fun k => k = g) ⟨rfl, rfl, rfl, by simp [World.setCell], fun k _ hn => Below.heap_setCell w ⟨g, i, none⟩ u k hn⟩ fun k hk e => by
    rcases hg with c | c
    · exact e ▸ c
    · omega
theorem Kept.cell {S : Nat → Prop} {w w' : World} (h : Kept S w w') {p : Addr} (hp : p.block < w.heap.size) (hS : ¬ S p.block) : w'.cell? p = w.cell? p := World.cell?_of_block (w := w) (h.block hp hS)
theorem Kept.frozen {S : Nat → Prop} {w w' : World} (h : Kept S w w') {p : Addr} (hp : p.block < w.heap.size) (hS : ¬ S p.block) : w'.frozen? p = w.frozen? p := World.frozen?_of_block (w := w) (h.block hp hS)
theorem bk_kept {S : Nat → Prop} {w w1 : World} {g : Nat} {cs : Array Value} {t : TypeId} (hk : Kept S w w1) (h : Bk w g cs t) (hS : ¬ S g) : Bk w1 g cs t := (hk.block (bk_lt h) hS).trans h
end Go.Proofs.YtebeknnjjoobnaaDoor
