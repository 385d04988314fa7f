/- The library map clone, laid at this program. -/
import Derived.Test.YtebeknnjjoobnaaRoute2
import Derived.Shelf.SlMaps.Clone
set_option linter.unusedVariables false
set_option linter.unusedSimpArgs false
namespace Go.Proofs.Ytebeknnjjoobnaa
open Go.RowKit Go.Shelf Go.Proofs
def cloneRt_ren : Go.Shelf.Ren := ⟨fun | 5 => 33 | 7 => 42 | n => n, fun | 23 => 54 | 25 => 29 | 3 => 3 | 4 => 4 | 20 => 20 | n => n, fun n => n⟩
theorem cloneRt : SlLaysW.n5 Try.prog cloneRt_ren := {
  mixed := by kernel_rfl,
  f5 := ⟨Try.f33.name, by decide, Try.func33.trans (congrArg some (by kernel_rfl))⟩,
  f7 := Try.func42.trans (congrArg some (by kernel_rfl)),
  t4 := Try.underlying4,
  a4 := Try.isAgg4,
  z4 := Try.sizeOf4,
  v4 := Try.zeroValue4,
  t20 := Try.underlying20,
  a20 := Try.isAgg20,
  z20 := Try.sizeOf20,
  v20 := Try.zeroValue20,
  t23 := Try.underlying54,
  a23 := Try.isAgg54,
  z23 := Try.sizeOf54,
  v23 := Try.zeroValue54 }
theorem Mp.twin {P : Program} {k : TypeId} {K V : Type} {kv : K → Value} {vv : V → Value} {w w' : World} {b b' : Nat} {l : List (K × V)} (h : Mp P k kv vv w b l) {es : Array MapEntry} {c : Nat} (hb : w.heap[b]? = some (.map es c)) (hb' : w'.heap[b']? = some (.map es c)) : Mp P k kv vv w' b' l := by
  obtain ⟨es0, c0, h0, hs, hk, he⟩ := h
  rw [hb] at h0
  cases h0
  exact ⟨es, c, hb', hs, hk, he⟩
set_option maxHeartbeats 1600000 in
theorem tclone_any {w : World} {g t : Nat} {l : Routes} (h : Tb w g t l) :
    Calls Try.prog 21 #[.pointer (some ⟨g, 0, none⟩)] w fun e w' => ∃ g' t', e = .returned (.pointer (some ⟨g', 0, none⟩)) ∧ Tb w' g' t' l ∧ w.heap.size ≤ g' ∧ w.heap.size ≤ t' ∧ Below w.heap.size w w' := by
  have y0 : w.cell? ⟨g, 0, none⟩ = some (.map (some t)) := (bk_cell h.1 0).trans rfl
  have hm := h.2
  obtain ⟨es, c, hb, _⟩ := hm
  have hcon := AnyW.maps_Clone cloneRt t es c w hb
  change Calls Try.prog 33 _ _ _ at hcon
  replace hcon := Lib.hid hcon
  go_enter Try.func21, Try.ntmps21
  go_wp2_with (go_at_call 33; (refine hcon.out.mono ?_); rintro e w' ⟨rfl, rfl⟩)
  go_ret
  have hbn : (w.alloc (.map es c)).heap[w.heap.size]? = some (.map es c) := heap_alloc_new w _
  exact ⟨w.heap.size + 1, w.heap.size, rfl, ⟨bk_at (by simp), (Mp.twin h.2 hb hbn).alloc _⟩, by omega, Nat.le_refl _, bl_alloc (bl_alloc (Below.refl _ _) _) _⟩
end Go.Proofs.Ytebeknnjjoobnaa
