/- Contracts of layer 17's bucket: New, Tick, Has, Take, Level, Set, Wait. -/
import Derived.Test.YtbhhckeccpodmaaSat2
import Derived.Deep.RegionWith
import Derived.OpenShut
import Derived.StillTailTactics
set_option linter.unusedVariables false
set_option linter.unusedSimpArgs false
namespace Go.Proofs.Ytbhhckeccpodmaa
open Go.RowKit
attribute [local go_sem] max2_int min2_int max_two min_two

/-- The bucket whose cells are block g: rate, burst, level. -/
def Bt (w : World) (g : Nat) (r h l : Int) : Prop := Bk w g #[.int .u64 r, .int .u64 h, .int .u64 l] 76
theorem bt_cells {w : World} {g : Nat} {r h l : Int} (k : Bt w g r h l) : w.cell? ⟨g, 0, none⟩ = some (.int .u64 r) ∧ w.cell? ⟨g, 1, none⟩ = some (.int .u64 h) ∧ w.cell? ⟨g, 2, none⟩ = some (.int .u64 l) ∧ w.frozen? ⟨g, 0, none⟩ = false ∧ w.frozen? ⟨g, 1, none⟩ = false ∧ w.frozen? ⟨g, 2, none⟩ = false :=
  ⟨(bk_cell k 0).trans rfl, (bk_cell k 1).trans rfl, (bk_cell k 2).trans rfl, bk_frozen k 0, bk_frozen k 1, bk_frozen k 2⟩
theorem bt_level {w : World} {g : Nat} {r h l : Int} (k : Bt w g r h l) (m : Int) : Bt (w.setCell ⟨g, 2, none⟩ (.int .u64 m)) g r h m := bk_put k rfl
theorem bt_far {w : World} {g g' : Nat} {r h l : Int} (k : Bt w g r h l) (hne : g ≠ g') (i : Nat) (u : Value) : Bt (w.setCell ⟨g', i, none⟩ u) g r h l := bk_far k hne u

theorem bnew_any (r h : Int) (w : World) : Calls Try.prog 24 #[.int .u64 r, .int .u64 h] w fun e w' => e = .returned (.pointer (some ⟨w.heap.size, 0, none⟩)) ∧ w' = w.alloc (.cells #[.int .u64 r, .int .u64 h, .int .u64 h] 76) := by
  go_enter Try.func24, Try.ntmps24
  go_wp2
  go_ret
  exact ⟨rfl, rfl⟩

theorem blevel_any {g : Nat} {r h l : Int} {w : World} (k : Bt w g r h l) : Calls Try.prog 29 #[.pointer (some ⟨g, 0, none⟩)] w fun e w' => e = .returned (.int .u64 l) ∧ w = w' := by
  obtain ⟨c0, c1, c2, f0, f1, f2⟩ := bt_cells k
  go_enter Try.func29, Try.ntmps29
  go_wp2
  go_ret
  exact ⟨rfl, rfl⟩

theorem bhas_any {g : Nat} {r h l : Int} {w : World} (k : Bt w g r h l) (n : Int) : Calls Try.prog 34 #[.pointer (some ⟨g, 0, none⟩), .int .u64 n] w fun e w' => e = .returned (.bool (decide (n ≤ l))) ∧ w = w' := by
  obtain ⟨c0, c1, c2, f0, f1, f2⟩ := bt_cells k
  go_enter Try.func34, Try.ntmps34
  go_wp2
  go_ret
  exact ⟨rfl, rfl⟩

theorem btick_any {g : Nat} {r h l : Int} {w : World} (k : Bt w g r h l) (n : Int) (hr : 0 ≤ r) (hr' : r ≤ 18446744073709551615) (hh : 0 ≤ h) (hh' : h ≤ 18446744073709551615) (hl : 0 ≤ l) (hl' : l ≤ 18446744073709551615) (hn : 0 ≤ n) (hn' : n ≤ 18446744073709551615) :
    Calls Try.prog 27 #[.pointer (some ⟨g, 0, none⟩), .int .u64 n] w fun e w' => e = .returned (.tuple #[]) ∧ w' = w.drew.setCell ⟨g, 2, none⟩ (.int .u64 (satRefill l r n h)) := by
  obtain ⟨c0, c1, c2, f0, f1, f2⟩ := bt_cells k
  go_enter Try.func27, Try.ntmps27
  refine wp_region_still_tail 17 (by kernel_rfl) (by kernel_rfl) ?_
  simp only [List.take_succ_cons, List.take_zero, List.drop_succ_cons, List.drop_zero]
  repeat first | still_step | (refine wpStill_step (fun K hK => ?_); go_simp; refine ⟨_, (refill_any l r n h _ hl hl' hr hr' hn hn' hh hh').mono (fun _ _ k => ⟨k.1, k.2.symm⟩), hK _ ?_⟩; clear hK K)
  refine wpStill_nil ?_
  change wpList _ _ _ _ _ w.drew
  go_wp2
  refine bodyPost_end (v := .tuple #[]) (by simp [results, Try.results27, go_sem]) rfl ⟨rfl, rfl⟩

theorem btake_yes {g : Nat} {r h l : Int} {w : World} (k : Bt w g r h l) (n : Int) (hl' : l ≤ 18446744073709551615) (hn : 0 ≤ n) (c : n ≤ l) :
    Calls Try.prog 26 #[.pointer (some ⟨g, 0, none⟩), .int .u64 n] w fun e w' => e = .returned (.bool true) ∧ w' = w.setCell ⟨g, 2, none⟩ (.int .u64 (l - n)) := by
  obtain ⟨c0, c1, c2, f0, f1, f2⟩ := bt_cells k
  have hc : decide (n ≤ l) = true := decide_eq_true c
  go_enter Try.func26, Try.ntmps26
  go_wp2_with (go_at_call 34; (with_reducible refine (bhas_any k n).mono ?_); rintro e w' ⟨rfl, rfl⟩)
  go_ret
  exact ⟨rfl, rfl⟩

theorem btake_no {g : Nat} {r h l : Int} {w : World} (k : Bt w g r h l) (n : Int) (c : ¬ n ≤ l) :
    Calls Try.prog 26 #[.pointer (some ⟨g, 0, none⟩), .int .u64 n] w fun e w' => e = .returned (.bool false) ∧ w = w' := by
  have hc : decide (n ≤ l) = false := decide_eq_false c
  go_enter Try.func26, Try.ntmps26
  go_wp2_with (go_at_call 34; (with_reducible refine (bhas_any k n).mono ?_); rintro e w' ⟨rfl, rfl⟩)
  go_ret
  exact ⟨rfl, rfl⟩
end Go.Proofs.Ytbhhckeccpodmaa
