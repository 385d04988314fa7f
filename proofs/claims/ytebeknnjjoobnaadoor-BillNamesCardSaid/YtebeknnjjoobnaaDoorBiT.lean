/- The walk of BillNames. -/
import Derived.Test.YtebeknnjjoobnaaDoorBiS
set_option linter.unusedVariables false
set_option linter.unusedSimpArgs false
set_option maxRecDepth 100000
namespace Go.Proofs.YtebeknnjjoobnaaDoor
open Go.RowKit Go.Sort Go.Lib Go.Shelf Go.Proofs Go.Proofs.YtebeknnjjoobnaaDoorW.PrintWords
attribute [local go_sem] max2_int min2_int max_two min_two
attribute [local go_sem ↓] eql_rw neq_rw

theorem no_mem {d rows : List Rw} (hm : ∀ x, x ∈ d ↔ x.2 = tot rows x.1 ∧ x.2 ≠ zeroV) (h : ∀ k, tot rows k = zeroV) : d = [] := by
  cases d with
  | nil => rfl
  | cons x d =>
    have := (hm x).1 (List.mem_cons_self ..)
    exact absurd (this.1.trans (h _)) this.2
theorem tot_five (k : Ky) : tot ([] ++ [((5, 0), (0, 0, 0, 0))]) k = zeroV := by
  unfold tot
  simp only [List.nil_append, List.foldl_cons, List.foldl_nil]
  split
  · rfl
  · rfl
theorem zeroR_ok (a : Int) (h : I64 a) : RwOk ((a, 0), (0, 0, 0, 0)) := ⟨⟨h, (show U64 0 from ⟨by decide, by decide⟩)⟩, zeroV_ok⟩
theorem text_nil : (⟨(headL ++ linesL bI bU []).toArray⟩ : ByteArray) = ⟨#[115, 117, 98, 32, 112, 101, 114, 105, 111, 100, 32, 112, 97, 99, 107, 101, 116, 115, 32, 98, 121, 116, 101, 115, 32, 115, 108, 111, 119, 45, 112, 97, 99, 107, 101, 116, 115, 32, 115, 108, 111, 119, 45, 98, 121, 116, 101, 115, 10]⟩ := rfl
set_option maxHeartbeats 6400000 in
theorem billNames_walk (w : World) : Calls Tryd.prog 6 #[] w fun e w' => e = .returned (.bool true) ∧ Below w.heap.size w w' := by
  have k1 := fun W => rows_any none [] 0 W (fun i hi => absurd hi (by simp)) (by decide)
  have k2 := fun W => total_any none [] 0 W (rw_nil _ _ [] rfl) (fun x hx => absurd hx (by simp)) (by decide)
  have k2' : ∀ W, Calls Tryd.prog 17 #[.slice none 0 0] W fun e w' => e = .returned (.agg #[.int .i64 0, .int .u64 0, .int .u64 0, .int .u64 0, .int .u64 0, .int .u64 0]) ∧ Below W.heap.size W w' := k2
  have k3 := fun (W : World) (g : Nat) (hg : W.heap.size = g) => merge_any none (some ⟨g, 0, none⟩) 0 1 [] [((5, 0), (0, 0, 0, 0))] _ (rw_nil _ _ [] rfl) (rw_lit hg ((5, 0), (0, 0, 0, 0))) (fun x hx => absurd hx (by simp)) (fun x hx => by
    obtain rfl : x = ((5, 0), (0, 0, 0, 0)) := by simpa using hx
    exact zeroR_ok 5 ⟨by decide, by decide⟩) (by decide) (by decide)
  have k4 := fun W => text_any bI bU bI_len bU_len none [] 0 W (rw_nil _ _ [] rfl) (by decide) (fun x hx => absurd hx (by simp)) (fun x hx => absurd hx (by simp))
  obtain ⟨T, hT0⟩ : ∃ T, (⟨(headL ++ linesL bI bU []).toArray⟩ : ByteArray) = T := ⟨_, rfl⟩
  have hT := text_nil
  rw [hT0] at k4 hT
  have hq1 : (T.toList == ([115, 117, 98, 32, 112, 101, 114, 105, 111, 100, 32, 112, 97, 99, 107, 101, 116, 115, 32, 98, 121, 116, 101, 115, 32, 115, 108, 111, 119, 45, 112, 97, 99, 107, 101, 116, 115, 32, 115, 108, 111, 119, 45, 98, 121, 116, 101, 115, 10] : List UInt8)) = true := by rw [beq_iff_eq, ByteArray.toList_eq, hT]
  clear hT hT0 k2
  have hz := zeroR_ok 0 ⟨by decide, by decide⟩
  have hself : eqW ((0, 0), (0, 0, 0, 0)) ((0, 0), (0, 0, 0, 0)) = true := eqW_iff.2 rfl
  replace k1 := Lib.hid k1
  replace k2' := Lib.hid k2'
  replace k3 := Lib.hid k3
  replace k4 := Lib.hid k4
  go_enter Tryd.func6, Tryd.ntmps6
  go_wp2_with (fail)
  refine (billAlive_any _).mono ?_; rintro e w1 ⟨rfl, hB1⟩
  go_wp2_with (fail)
  refine (k1.out _).mono ?_; rintro e w2 ⟨A2, c2, d2, rfl, _, _, hm2, _, _, hB2⟩
  obtain rfl := no_mem hm2 (fun k => rfl)
  clear hm2
  have hBa := bl_then hB1 hB2
  go_wp2_with (fail)
  refine (k2'.out _).mono ?_; rintro e w3 ⟨rfl, hB3⟩
  have hBb := bl_then hBa hB3
  go_wp2_with (fail)
  refine (k3.out _ _ rfl).mono ?_; rintro e w4 ⟨A4, c4, d4, rfl, _, _, hm4, _, _, hB4⟩
  obtain rfl := no_mem hm4 tot_five
  clear hm4
  have hBc := bl_then (bl_alloc hBb _) hB4
  go_wp2_with (fail)
  refine (k4.out _).mono ?_; rintro e w5 ⟨rfl, hB5⟩
  have hBd := bl_then hBc hB5
  go_wp2
  go_ret
  exact ⟨rfl, hBd⟩
end Go.Proofs.YtebeknnjjoobnaaDoor
