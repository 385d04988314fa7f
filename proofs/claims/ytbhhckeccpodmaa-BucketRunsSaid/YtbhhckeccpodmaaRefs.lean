/- Contracts of the reference's saturating numbers: Add, Sub, Mul, Shl, Shr, Log, Refill, Cross. -/
import Derived.Test.YtbhhckeccpodmaaWide2
import Derived.LoopTactic
import Derived.Deep.RegionHeld3
set_option linter.unusedVariables false
set_option linter.unusedSimpArgs false
namespace Go.Proofs.Ytbhhckeccpodmaa
open Go.RowKit
attribute [local go_sem] max2_int min2_int max_two min_two

theorem cutW_add (a b : Int) : cutW (a + b) = satAdd a b := rfl
theorem cutW_mul (a b : Int) : cutW (a * b) = satMul a b := rfl
theorem wide_mul {a b : Int} (ha : 0 ≤ a) (ha' : a ≤ 18446744073709551615) (hb : 0 ≤ b) (hb' : b ≤ 18446744073709551615) : 0 ≤ a * b ∧ a * b ≤ 340282366920938463426481119284349108225 := by
  have h1 := Int.mul_nonneg ha hb
  have h2 : a * b ≤ 18446744073709551615 * 18446744073709551615 := Int.mul_le_mul ha' hb' hb (by decide)
  omega





theorem refill_lt {l r t h : Int} (hl : 0 ≤ l) (hp : 0 ≤ r * t) (hh' : h ≤ 18446744073709551615) (c : l + r * t < h) : cutW (l + r * t) = satRefill l r t h := by
  unfold cutW satRefill satMin satAdd satMul
  generalize r * t = p at *
  repeat' split
  all_goals omega
theorem refill_ge {l r t h : Int} (hl : 0 ≤ l) (hp : 0 ≤ r * t) (hh' : h ≤ 18446744073709551615) (c : ¬ l + r * t < h) : h = satRefill l r t h := by
  unfold satRefill satMin satAdd satMul
  generalize r * t = p at *
  repeat' split
  all_goals omega
theorem cmpU_lt {m n : Int} (h : m < n) : cmpU m n = -1 := if_pos h
theorem cmpU_ge {m n : Int} (h : ¬ m < n) : 0 ≤ cmpU m n := by unfold cmpU; rw [if_neg h]; split <;> omega
theorem less_at (m n : Int) (A B : Value) (hA : W4 m = A) (hB : W4 n = B) (w : World) (hm : 0 ≤ m) (hm' : m < 340282366920938463463374607431768211456) (hn : 0 ≤ n) (hn' : n < 340282366920938463463374607431768211456) :
    Calls Try.prog 33 #[A, B] w fun e w' => e = .returned (.int .i64 (cmpU m n)) ∧ Below w.heap.size w w' := by
  subst hA hB; exact less_any m n hm hm' hn hn' w
theorem cut_at (m : Int) (A : Value) (hA : W4 m = A) (w : World) (hm : 0 ≤ m) (hm' : m < 340282366920938463463374607431768211456) :
    Calls Try.prog 51 #[A] w fun e w' => e = .returned (.int .u64 (cutW m)) ∧ Below w.heap.size w w' := by
  subst hA; exact cut_any m hm hm' w
theorem held4 {w : World} {g : Nat} {a b c d : Value} {t : TypeId} (h : Bk w g #[a, b, c, d] t) :
    w.cell? ⟨g, 0, none⟩ = some a ∧ w.cell? ⟨g, 1, none⟩ = some b ∧ w.cell? ⟨g, 2, none⟩ = some c ∧ w.cell? ⟨g, 3, none⟩ = some d ∧ g < w.heap.size :=
  ⟨(bk_cell h 0).trans rfl, (bk_cell h 1).trans rfl, (bk_cell h 2).trans rfl, (bk_cell h 3).trans rfl, bk_lt h⟩
theorem rrefill_any (l r t h : Int) (w : World) (hl : 0 ≤ l) (hl' : l ≤ 18446744073709551615) (hr : 0 ≤ r) (hr' : r ≤ 18446744073709551615) (ht : 0 ≤ t) (ht' : t ≤ 18446744073709551615) (hh : 0 ≤ h) (hh' : h ≤ 18446744073709551615) :
    Calls Try.prog 47 #[.int .u64 l, .int .u64 r, .int .u64 t, .int .u64 h] w fun e w' => e = .returned (.int .u64 (satRefill l r t h)) ∧ Below w.heap.size w w' := by
  have hm := wide_mul hr hr' ht ht'
  obtain ⟨o0, o1, o2, o3, ho⟩ := W4_open (l + r * t)
  replace ho := Lib.hid ho
  by_cases c : l + r * t < h
  · rw [← refill_lt hl hm.1 hh' c]
    have hc := cmpU_lt c
    go_enter Try.func47, Try.ntmps47
    go_wp2_with (first | (go_at_call 32; (with_reducible refine (of_any l _ hl hl').mono ?_); rintro e w1 ⟨rfl, hB1⟩) | (go_at_call 31; (with_reducible refine (times_any r t _ hr hr' ht ht').mono ?_); rintro e w3 ⟨rfl, hB3⟩) | (go_at_call 30; (with_reducible refine (plus_any l (r * t) _).mono ?_); rintro e w4 ⟨rfl, hB4⟩; rw [ho.out]))
    go_region_held3 (fun w' => w'.cell? ⟨w4.heap.size, 0, none⟩ = some (.int .u64 o0) ∧ w'.cell? ⟨w4.heap.size, 1, none⟩ = some (.int .u64 o1) ∧ w'.cell? ⟨w4.heap.size, 2, none⟩ = some (.int .u64 o2) ∧ w'.cell? ⟨w4.heap.size, 3, none⟩ = some (.int .u64 o3) ∧ w4.heap.size < w'.heap.size)
      (first | go_keep | exact held4 (bk_below hB2 (bk_drew (bk_new w4 #[.int .u64 o0, .int .u64 o1, .int .u64 o2, .int .u64 o3] 45))) | exact held4 (bk_below hB5 (bk_below hB2 (bk_drew (bk_new w4 #[.int .u64 o0, .int .u64 o1, .int .u64 o2, .int .u64 o3] 45)))))
      (first | (go_at_call 32; (with_reducible refine (of_any h _ hh hh').mono ?_); rintro e w2 ⟨rfl, hB2⟩) | (go_at_call 33; (with_reducible refine (less_at (l + r * t) h _ _ ho.out rfl _ (by omega) (by omega) hh (by omega)).mono ?_); rintro e w5 ⟨rfl, hB5⟩))
    obtain ⟨c0, c1, c2, c3, cz⟩ := held4 (bk_below hB5 (bk_below hB2 (bk_drew (bk_new w4 #[.int .u64 o0, .int .u64 o1, .int .u64 o2, .int .u64 o3] 45))))
    go_wp2_with ((go_at_call 51; (with_reducible refine (cut_at (l + r * t) _ ho.out _ (by omega) (by omega)).mono ?_); rintro e w6 ⟨rfl, hB6⟩))
    go_ret
    exact ⟨rfl, bl_then (bl_then (bl_then (bl_drew (bl_alloc (bl_then (bl_then hB1 hB3) hB4) _)) hB2) hB5) hB6⟩
  · have hc := cmpU_ge c
    have e := Lib.hid (refill_ge hl hm.1 hh' c)
    go_enter Try.func47, Try.ntmps47
    go_wp2_with (first | (go_at_call 32; (with_reducible refine (of_any l _ hl hl').mono ?_); rintro e w1 ⟨rfl, hB1⟩) | (go_at_call 31; (with_reducible refine (times_any r t _ hr hr' ht ht').mono ?_); rintro e w3 ⟨rfl, hB3⟩) | (go_at_call 30; (with_reducible refine (plus_any l (r * t) _).mono ?_); rintro e w4 ⟨rfl, hB4⟩; rw [ho.out]))
    go_region_held3 (fun w' => w'.cell? ⟨w4.heap.size, 0, none⟩ = some (.int .u64 o0) ∧ w'.cell? ⟨w4.heap.size, 1, none⟩ = some (.int .u64 o1) ∧ w'.cell? ⟨w4.heap.size, 2, none⟩ = some (.int .u64 o2) ∧ w'.cell? ⟨w4.heap.size, 3, none⟩ = some (.int .u64 o3) ∧ w4.heap.size < w'.heap.size)
      (first | go_keep | exact held4 (bk_below hB2 (bk_drew (bk_new w4 #[.int .u64 o0, .int .u64 o1, .int .u64 o2, .int .u64 o3] 45))) | exact held4 (bk_below hB5 (bk_below hB2 (bk_drew (bk_new w4 #[.int .u64 o0, .int .u64 o1, .int .u64 o2, .int .u64 o3] 45)))))
      (first | (go_at_call 32; (with_reducible refine (of_any h _ hh hh').mono ?_); rintro e w2 ⟨rfl, hB2⟩) | (go_at_call 33; (with_reducible refine (less_at (l + r * t) h _ _ ho.out rfl _ (by omega) (by omega) hh (by omega)).mono ?_); rintro e w5 ⟨rfl, hB5⟩))
    go_wp2
    go_ret
    exact ⟨ret_u64 e.out, bl_then (bl_then (bl_drew (bl_alloc (bl_then (bl_then hB1 hB3) hB4) _)) hB2) hB5⟩
end Go.Proofs.Ytbhhckeccpodmaa
