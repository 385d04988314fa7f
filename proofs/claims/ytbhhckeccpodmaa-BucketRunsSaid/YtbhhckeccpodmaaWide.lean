/- Contracts of the reference's wide numbers (floodgateref01): Of, Plus, Times, Less, Cut, and what is made of them. -/
import Derived.Test.YtbhhckeccpodmaaSat2
import Derived.Below
import Derived.Deep.QuietTactic
import Derived.BigQuiet
import Derived.Deep.DeepCutAuto
set_option linter.unusedVariables false
set_option linter.unusedSimpArgs false
namespace Go.Proofs.Ytbhhckeccpodmaa
open Go.RowKit
attribute [local go_sem] max2_int min2_int max_two min_two

/-- A wide number as the reference has it: four parts of 32 bits, the lowest first. -/
def W4 (n : Int) : Value := .agg #[.int .u64 (n % 4294967296), .int .u64 (n / 4294967296 % 4294967296), .int .u64 (n / 4294967296 / 4294967296 % 4294967296), .int .u64 (n / 4294967296 / 4294967296 / 4294967296 % 4294967296)]

theorem ret_wide {a b c d a' b' c' d' : Int} (h0 : a = a') (h1 : b = b') (h2 : c = c') (h3 : d = d') :
    Ending.returned (.agg #[.int .u64 a, .int .u64 b, .int .u64 c, .int .u64 d]) = .returned (.agg #[.int .u64 a', .int .u64 b', .int .u64 c', .int .u64 d']) := by rw [h0, h1, h2, h3]

set_option maxHeartbeats 400000 in
theorem of_limbs (a : Int) (w : World) (h0 : 0 ≤ a) (h1 : a ≤ 18446744073709551615) :
    Calls Try.prog 32 #[.int .u64 a] w fun e w' => e = .returned (.agg #[.int .u64 (a % 4294967296), .int .u64 (a / 4294967296), .int .u64 0, .int .u64 0]) ∧ Below w.heap.size w w' := by
  go_enter Try.func32, Try.ntmps32
  go_wp2
  refine bodyPost_ret (v := .agg #[.int .u64 (a % 4294967296), .int .u64 (a / 4294967296), .int .u64 0, .int .u64 0]) (by simp [results, Try.results32, go_sem]) rfl ⟨rfl, ?_⟩
  repeat (with_reducible first | exact Below.refl _ _ | apply bl_alloc | apply bl_drewN | apply bl_drew | refine bl_set ?_ (by dsimp only; omega) _)

theorem W4_small (a : Int) (h0 : 0 ≤ a) (h1 : a ≤ 18446744073709551615) : W4 a = .agg #[.int .u64 (a % 4294967296), .int .u64 (a / 4294967296), .int .u64 0, .int .u64 0] := by
  unfold W4
  rw [show a / 4294967296 % 4294967296 = a / 4294967296 by omega, show a / 4294967296 / 4294967296 % 4294967296 = 0 by omega, show a / 4294967296 / 4294967296 / 4294967296 % 4294967296 = 0 by omega]
theorem W4_small1 (a : Int) (h0 : 0 ≤ a) (h1 : a ≤ 18446744073709551615) : W4 (a * 4294967296) = .agg #[.int .u64 0, .int .u64 (a % 4294967296), .int .u64 (a / 4294967296), .int .u64 0] := by
  unfold W4
  rw [show a * 4294967296 / 4294967296 = a by omega, show a * 4294967296 % 4294967296 = 0 by omega, show a / 4294967296 % 4294967296 = a / 4294967296 by omega, show a / 4294967296 / 4294967296 % 4294967296 = 0 by omega]
theorem W4_small2 (a : Int) (h0 : 0 ≤ a) (h1 : a ≤ 18446744073709551615) : W4 (a * 4294967296 * 4294967296) = .agg #[.int .u64 0, .int .u64 0, .int .u64 (a % 4294967296), .int .u64 (a / 4294967296)] := by
  unfold W4
  rw [show a * 4294967296 * 4294967296 / 4294967296 = a * 4294967296 by omega, show a * 4294967296 * 4294967296 % 4294967296 = 0 by omega, show a * 4294967296 % 4294967296 = 0 by omega, show a * 4294967296 / 4294967296 = a by omega, show a / 4294967296 % 4294967296 = a / 4294967296 by omega]
theorem W4_zero : W4 0 = .agg #[.int .u64 0, .int .u64 0, .int .u64 0, .int .u64 0] := rfl
theorem W4_open (n : Int) : ∃ a b c d : Int, W4 n = .agg #[.int .u64 a, .int .u64 b, .int .u64 c, .int .u64 d] := ⟨_, _, _, _, rfl⟩

theorem of_any (a : Int) (w : World) (h0 : 0 ≤ a) (h1 : a ≤ 18446744073709551615) :
    Calls Try.prog 32 #[.int .u64 a] w fun e w' => e = .returned (W4 a) ∧ Below w.heap.size w w' := by
  rw [W4_small a h0 h1]
  exact of_limbs a w h0 h1

set_option maxHeartbeats 1000000 in
set_option maxRecDepth 100000 in
theorem plus_limbs (x0 x1 x2 x3 y0 y1 y2 y3 : Int) (w : World) (hx0 : 0 ≤ x0 ∧ x0 ≤ 4294967295) (hx1 : 0 ≤ x1 ∧ x1 ≤ 4294967295) (hx2 : 0 ≤ x2 ∧ x2 ≤ 4294967295) (hx3 : 0 ≤ x3 ∧ x3 ≤ 4294967295)
    (hy0 : 0 ≤ y0 ∧ y0 ≤ 4294967295) (hy1 : 0 ≤ y1 ∧ y1 ≤ 4294967295) (hy2 : 0 ≤ y2 ∧ y2 ≤ 4294967295) (hy3 : 0 ≤ y3 ∧ y3 ≤ 4294967295) :
    Calls Try.prog 30 #[.agg #[.int .u64 x0, .int .u64 x1, .int .u64 x2, .int .u64 x3], .agg #[.int .u64 y0, .int .u64 y1, .int .u64 y2, .int .u64 y3]] w
      fun e w' => e = .returned (.agg #[.int .u64 ((x0 + y0) % 4294967296), .int .u64 ((x1 + y1 + (x0 + y0) / 4294967296) % 4294967296), .int .u64 ((x2 + y2 + (x1 + y1 + (x0 + y0) / 4294967296) / 4294967296) % 4294967296), .int .u64 ((x3 + y3 + (x2 + y2 + (x1 + y1 + (x0 + y0) / 4294967296) / 4294967296) / 4294967296) % 4294967296)]) ∧ Below w.heap.size w w' := by
  go_enter Try.func30, Try.ntmps30
  go_wp2
  refine wp_loop_rounds 5 ?_
  rw [rounds_succ]
  go_wp2
  go_quiet (fail)
  go_wp2
  rw [rounds_succ]
  go_wp2
  go_quiet (fail)
  go_wp2
  rw [rounds_succ]
  go_wp2
  go_quiet (fail)
  go_wp2
  rw [rounds_succ]
  go_wp2
  go_quiet (fail)
  go_wp2
  rw [rounds_succ]
  go_wp2
  refine bodyPost_ret (v := .agg #[.int .u64 ((x0 + y0) % 4294967296), .int .u64 ((x1 + y1 + (x0 + y0) / 4294967296) % 4294967296), .int .u64 ((x2 + y2 + (x1 + y1 + (x0 + y0) / 4294967296) / 4294967296) % 4294967296), .int .u64 ((x3 + y3 + (x2 + y2 + (x1 + y1 + (x0 + y0) / 4294967296) / 4294967296) / 4294967296) % 4294967296)])
    (by simp [results, Try.results30, go_sem]) rfl ⟨rfl, ?_⟩
  repeat (with_reducible first | exact Below.refl _ _ | apply bl_alloc | apply bl_drewN | apply bl_drew | refine bl_set ?_ (by dsimp only; omega) _)

theorem limb_step (m n c : Int) : (m + n + c) % 4294967296 = (m % 4294967296 + n % 4294967296 + c) % 4294967296 ∧ (m + n + c) / 4294967296 = m / 4294967296 + n / 4294967296 + (m % 4294967296 + n % 4294967296 + c) / 4294967296 := by omega
theorem limb_bd (n : Int) : 0 ≤ n % 4294967296 ∧ n % 4294967296 ≤ 4294967295 := by omega

theorem plus_any (m n : Int) (w : World) : Calls Try.prog 30 #[W4 m, W4 n] w fun e w' => e = .returned (W4 (m + n)) ∧ Below w.heap.size w w' := by
  unfold W4
  refine (plus_limbs _ _ _ _ _ _ _ _ w (limb_bd _) (limb_bd _) (limb_bd _) (limb_bd _) (limb_bd _) (limb_bd _) (limb_bd _) (limb_bd _)).mono ?_
  rintro e w' ⟨rfl, hB⟩
  obtain ⟨a0, b0⟩ := limb_step m n 0
  rw [Int.add_zero, Int.add_zero] at a0 b0
  obtain ⟨a1, b1⟩ := limb_step (m / 4294967296) (n / 4294967296) ((m % 4294967296 + n % 4294967296) / 4294967296)
  obtain ⟨a2, b2⟩ := limb_step (m / 4294967296 / 4294967296) (n / 4294967296 / 4294967296) ((m / 4294967296 % 4294967296 + n / 4294967296 % 4294967296 + (m % 4294967296 + n % 4294967296) / 4294967296) / 4294967296)
  obtain ⟨a3, b3⟩ := limb_step (m / 4294967296 / 4294967296 / 4294967296) (n / 4294967296 / 4294967296 / 4294967296) ((m / 4294967296 / 4294967296 % 4294967296 + n / 4294967296 / 4294967296 % 4294967296 + (m / 4294967296 % 4294967296 + n / 4294967296 % 4294967296 + (m % 4294967296 + n % 4294967296) / 4294967296) / 4294967296) / 4294967296)
  rw [← b2, ← b1, ← b0] at a3
  rw [← b1, ← b0] at a2
  rw [← b0] at a1
  exact ⟨ret_wide a0.symm a1.symm a2.symm a3.symm, hB⟩


theorem plus_at (P n : Int) (A B : Value) (hA : W4 P = A) (hB : W4 n = B) (w : World) : Calls Try.prog 30 #[A, B] w fun e w' => e = .returned (W4 (P + n)) ∧ Below w.heap.size w w' := by
  subst hA hB; exact plus_any P n w
theorem mul_bd {x y : Int} (hx : 0 ≤ x ∧ x ≤ 4294967295) (hy : 0 ≤ y ∧ y ≤ 4294967295) : 0 ≤ x * y ∧ x * y ≤ 18446744073709551615 := by
  have h1 := Int.mul_nonneg hx.1 hy.1
  have h2 : x * y ≤ 4294967295 * 4294967295 := Int.mul_le_mul hx.2 hy.2 hy.1 (by decide)
  omega
theorem times_sum (a b : Int) : 0 + a % 4294967296 * (b % 4294967296) + a % 4294967296 * (b / 4294967296) * 4294967296 + a / 4294967296 * (b % 4294967296) * 4294967296 + a / 4294967296 * (b / 4294967296) * 4294967296 * 4294967296 = a * b := by
  have ha := Int.emod_add_mul_ediv a 4294967296
  have hb := Int.emod_add_mul_ediv b 4294967296
  generalize a % 4294967296 = a0 at *
  generalize a / 4294967296 = a1 at *
  generalize b % 4294967296 = b0 at *
  generalize b / 4294967296 = b1 at *
  subst ha hb
  simp only [Int.add_mul, Int.mul_add, Int.mul_assoc, Int.mul_comm, Int.mul_left_comm, Int.zero_add]
  omega

/-- What Times holds in memory at each round: both numbers' parts, the sum so far, the place of the result. -/
structure TF (w wr : World) (s : Nat) (x0 x1 y0 y1 o0 o1 o2 o3 : Int) : Prop where
  rs : w.heap.size < s
  sz : s + 1 + 1 < wr.heap.size
  bl : Below w.heap.size w wr
  r : Bk wr w.heap.size #[.int .u64 0, .int .u64 0, .int .u64 0, .int .u64 0] 45
  x : Bk wr s #[.int .u64 x0, .int .u64 x1, .int .u64 0, .int .u64 0] 45
  y : Bk wr (s + 1) #[.int .u64 y0, .int .u64 y1, .int .u64 0, .int .u64 0] 45
  o : Bk wr (s + 1 + 1) #[.int .u64 o0, .int .u64 o1, .int .u64 o2, .int .u64 o3] 45
theorem TF.below {w wr w' : World} {s : Nat} {x0 x1 y0 y1 o0 o1 o2 o3 : Int} (hb : Below wr.heap.size wr w') (h : TF w wr s x0 x1 y0 y1 o0 o1 o2 o3) : TF w w' s x0 x1 y0 y1 o0 o1 o2 o3 :=
  ⟨h.rs, Nat.lt_of_lt_of_le h.sz hb.size, h.bl.trans (hb.mono h.bl.size), bk_below hb h.r, bk_below hb h.x, bk_below hb h.y, bk_below hb h.o⟩
theorem TF.alloc {w wr : World} {s : Nat} {x0 x1 y0 y1 o0 o1 o2 o3 : Int} (h : TF w wr s x0 x1 y0 y1 o0 o1 o2 o3) (o : Obj) : TF w (wr.alloc o) s x0 x1 y0 y1 o0 o1 o2 o3 := h.below ((Below.refl _ _).alloc (Nat.le_refl _) o)
theorem TF.drewN {w wr : World} {s : Nat} {x0 x1 y0 y1 o0 o1 o2 o3 : Int} (h : TF w wr s x0 x1 y0 y1 o0 o1 o2 o3) (n : Nat) : TF w (wr.drewN n) s x0 x1 y0 y1 o0 o1 o2 o3 := h.below (bl_drewN (Below.refl _ _) n)
theorem TF.far {w wr : World} {s : Nat} {x0 x1 y0 y1 o0 o1 o2 o3 : Int} (h : TF w wr s x0 x1 y0 y1 o0 o1 o2 o3) {p : Addr} (hp : s + 1 + 1 < p.block) (u : Value) : TF w (wr.setCell p u) s x0 x1 y0 y1 o0 o1 o2 o3 := by
  have hr := h.rs
  exact ⟨hr, by simpa using h.sz, h.bl.setCell (by omega) u, bk_far h.r (by omega) u, bk_far h.x (by omega) u, bk_far h.y (by omega) u, bk_far h.o (by omega) u⟩
theorem TF.set {w wr : World} {s : Nat} {x0 x1 y0 y1 o0 o1 o2 o3 : Int} (h : TF w wr s x0 x1 y0 y1 o0 o1 o2 o3) (a b c d : Int) :
    TF w ((((wr.setCell ⟨s + 1 + 1, 0, none⟩ (.int .u64 a)).setCell ⟨s + 1 + 1, 1, none⟩ (.int .u64 b)).setCell ⟨s + 1 + 1, 2, none⟩ (.int .u64 c)).setCell ⟨s + 1 + 1, 3, none⟩ (.int .u64 d)) s x0 x1 y0 y1 a b c d := by
  have hr := h.rs
  refine ⟨hr, by simpa using h.sz, ?_, ?_, ?_, ?_, ?_⟩
  · exact bl_set (bl_set (bl_set (bl_set h.bl (by dsimp only; omega) _) (by dsimp only; omega) _) (by dsimp only; omega) _) (by dsimp only; omega) _
  · exact bk_far (bk_far (bk_far (bk_far h.r (by dsimp only; omega) _) (by dsimp only; omega) _) (by dsimp only; omega) _) (by dsimp only; omega) _
  · exact bk_far (bk_far (bk_far (bk_far h.x (by dsimp only; omega) _) (by dsimp only; omega) _) (by dsimp only; omega) _) (by dsimp only; omega) _
  · exact bk_far (bk_far (bk_far (bk_far h.y (by dsimp only; omega) _) (by dsimp only; omega) _) (by dsimp only; omega) _) (by dsimp only; omega) _
  · exact bk_put (bk_put (bk_put (bk_put h.o rfl) rfl) rfl) rfl
/-- The cells' facts that a round's walk asks for. -/
theorem TF.facts {w wr : World} {s : Nat} {x0 x1 y0 y1 o0 o1 o2 o3 : Int} (h : TF w wr s x0 x1 y0 y1 o0 o1 o2 o3) :
    (wr.cell? ⟨s, 0, none⟩ = some (.int .u64 x0) ∧ wr.cell? ⟨s, 1, none⟩ = some (.int .u64 x1)) ∧ (wr.cell? ⟨s + 1, 0, none⟩ = some (.int .u64 y0) ∧ wr.cell? ⟨s + 1, 1, none⟩ = some (.int .u64 y1))
    ∧ (wr.cell? ⟨s + 1 + 1, 0, none⟩ = some (.int .u64 o0) ∧ wr.cell? ⟨s + 1 + 1, 1, none⟩ = some (.int .u64 o1) ∧ wr.cell? ⟨s + 1 + 1, 2, none⟩ = some (.int .u64 o2) ∧ wr.cell? ⟨s + 1 + 1, 3, none⟩ = some (.int .u64 o3))
    ∧ (wr.frozen? ⟨s + 1 + 1, 0, none⟩ = false ∧ wr.frozen? ⟨s + 1 + 1, 1, none⟩ = false ∧ wr.frozen? ⟨s + 1 + 1, 2, none⟩ = false ∧ wr.frozen? ⟨s + 1 + 1, 3, none⟩ = false)
    ∧ s + 1 + 1 < wr.heap.size :=
  ⟨⟨(bk_cell h.x 0).trans rfl, (bk_cell h.x 1).trans rfl⟩, ⟨(bk_cell h.y 0).trans rfl, (bk_cell h.y 1).trans rfl⟩, ⟨(bk_cell h.o 0).trans rfl, (bk_cell h.o 1).trans rfl, (bk_cell h.o 2).trans rfl, (bk_cell h.o 3).trans rfl⟩,
    ⟨bk_frozen h.o 0, bk_frozen h.o 1, bk_frozen h.o 2, bk_frozen h.o 3⟩, h.sz⟩

set_option maxHeartbeats 2000000 in
set_option maxRecDepth 100000 in
theorem times_any (a b : Int) (w : World) (ha : 0 ≤ a) (ha' : a ≤ 18446744073709551615) (hb : 0 ≤ b) (hb' : b ≤ 18446744073709551615) :
    Calls Try.prog 31 #[.int .u64 a, .int .u64 b] w fun e w' => e = .returned (W4 (a * b)) ∧ Below w.heap.size w w' := by
  have ha0 : 0 ≤ a % 4294967296 ∧ a % 4294967296 ≤ 4294967295 := by omega
  have ha1 : 0 ≤ a / 4294967296 ∧ a / 4294967296 ≤ 4294967295 := by omega
  have hb0 : 0 ≤ b % 4294967296 ∧ b % 4294967296 ≤ 4294967295 := by omega
  have hb1 : 0 ≤ b / 4294967296 ∧ b / 4294967296 ≤ 4294967295 := by omega
  have p00 := mul_bd ha0 hb0
  have p01 := mul_bd ha0 hb1
  have p10 := mul_bd ha1 hb0
  have p11 := mul_bd ha1 hb1
  have hS := Lib.hid (times_sum a b)
  go_enter Try.func31, Try.ntmps31
  go_wp2_with (first | (go_at_call 32; (with_reducible refine (of_limbs a _ ha ha').mono ?_); rintro e w1 ⟨rfl, hB1⟩) | (go_at_call 32; (with_reducible refine (of_limbs b _ hb hb').mono ?_); rintro e w2 ⟨rfl, hB2⟩))
  refine wp_loop_rounds 3 ?_
  rw [rounds_succ]
  go_wp2
  refine wp_loop_rounds 3 ?_
  rw [rounds_succ]
  go_wp2
  go_quiet (fail)
  go_wp2_with (fail)
  refine (plus_at 0 _ _ _ W4_zero (W4_small _ p00.1 p00.2) _).mono ?_
  rintro e w3 ⟨rfl, hB3⟩
  have T0 : TF w w3 w2.heap.size (a % 4294967296) (a / 4294967296) (b % 4294967296) (b / 4294967296) 0 0 0 0 := by
    have z1 := hB1.size
    have z2 := hB2.size
    simp only [World.size_alloc] at z1
    refine TF.below hB3 ⟨by omega, by simp, ?_, ?_, ?_, ?_, ?_⟩
    · repeat (with_reducible first | exact (((Below.refl _ _).alloc (Nat.le_refl _) _).trans (hB1.mono (by simp))).trans (hB2.mono (by omega)) | (refine Below.alloc ?_ (by first | omega | (simp only [World.size_alloc, World.drewN]; omega)) _) | apply bl_drewN)
    · refine bk_alloc (bk_drewN (bk_alloc (bk_alloc (bk_alloc (bk_below hB2 (bk_below hB1 (bk_new _ _ _))) _) _) _) _) _
    · repeat (with_reducible first | (refine bk_at ?_; simp only [World.size_alloc]; done) | apply bk_alloc | apply bk_drewN)
    · repeat (with_reducible first | (refine bk_at ?_; simp only [World.size_alloc]; done) | apply bk_alloc | apply bk_drewN)
    · repeat (with_reducible first | (refine bk_at ?_; simp only [World.size_alloc]; done) | apply bk_alloc | apply bk_drewN)
  generalize w2.heap.size = s at T0 ⊢
  clear hB1 hB2 hB3
  obtain ⟨⟨cx0, cx1⟩, ⟨cy0, cy1⟩, ⟨co0, co1, co2, co3⟩, ⟨cf0, cf1, cf2, cf3⟩, sz⟩ := T0.facts
  replace T0 := Lib.hid T0
  obtain ⟨o0, o1, o2, o3, ho⟩ := W4_open (0 + a % 4294967296 * (b % 4294967296))
  rw [ho]
  replace ho := Lib.hid ho
  go_wp2
  rw [rounds_succ]
  go_wp2
  go_quiet (fail)
  go_wp2_with (fail)
  refine (plus_at (0 + a % 4294967296 * (b % 4294967296)) _ _ _ ho.out (W4_small1 _ p01.1 p01.2) _).mono ?_
  rintro e w4 ⟨rfl, hB⟩
  have T1 := TF.below hB (TF.alloc (TF.drewN (TF.set T0.out o0 o1 o2 o3) _) _)
  clear hB ho T0 cx0 cx1 cy0 cy1 co0 co1 co2 co3 cf0 cf1 cf2 cf3 sz
  obtain ⟨⟨cx0, cx1⟩, ⟨cy0, cy1⟩, ⟨co0, co1, co2, co3⟩, ⟨cf0, cf1, cf2, cf3⟩, sz⟩ := T1.facts
  replace T1 := Lib.hid T1
  obtain ⟨p2, q2, r2, v2, ho⟩ := W4_open ((0 + a % 4294967296 * (b % 4294967296)) + a % 4294967296 * (b / 4294967296) * 4294967296)
  rw [ho]
  replace ho := Lib.hid ho
  go_wp2
  rw [rounds_succ]
  go_wp2
  rw [rounds_succ]
  go_wp2
  refine wp_loop_rounds 3 ?_
  rw [rounds_succ]
  go_wp2
  go_quiet (fail)
  go_wp2_with (fail)
  refine (plus_at (0 + a % 4294967296 * (b % 4294967296) + a % 4294967296 * (b / 4294967296) * 4294967296) _ _ _ ho.out (W4_small1 _ p10.1 p10.2) _).mono ?_
  rintro e w5 ⟨rfl, hB⟩
  have T2 := TF.below hB (TF.alloc (TF.drewN (TF.set T1.out p2 q2 r2 v2) _) _)
  clear hB ho T1 cx0 cx1 cy0 cy1 co0 co1 co2 co3 cf0 cf1 cf2 cf3 sz
  obtain ⟨⟨cx0, cx1⟩, ⟨cy0, cy1⟩, ⟨co0, co1, co2, co3⟩, ⟨cf0, cf1, cf2, cf3⟩, sz⟩ := T2.facts
  replace T2 := Lib.hid T2
  obtain ⟨p3, q3, r3, v3, ho⟩ := W4_open ((0 + a % 4294967296 * (b % 4294967296) + a % 4294967296 * (b / 4294967296) * 4294967296) + a / 4294967296 * (b % 4294967296) * 4294967296)
  rw [ho]
  replace ho := Lib.hid ho
  go_wp2
  rw [rounds_succ]
  go_wp2
  go_quiet (fail)
  go_wp2_with (fail)
  refine (plus_at (0 + a % 4294967296 * (b % 4294967296) + a % 4294967296 * (b / 4294967296) * 4294967296 + a / 4294967296 * (b % 4294967296) * 4294967296) _ _ _ ho.out (W4_small2 _ p11.1 p11.2) _).mono ?_
  rintro e w6 ⟨rfl, hB⟩
  have T3 := TF.below hB (TF.alloc (TF.drewN (TF.set T2.out p3 q3 r3 v3) _) _)
  clear hB ho T2 cx0 cx1 cy0 cy1 co0 co1 co2 co3 cf0 cf1 cf2 cf3 sz
  obtain ⟨⟨cx0, cx1⟩, ⟨cy0, cy1⟩, ⟨co0, co1, co2, co3⟩, ⟨cf0, cf1, cf2, cf3⟩, sz⟩ := T3.facts
  replace T3 := Lib.hid T3
  obtain ⟨p4, q4, r4, v4, ho⟩ := W4_open ((0 + a % 4294967296 * (b % 4294967296) + a % 4294967296 * (b / 4294967296) * 4294967296 + a / 4294967296 * (b % 4294967296) * 4294967296) + a / 4294967296 * (b / 4294967296) * 4294967296 * 4294967296)
  rw [ho]
  replace ho := Lib.hid ho
  have cr0 := (bk_cell T3.out.r 0).trans rfl
  have cr1 := (bk_cell T3.out.r 1).trans rfl
  have cr2 := (bk_cell T3.out.r 2).trans rfl
  have cr3 := (bk_cell T3.out.r 3).trans rfl
  have fr0 := bk_frozen T3.out.r 0
  have fr1 := bk_frozen T3.out.r 1
  have fr2 := bk_frozen T3.out.r 2
  have fr3 := bk_frozen T3.out.r 3
  have hrs := T3.out.rs
  have hne : (w.heap.size = s + 1 + 1) = False := by simp; omega
  have hne' : (s + 1 + 1 = w.heap.size) = False := by simp; omega
  go_wp2
  rw [rounds_succ]
  go_wp2
  rw [rounds_succ]
  go_wp2
  refine bodyPost_ret (v := .agg #[.int .u64 p4, .int .u64 q4, .int .u64 r4, .int .u64 v4]) (by simp [results, Try.results31, go_sem, hne, hne', cr0, cr1, cr2, cr3]) rfl ⟨?_, ?_⟩
  · rw [← hS.out, ho.out]
  · repeat (with_reducible first | exact T3.out.bl | refine bl_set ?_ (by dsimp only; omega) _)
end Go.Proofs.Ytbhhckeccpodmaa
